/-
  Package item's builder: a claim, a ballot, a decision (printed by gen_itemg.py). Package item's formOf, message and signedBy. What a right item is: small; its text is not empty. No walk in this text. The contract of item.Right (printed by gen_itemf.py). Package item's Bytes, Digest and Signed.
  More arms of the walk: a value that is built, an operation whose run is known. Rows of things of k cells each: append of a slice, wherever it lies, onto a row of the call's own; what such a row reads.
  Package item's Signed, OfBallot, OfClaim. Package item's SignBallot.
-/
import Derived.Test.YtjfcllanochhmaaGreatDoorItemZ
import Derived.Test.YtjfcllanochhmaaGreatDoorBld2
import Derived.Test.YtjfcllanochhmaaGreatDoorRuns
import Derived.Test.YtjfcllanochhmaaGreatDoorItemE
import Derived.Test.YtjfcllanochhmaaGreatDoorItemB
import Derived.Test.YtjfcllanochhmaaGreatDoorStore
import Derived.Deep.Cut
set_option linter.unusedVariables false
set_option linter.unusedSimpArgs false
namespace Go.Proofs.YtjfcllanochhmaaGreatDoor.Item
open Go.RowKit Grp Mem _root_.Go.Proofs.YtjfcllanochhmaaGreatDoor.Code Sha Sign

theorem hid2 {p q : Prop} (h : Hid p) (f : p → q) : Hid q := Lib.hid (f h.out)

set_option maxRecDepth 100000 in
set_option maxHeartbeats 4000000 in
theorem bclaim_any (B g : Nat) (L : List UInt8) (i : ItemR) (w : World) (hb : Bld B g w L) (hL : L.length ≤ 1000000) (h_actor : i.claim.actor.size ≤ 1000000) (h_prev : i.claim.prev.size ≤ 1000000) (hn : ∀ n ∈ [i.claim.base, i.claim.gen, i.claim.home, i.claim.pub, i.claim.time], n ≤ 9223372036854775807) :
    Calls Tryz.prog 64 #[.pointer (some ⟨g, 0, none⟩), .agg (itA i)] w fun e w' => e = .returned (.tuple #[]) ∧ (Bld B g w' (L ++ claimL i.claim) ∧ Tk B g w w') := by
  obtain ⟨w1, x, hx, hq1, hl, hr⟩ := boxed w 47 i.cells
  have hx : w.alloc (.cells (itA i) 47) = x.w := hx
  have hAc := item_claim hl hr
  have hg := hb.stay
  have hbx := Lib.hid ((hb.q hq1).q x.q)
  have hqx := Lib.hid (Q.trans hq1 x.q)
  have hsx : w.heap.size < x.w.heap.size := Nat.lt_of_lt_of_le hl x.q.size
  clear hr hb
  go_enter Tryz.func64, Tryz.ntmps64
  go_wp2_with (first | (refine wpList_load_run 41 (.tmp 5) (.pointer (some ⟨w.heap.size, 21, none⟩)) (.agg (claimA i.claim)) ?_ ?_ ?_ ?_ ?_; rfl; rfl; rfl; exact hAc _) | (refine wpList_store_blk (Blk.new x.w 41 claim0.cells.toArray) rfl 41 (.tmp 4) (.tmp 6) i.claim.cells rfl rfl rfl (by kernel_rfl) (claim_all _) (Nat.le_refl 9) ?_))
  intro W hW hbel
  rw [splice_all _ _ (by rfl)] at hW
  have hqW : Q w W := hbel _ _ (by omega) (Below.alloc hqx.out (by omega) _)
  have hbW : Bld B g W L := hbx.out.q (hbel _ _ (Nat.le_refl _) (q_new _ _ _))
  have hst : Stay B g W x.w.heap.size := Stay.blk hW (by omega) (by decide)
  have c0 := Kd.cell (v := .string i.claim.actor) hW hst 0 rfl
  have c1 := Kd.cell (v := .int .i64 i.claim.base) hW hst 1 rfl
  have c2 := Kd.cell (v := .string i.claim.prev) hW hst 2 rfl
  have c3 := Kd.cell (v := .int .i64 i.claim.gen) hW hst 3 rfl
  have c4 := Kd.cell (v := .int .i64 i.claim.home) hW hst 4 rfl
  have c5 := Kd.cell (v := .int .i64 i.claim.pub) hW hst 5 rfl
  have c6 := Kd.cell (v := .int .i64 i.claim.time) hW hst 6 rfl
  obtain ⟨y, hy⟩ := Kd.first B g W
  have hby : Bld B g y.w L := hy ▸ hbW
  rw [hy]
  have HW := Lib.hid hqW
  have HS := Lib.hid hst
  have HWB := Lib.hid hW
  clear hW hbel hAc hst hx hy hqW hbW
  have t_actor := textL_length i.claim.actor
  have t_prev := textL_length i.claim.prev
  have n_base := numL_bd i.claim.base
  have b_base := hn i.claim.base (by simp)
  have n_gen := numL_bd i.claim.gen
  have b_gen := hn i.claim.gen (by simp)
  have n_home := numL_bd i.claim.home
  have b_home := hn i.claim.home (by simp)
  have n_pub := numL_bd i.claim.pub
  have b_pub := hn i.claim.pub (by simp)
  have n_time := numL_bd i.claim.time
  have b_time := hn i.claim.time (by simp)
  clear hn
  go_wp2_with (go_at_call 101; refine (texts_lit hby [i.claim.actor] _ _ 1000000 _ rfl rfl rfl (by simp) (by simpa using h_actor) (by simp only [List.length_append, List.flatMap_cons, List.flatMap_nil, List.length_cons, List.length_nil]; omega)).mono ?_; rintro e w' ⟨rfl, hb1, hk1⟩; obtain ⟨y1, rfl⟩ := Kd.next _ hk1; clear hk1)
  go_wp2_with (go_at_call 32; refine (nums_lit hb1 [i.claim.base] _ _ _ rfl rfl rfl (by simp; omega) (by simp only [List.length_append, List.flatMap_cons, List.flatMap_nil, List.length_cons, List.length_nil]; omega)).mono ?_; rintro e w' ⟨rfl, hb2, hk1⟩; obtain ⟨y2, rfl⟩ := Kd.next _ hk1; clear hk1)
  go_wp2_with (go_at_call 101; refine (texts_lit hb2 [i.claim.prev] _ _ 1000000 _ rfl rfl rfl (by simp) (by simpa using h_prev) (by simp only [List.length_append, List.flatMap_cons, List.flatMap_nil, List.length_cons, List.length_nil]; omega)).mono ?_; rintro e w' ⟨rfl, hb3, hk1⟩; obtain ⟨y3, rfl⟩ := Kd.next _ hk1; clear hk1)
  go_wp2_with (go_at_call 32; refine (nums_lit hb3 [i.claim.gen, i.claim.home, i.claim.pub, i.claim.time] _ _ _ rfl rfl rfl (by simp; omega) (by simp only [List.length_append, List.flatMap_cons, List.flatMap_nil, List.length_cons, List.length_nil]; omega)).mono ?_; rintro e w' ⟨rfl, hb4, hk1⟩; obtain ⟨y4, rfl⟩ := Kd.next _ hk1; clear hk1)
  go_end0
  refine ⟨rfl, ?_, (Tk.of_q HW.out).trans y4.q⟩
  have e : (((L ++ [i.claim.actor].flatMap textL) ++ [i.claim.base].flatMap numL) ++ [i.claim.prev].flatMap textL) ++ [i.claim.gen, i.claim.home, i.claim.pub, i.claim.time].flatMap numL = L ++ claimL i.claim := by
    simp only [claimL, List.flatMap_cons, List.flatMap_nil, List.append_nil, List.append_assoc]
  rw [← e]
  exact hb4

set_option maxRecDepth 100000 in
set_option maxHeartbeats 4000000 in
theorem bballot_any (B g : Nat) (L : List UInt8) (i : ItemR) (w : World) (hb : Bld B g w L) (hL : L.length ≤ 1000000) (h_actor : i.ballot.actor.size ≤ 1000000) (h_claim : i.ballot.claim.size ≤ 1000000) (hn : ∀ n ∈ [i.ballot.server, i.ballot.gen, i.ballot.time], n ≤ 9223372036854775807) :
    Calls Tryz.prog 65 #[.pointer (some ⟨g, 0, none⟩), .agg (itA i)] w fun e w' => e = .returned (.tuple #[]) ∧ (Bld B g w' (L ++ ballotL i.ballot) ∧ Tk B g w w') := by
  obtain ⟨w1, x, hx, hq1, hl, hr⟩ := boxed w 47 i.cells
  have hx : w.alloc (.cells (itA i) 47) = x.w := hx
  have hAc := item_ballot hl hr
  have hg := hb.stay
  have hbx := Lib.hid ((hb.q hq1).q x.q)
  have hqx := Lib.hid (Q.trans hq1 x.q)
  have hsx : w.heap.size < x.w.heap.size := Nat.lt_of_lt_of_le hl x.q.size
  clear hr hb
  go_enter Tryz.func65, Tryz.ntmps65
  go_wp2_with (first | (refine wpList_load_run 43 (.tmp 5) (.pointer (some ⟨w.heap.size, 30, none⟩)) (.agg (ballotA i.ballot)) ?_ ?_ ?_ ?_ ?_; rfl; rfl; rfl; exact hAc _) | (refine wpList_store_blk (Blk.new x.w 43 ballot0.cells.toArray) rfl 43 (.tmp 4) (.tmp 6) i.ballot.cells rfl rfl rfl (by kernel_rfl) (ballot_all _) (Nat.le_refl 7) ?_))
  intro W hW hbel
  rw [splice_all _ _ (by rfl)] at hW
  have hqW : Q w W := hbel _ _ (by omega) (Below.alloc hqx.out (by omega) _)
  have hbW : Bld B g W L := hbx.out.q (hbel _ _ (Nat.le_refl _) (q_new _ _ _))
  have hst : Stay B g W x.w.heap.size := Stay.blk hW (by omega) (by decide)
  have c0 := Kd.cell (v := .int .i64 i.ballot.server) hW hst 0 rfl
  have c1 := Kd.cell (v := .string i.ballot.actor) hW hst 1 rfl
  have c2 := Kd.cell (v := .int .i64 i.ballot.gen) hW hst 2 rfl
  have c3 := Kd.cell (v := .string i.ballot.claim) hW hst 3 rfl
  have c4 := Kd.cell (v := .int .i64 i.ballot.time) hW hst 4 rfl
  obtain ⟨y, hy⟩ := Kd.first B g W
  have hby : Bld B g y.w L := hy ▸ hbW
  rw [hy]
  have HW := Lib.hid hqW
  have HS := Lib.hid hst
  have HWB := Lib.hid hW
  clear hW hbel hAc hst hx hy hqW hbW
  have t_actor := textL_length i.ballot.actor
  have t_claim := textL_length i.ballot.claim
  have n_server := numL_bd i.ballot.server
  have b_server := hn i.ballot.server (by simp)
  have n_gen := numL_bd i.ballot.gen
  have b_gen := hn i.ballot.gen (by simp)
  have n_time := numL_bd i.ballot.time
  have b_time := hn i.ballot.time (by simp)
  clear hn
  go_wp2_with (go_at_call 32; refine (nums_lit hby [i.ballot.server] _ _ _ rfl rfl rfl (by simp; omega) (by simp only [List.length_append, List.flatMap_cons, List.flatMap_nil, List.length_cons, List.length_nil]; omega)).mono ?_; rintro e w' ⟨rfl, hb1, hk1⟩; obtain ⟨y1, rfl⟩ := Kd.next _ hk1; clear hk1)
  go_wp2_with (go_at_call 101; refine (texts_lit hb1 [i.ballot.actor] _ _ 1000000 _ rfl rfl rfl (by simp) (by simpa using h_actor) (by simp only [List.length_append, List.flatMap_cons, List.flatMap_nil, List.length_cons, List.length_nil]; omega)).mono ?_; rintro e w' ⟨rfl, hb2, hk1⟩; obtain ⟨y2, rfl⟩ := Kd.next _ hk1; clear hk1)
  go_wp2_with (go_at_call 32; refine (nums_lit hb2 [i.ballot.gen] _ _ _ rfl rfl rfl (by simp; omega) (by simp only [List.length_append, List.flatMap_cons, List.flatMap_nil, List.length_cons, List.length_nil]; omega)).mono ?_; rintro e w' ⟨rfl, hb3, hk1⟩; obtain ⟨y3, rfl⟩ := Kd.next _ hk1; clear hk1)
  go_wp2_with (go_at_call 101; refine (texts_lit hb3 [i.ballot.claim] _ _ 1000000 _ rfl rfl rfl (by simp) (by simpa using h_claim) (by simp only [List.length_append, List.flatMap_cons, List.flatMap_nil, List.length_cons, List.length_nil]; omega)).mono ?_; rintro e w' ⟨rfl, hb4, hk1⟩; obtain ⟨y4, rfl⟩ := Kd.next _ hk1; clear hk1)
  go_wp2_with (go_at_call 32; refine (nums_lit hb4 [i.ballot.time] _ _ _ rfl rfl rfl (by simp; omega) (by simp only [List.length_append, List.flatMap_cons, List.flatMap_nil, List.length_cons, List.length_nil]; omega)).mono ?_; rintro e w' ⟨rfl, hb5, hk1⟩; obtain ⟨y5, rfl⟩ := Kd.next _ hk1; clear hk1)
  go_end0
  refine ⟨rfl, ?_, (Tk.of_q HW.out).trans y5.q⟩
  have e : ((((L ++ [i.ballot.server].flatMap numL) ++ [i.ballot.actor].flatMap textL) ++ [i.ballot.gen].flatMap numL) ++ [i.ballot.claim].flatMap textL) ++ [i.ballot.time].flatMap numL = L ++ ballotL i.ballot := by
    simp only [ballotL, List.flatMap_cons, List.flatMap_nil, List.append_nil, List.append_assoc]
  rw [← e]
  exact hb5

set_option maxRecDepth 100000 in
set_option maxHeartbeats 4000000 in
theorem bdec_any (B g : Nat) (L : List UInt8) (i : ItemR) (w : World) (w0 : World) (hBw : B = w0.heap.size) (hq0 : Q w0 w) (hD : DecIn w0 i.dec) (hlo : (listL i.dec.to).length ≤ 100000000) (hlt : i.dec.to.length ≤ 1000000) (hb : Bld B g w L) (hL : L.length ≤ 1000000) (h_actor : i.dec.actor.size ≤ 1000000) (h_object : i.dec.object.size ≤ 1000000) (h_text : i.dec.text.size ≤ 1000000) (hn : ∀ n ∈ [i.dec.server, i.dec.number, i.dec.kind, i.dec.n, i.dec.start, i.dec.stop], n ≤ 9223372036854775807) :
    Calls Tryz.prog 66 #[.pointer (some ⟨g, 0, none⟩), .agg (itA i)] w fun e w' => e = .returned (.tuple #[]) ∧ (Bld B g w' (L ++ decL i.dec) ∧ Tk B g w w') := by
  obtain ⟨w1, x, hx, hq1, hl, hr⟩ := boxed w 47 i.cells
  have hx : w.alloc (.cells (itA i) 47) = x.w := hx
  have hAc := item_dec hl hr
  have hg := hb.stay
  have hbx := Lib.hid ((hb.q hq1).q x.q)
  have hqx := Lib.hid (Q.trans hq1 x.q)
  have hsx : w.heap.size < x.w.heap.size := Nat.lt_of_lt_of_le hl x.q.size
  clear hr hb
  go_enter Tryz.func66, Tryz.ntmps66
  go_wp2_with (first | (refine wpList_load_run 45 (.tmp 5) (.pointer (some ⟨w.heap.size, 37, none⟩)) (.agg (decA i.dec)) ?_ ?_ ?_ ?_ ?_; rfl; rfl; rfl; exact hAc _) | (refine wpList_store_blk (Blk.new x.w 45 dec0.cells.toArray) rfl 45 (.tmp 4) (.tmp 6) i.dec.cells rfl rfl rfl (by kernel_rfl) (dec_all _) (Nat.le_refl 12) ?_))
  intro W hW hbel
  rw [splice_all _ _ (by rfl)] at hW
  have hqW : Q w W := hbel _ _ (by omega) (Below.alloc hqx.out (by omega) _)
  have hbW : Bld B g W L := hbx.out.q (hbel _ _ (Nat.le_refl _) (q_new _ _ _))
  have hst : Stay B g W x.w.heap.size := Stay.blk hW (by omega) (by decide)
  have c0 := Kd.cell (v := .int .i64 i.dec.server) hW hst 0 rfl
  have c1 := Kd.cell (v := .int .i64 i.dec.number) hW hst 1 rfl
  have c2 := Kd.cell (v := .int .i64 i.dec.kind) hW hst 2 rfl
  have c3 := Kd.cell (v := .string i.dec.actor) hW hst 3 rfl
  have c4 := Kd.cell (v := .string i.dec.object) hW hst 4 rfl
  have c5 := Kd.cell (v := .string i.dec.text) hW hst 5 rfl
  have c6 := Kd.cell (v := .slice i.dec.toA i.dec.to.length i.dec.toC) hW hst 6 rfl
  have c7 := Kd.cell (v := .int .i64 i.dec.n) hW hst 7 rfl
  have c8 := Kd.cell (v := .int .i64 i.dec.start) hW hst 8 rfl
  have c9 := Kd.cell (v := .int .i64 i.dec.stop) hW hst 9 rfl
  obtain ⟨y, hy⟩ := Kd.first B g W
  have hby : Bld B g y.w L := hy ▸ hbW
  rw [hy]
  have HW := Lib.hid hqW
  have HS := Lib.hid hst
  have HWB := Lib.hid hW
  clear hW hbel hAc hst hx hy hqW hbW
  have t_actor := textL_length i.dec.actor
  have t_object := textL_length i.dec.object
  have t_text := textL_length i.dec.text
  have n_server := numL_bd i.dec.server
  have b_server := hn i.dec.server (by simp)
  have n_number := numL_bd i.dec.number
  have b_number := hn i.dec.number (by simp)
  have n_kind := numL_bd i.dec.kind
  have b_kind := hn i.dec.kind (by simp)
  have n_n := numL_bd i.dec.n
  have b_n := hn i.dec.n (by simp)
  have n_start := numL_bd i.dec.start
  have b_start := hn i.dec.start (by simp)
  have n_stop := numL_bd i.dec.stop
  have b_stop := hn i.dec.stop (by simp)
  clear hn
  go_wp2_with (go_at_call 32; refine (nums_lit hby [i.dec.server, i.dec.number, i.dec.kind] _ _ _ rfl rfl rfl (by simp; omega) (by simp only [List.length_append, List.flatMap_cons, List.flatMap_nil, List.length_cons, List.length_nil]; omega)).mono ?_; rintro e w' ⟨rfl, hb1, hk1⟩; obtain ⟨y1, rfl⟩ := Kd.next _ hk1; clear hk1)
  go_wp2_with (go_at_call 101; refine (texts_lit hb1 [i.dec.actor, i.dec.object, i.dec.text] _ _ 1000000 _ rfl rfl rfl (by simp) (by simpa using ⟨h_actor, h_object, h_text⟩) (by simp only [List.length_append, List.flatMap_cons, List.flatMap_nil, List.length_cons, List.length_nil]; omega)).mono ?_; rintro e w' ⟨rfl, hb2, hk1⟩; obtain ⟨y2, rfl⟩ := Kd.next _ hk1; clear hk1)
  go_wp2_with fail
  obtain ⟨hB, v, hgv, hown⟩ := hb2
  have hqy : Q w0 y2.w := Tk.q y2.q hBw (Q.trans hq0 HW.out)
  have hS : ∀ z : Wd y2.w, Strs z.w i.dec.toA i.dec.to := fun z => hD.to.q (Q.trans hqy z.q)
  have cg : ∀ z : Wd y2.w, z.w.cell? ⟨g, 0, none⟩ = some v := fun z => (z.q.cell (p := ⟨g, 0, none⟩) hgv.lt).trans (hgv.cell 0)
  have cs : ∀ z : Wd y2.w, z.w.cell? ⟨x.w.heap.size, 6, none⟩ = some (.slice i.dec.toA i.dec.to.length i.dec.toC) := fun z => (z.q.cell (p := ⟨x.w.heap.size, 6, none⟩) (Nat.lt_of_lt_of_le HS.out.lt y2.q.size)).trans (c6 y2)
  have hll := listB_size i.dec.to
  obtain ⟨i0, hi, hz0, hz1, hz2⟩ := info_parts Code.byte_info
  have hHll := Lib.hid hll
  clear hll
  have htc := hD.toC
  have HBw := Lib.hid hBw
  clear hBw
  refine wp_region_wd_parts (⟨_, Q.refl _⟩ : Wd y2.w) 1 8 (by kernel_rfl) (by kernel_rfl) (by intro c d v a w h; cases d <;> exact h) ?_
  simp only [List.take_succ_cons, List.take_zero, List.drop_succ_cons, List.drop_zero]
  refine wpPure_move _ _ rfl rfl rfl (wpPure_nil ?_)
  simp only [Act.put, List.setIfInBounds_toArray, List.set_cons_succ, List.set_cons_zero]
  repeat (go_big_quiet_step (exact Wd.call _ (List_any _ _ _ _ (hS _) (by omega) (by omega))))
  refine wpQuiet_nil ?_
  rintro w'' ⟨z, rfl⟩
  have hown' := hown.q z.q
  have hg' := hgv.q z.q
  generalize hY : ((L ++ [i.dec.server, i.dec.number, i.dec.kind].flatMap numL) ++ [i.dec.actor, i.dec.object, i.dec.text].flatMap textL) = Y at *
  have hYl : Y.length ≤ 5000000 := by
    rw [← hY]
    simp only [List.length_append, List.flatMap_cons, List.flatMap_nil, List.length_cons, List.length_nil]
    omega
  have HYY := Lib.hid hY
  clear hY
  have hlB : (listB i.dec.to).size ≤ 100000000 := by rw [hHll.out]; exact hlo
  go_wp2_with (at_builtin; refine wpList_append_owns_string _ rfl (.tmp 29) (.tmp 32) 75 9 rfl B 5 i0 Tryz.underlying75 Tryz.underlying9 hi hz0 hz1 hz2 v Y.length (cellsOf Y) rfl hown' (listB i.dec.to) rfl ?_ ?_ ?_ ?_)
  · simp only [maxLen]; omega
  · omega
  · have := hg'.lt; omega
  intro v2 w2 hown2 hgr
  rw [strCells_eq, hHll.out, listB_list, ← cellsOf_append, ← List.length_append] at hown2
  have hg2 := Bld.at2 hg' hown' hgr
  have z0 : w2.cell? ⟨g, 0, none⟩ = some v := hg2.cell 0
  have z1 := hg2.frozen 0
  obtain ⟨hb2, hk2⟩ := Bld.step (L' := Y ++ listL i.dec.to) hB hg' hown' hown2 hgr
  obtain ⟨A2, cap2, rfl, -, -⟩ := hown2.shape
  rw [List.length_append] at hb2 hk2
  obtain ⟨y3, hy3⟩ := Kd.next y2 ((Tk.of_q z.q).trans hk2)
  have hb3 := hb2
  have HY3 := Lib.hid hy3
  have d7 : (w2.setCell ⟨g, 0, none⟩ (.slice A2 (Y.length + (listL i.dec.to).length) cap2)).cell? ⟨x.w.heap.size, 7, none⟩ = some (.int .i64 i.dec.n) := hy3 ▸ c7 y3
  have d8 : (w2.setCell ⟨g, 0, none⟩ (.slice A2 (Y.length + (listL i.dec.to).length) cap2)).cell? ⟨x.w.heap.size, 8, none⟩ = some (.int .i64 i.dec.start) := hy3 ▸ c8 y3
  have d9 : (w2.setCell ⟨g, 0, none⟩ (.slice A2 (Y.length + (listL i.dec.to).length) cap2)).cell? ⟨x.w.heap.size, 9, none⟩ = some (.int .i64 i.dec.stop) := hy3 ▸ c9 y3
  clear hb2 hown2 hown' hown hg2 cg cs hk2 hy3 hgr hS
  go_wp2_with (go_at_call 32; refine (nums_lit hb3 [i.dec.n, i.dec.start, i.dec.stop] _ _ _ (by simp) rfl rfl (by simp; omega) (by simp only [List.length_append, List.flatMap_cons, List.flatMap_nil, List.length_cons, List.length_nil]; omega)).mono ?_; rintro e w' ⟨rfl, hb4, hk1⟩; obtain ⟨y4, rfl⟩ := Kd.next y3 (HY3.out ▸ hk1); clear hk1)
  go_end0
  refine ⟨rfl, ?_, (Tk.of_q HW.out).trans y4.q⟩
  have e : ((((L ++ [i.dec.server, i.dec.number, i.dec.kind].flatMap numL) ++ [i.dec.actor, i.dec.object, i.dec.text].flatMap textL) ++ listL i.dec.to) ++ [i.dec.n, i.dec.start, i.dec.stop].flatMap numL) = L ++ decL i.dec := by
    simp only [decL, List.flatMap_cons, List.flatMap_nil, List.append_nil, List.append_assoc]
  rw [← e, HYY.out]
  exact hb4

end Go.Proofs.YtjfcllanochhmaaGreatDoor.Item

namespace Go.Proofs.YtjfcllanochhmaaGreatDoor.Item
open Go.RowKit Grp Mem _root_.Go.Proofs.YtjfcllanochhmaaGreatDoor.Code Sha Sign

def coreF (i : ItemR) : Nat := if i.kind = 1 then 64 else if i.kind = 2 then 65 else 66
def formA (i : ItemR) : List Value := [.string (nameT i), .func (.func (coreF i)) #[] #[], .int .i64 (sigV i).1, .int .i64 (sigV i).2]
theorem formA1 {i : ItemR} (h : i.kind = 1) : formA i = [.string claimT, .func (.func 64) #[] #[], .int .i64 i.claim.e, .int .i64 i.claim.s] := by
  unfold formA nameT coreF sigV
  rw [if_pos h, if_pos h, if_pos h]
theorem formA2 {i : ItemR} (h : i.kind = 2) : formA i = [.string ballotT, .func (.func 65) #[] #[], .int .i64 i.ballot.e, .int .i64 i.ballot.s] := by
  have h1 : ¬ i.kind = 1 := by omega
  unfold formA nameT coreF sigV
  rw [if_neg h1, if_neg h1, if_neg h1, if_pos h, if_pos h, if_pos h]
theorem formA3 {i : ItemR} (h1 : ¬ i.kind = 1) (h : ¬ i.kind = 2) : formA i = [.string decisionT, .func (.func 66) #[] #[], .int .i64 i.dec.e, .int .i64 i.dec.s] := by
  unfold formA nameT coreF sigV
  rw [if_neg h1, if_neg h1, if_neg h1, if_neg h, if_neg h, if_neg h]
def form0 : List Value := [.string emptyT, .nilFunc, .int .i64 0, .int .i64 0]
theorem cell_of {w1 : World} {g : Nat} {cs : List Value} (hl : g < w1.heap.size) (hr : w1.rangeAt g 0 cs) (j : Nat) (v : Value) (hv : cs[j]? = some v) : ∀ y : Wd w1, y.w.cell? ⟨g, j, none⟩ = some v := Wd.at0 hl hr j hv

set_option maxRecDepth 100000 in
set_option maxHeartbeats 2000000 in
theorem formOf_any (i : ItemR) (w : World) : Calls Tryz.prog 34 #[.agg (itA i)] w fun e w' => e = .returned (.agg (formA i).toArray) ∧ Q w w' := by
  obtain ⟨w1, x, hx, hq1, hl, hr⟩ := boxed w 47 i.cells
  have hx : w.alloc (.cells (itA i) 47) = x.w := hx
  have c0 := cell_of hl hr 0 (.int .i64 i.kind) rfl
  have c28 := cell_of hl hr 28 (.int .i64 i.claim.e) rfl
  have c29 := cell_of hl hr 29 (.int .i64 i.claim.s) rfl
  have c35 := cell_of hl hr 35 (.int .i64 i.ballot.e) rfl
  have c36 := cell_of hl hr 36 (.int .i64 i.ballot.s) rfl
  have c47 := cell_of hl hr 47 (.int .i64 i.dec.e) rfl
  have c48 := cell_of hl hr 48 (.int .i64 i.dec.s) rfl
  have hsx : w.heap.size < x.w.heap.size := Nat.lt_of_lt_of_le hl x.q.size
  have hqx := Lib.hid (Q.trans hq1 x.q)
  clear hr
  by_cases h1 : i.kind = 1
  · have HF := Lib.hid (formA1 h1)
    go_enter Tryz.func34, Tryz.ntmps34
    go_wp2_with fail
    exact bodyPost_ret (results_cell_row rfl _ _ x.w.heap.size 82 _ (0, 0) _ rfl (Blk.new x.w _ _) Tryz.underlying82 rfl (by kernel_rfl)) rfl ⟨by rw [HF.out]; rfl, Q.trans hqx.out (q_new _ _ _)⟩
  · by_cases h2 : i.kind = 2
    · have HF := Lib.hid (formA2 h2)
      go_enter Tryz.func34, Tryz.ntmps34
      go_wp2_with fail
      exact bodyPost_ret (results_cell_row rfl _ _ x.w.heap.size 82 _ (0, 0) _ rfl (Blk.new x.w _ _) Tryz.underlying82 rfl (by kernel_rfl)) rfl ⟨by rw [HF.out]; rfl, Q.trans hqx.out (q_new _ _ _)⟩
    · have HF := Lib.hid (formA3 h1 h2)
      go_enter Tryz.func34, Tryz.ntmps34
      go_wp2_with fail
      exact bodyPost_ret (results_cell_row rfl _ _ x.w.heap.size 82 _ (0, 0) _ rfl (Blk.new x.w _ _) Tryz.underlying82 rfl (by kernel_rfl)) rfl ⟨by rw [HF.out]; rfl, Q.trans hqx.out (q_new _ _ _)⟩

/-- The sizes that the builder wants: what a right claim, ballot or decision has; and one that is not signed yet. -/
structure SmallI (i : ItemR) : Prop where
  claim : i.kind = 1 → i.claim.actor.size ≤ 1000000 ∧ i.claim.prev.size ≤ 1000000 ∧ ∀ n ∈ [i.claim.base, i.claim.gen, i.claim.home, i.claim.pub, i.claim.time], n ≤ 9223372036854775807
  ballot : i.kind = 2 → i.ballot.actor.size ≤ 1000000 ∧ i.ballot.claim.size ≤ 1000000 ∧ ∀ n ∈ [i.ballot.server, i.ballot.gen, i.ballot.time], n ≤ 9223372036854775807
  dec : ¬ i.kind = 1 → ¬ i.kind = 2 → i.dec.actor.size ≤ 1000000 ∧ i.dec.object.size ≤ 1000000 ∧ i.dec.text.size ≤ 1000000 ∧ (∀ n ∈ [i.dec.server, i.dec.number, i.dec.kind, i.dec.n, i.dec.start, i.dec.stop], n ≤ 9223372036854775807) ∧ (listL i.dec.to).length ≤ 100000000 ∧ i.dec.to.length ≤ 1000000
theorem core_enter (i : ItemR) (args : Array Value) (w : World) : (callFunc (coreF i) args).run Tryz.prog w = .ok (.enter (coreF i) args) w := by
  unfold coreF
  split
  · exact enter_run (fn := Tryz.f64) Tryz.func64 (by kernel_rfl) rfl args w
  · split
    · exact enter_run (fn := Tryz.f65) Tryz.func65 (by kernel_rfl) rfl args w
    · exact enter_run (fn := Tryz.f66) Tryz.func66 (by kernel_rfl) rfl args w
/-- The method that a form holds. -/
theorem bcore_any (B g : Nat) (L : List UInt8) (i : ItemR) (w w0 : World) (hBw : B = w0.heap.size) (hq0 : Q w0 w) (hD : DecIn w0 i.dec) (hs : SmallI i) (hb : Bld B g w L) (hL : L.length ≤ 1000000) :
    Calls Tryz.prog (coreF i) #[.pointer (some ⟨g, 0, none⟩), .agg (itA i)] w fun e w' => e = .returned (.tuple #[]) ∧ (Bld B g w' (L ++ itemL i) ∧ Tk B g w w') := by
  unfold coreF itemL
  by_cases h1 : i.kind = 1
  · rw [if_pos h1, if_pos h1]
    obtain ⟨a, b, c⟩ := hs.claim h1
    exact bclaim_any B g L i w hb hL a b c
  · rw [if_neg h1, if_neg h1]
    by_cases h2 : i.kind = 2
    · rw [if_pos h2, if_pos h2]
      obtain ⟨a, b, c⟩ := hs.ballot h2
      exact bballot_any B g L i w hb hL a b c
    · rw [if_neg h2, if_neg h2]
      obtain ⟨a, b, c, d, e, f⟩ := hs.dec h1 h2
      exact bdec_any B g L i w w0 hBw hq0 hD e f hb hL a b c d
theorem form_all (i : ItemR) : (formA i).toArray.all (·.oneCell') = true := by simp [formA, Value.oneCell']
theorem nameT_size (i : ItemR) : (nameT i).size ≤ 8 := by
  unfold nameT
  split
  · decide
  · split <;> decide

set_option maxRecDepth 100000 in
set_option maxHeartbeats 4000000 in
theorem message_any (i : ItemR) (w : World) (hD : DecIn w i.dec) (hs : SmallI i) : Calls Tryz.prog 73 #[.agg (itA i)] w fun e w' => e = .returned (.string (messageB i)) ∧ Q w w' := by
  obtain ⟨w1, x, hx, hq1, hbk⟩ := boxedB w 47 i.cells
  have hl := hbk.lt
  have hr := Blk.range hbk
  have hx : w.alloc (.cells (itA i) 47) = x.w := hx
  have hIt : ∀ y : Wd w1, (Instr.loadAt 47 (.pointer (some ⟨w.heap.size, 0, none⟩))).run Tryz.prog y.w = .ok (.agg (itA i)) y.w := Wd.load hl hr Tryz.underlying47 rfl (by kernel_rfl)
  have hqx := Lib.hid (Q.trans hq1 x.q)
  have hsx : w.heap.size < x.w.heap.size := Nat.lt_of_lt_of_le hl x.q.size
  have hn := nameT_size i
  have hcr := core_enter i
  go_enter Tryz.func73, Tryz.ntmps73
  go_wp2_with (first | (refine wpList_load_run 47 (.tmp 1) (.pointer (some ⟨w.heap.size, 0, none⟩)) (.agg (itA i)) ?_ ?_ ?_ ?_ ?_; rfl; rfl; rfl; exact hIt _) | (go_at_call 34; refine (formOf_any _ _).mono ?_; rintro e w' ⟨rfl, hq2⟩; obtain ⟨y, rfl⟩ := Wd.next _ hq2; clear hq2) | (refine wpList_store_blk (Blk.new y.w 82 form0.toArray) rfl 82 (.tmp 3) (.tmp 6) (formA i) rfl rfl rfl (by kernel_rfl) (form_all i) (Nat.le_refl 4) ?_))
  intro W hW hbel
  rw [splice_all _ _ (by rfl)] at hW
  have hyx : w.heap.size < y.w.heap.size := Nat.lt_of_lt_of_le hl y.q.size
  have hqW1 : Q w1 W := hbel _ _ y.q.size (Q.trans y.q (q_new _ _ _))
  have hqW : Q w W := Q.trans hq1 hqW1
  have hnew := Bld.new W (B := w.heap.size) hqW.size
  have hq2 := q_new W #[.slice none 0 0] 77
  have hne : y.w.heap.size < W.heap.size := hW.lt
  have hst : Stay w.heap.size W.heap.size (W.alloc (.cells #[.slice none 0 0] 77)) y.w.heap.size := Stay.blk (hW.q hq2) (by omega) (by decide)
  have hsi : Stay w.heap.size W.heap.size (W.alloc (.cells #[.slice none 0 0] 77)) w.heap.size := Stay.blk ((hbk.q hqW1).q hq2) (by omega) (by decide)
  have f0 := Kd.cell (v := .string (nameT i)) (hW.q hq2) hst 0 rfl
  have f1 := Kd.cell (v := .func (.func (coreF i)) #[] #[]) (hW.q hq2) hst 1 rfl
  have hIt2 := Kd.load (P := Tryz.prog) (ty := 47) hsi (range_q hr (Q.trans hqW1 hq2) hl) Tryz.underlying47 rfl (by kernel_rfl)
  have hqq := Lib.hid (Q.trans hqW hq2)
  clear hst hsi hIt hr hbk hqW1 hq1 hx
  generalize hW2 : W.alloc (.cells #[.slice none 0 0] 77) = W2 at *
  obtain ⟨y2, hy2⟩ := Kd.first w.heap.size W.heap.size W2
  have hb2 : Bld w.heap.size W.heap.size y2.w [] := hy2 ▸ hnew
  rw [hy2] at hW2
  clear hy2 hW hbel hnew hq2
  go_wp2_with (first | (go_at_call 101; refine (texts_lit hb2 [nameT i] _ _ 1000000 _ rfl rfl rfl (by simp) (by simp; omega) (by simp)).mono ?_; rintro e w' ⟨rfl, hb3, hk1⟩; obtain ⟨y3, rfl⟩ := Kd.next _ hk1; clear hk1) | (refine wpList_load_run 47 (.tmp 1) (.pointer (some ⟨w.heap.size, 0, none⟩)) (.agg (itA i)) ?_ ?_ ?_ ?_ ?_; rfl; rfl; rfl; exact hIt2 _))
  refine (bcore_any _ _ _ i _ w rfl (Tk.q y3.q rfl hqq.out) hD hs hb3 (by have := textL_length (nameT i); simp; omega)).mono ?_
  rintro e w' ⟨rfl, hb4, hk2⟩
  obtain ⟨y4, rfl⟩ := Kd.next _ hk2
  clear hk2
  obtain ⟨-, v, hgv, hown⟩ := hb4
  have cv : y4.w.cell? ⟨W.heap.size, 0, none⟩ = some v := hgv.cell 0
  have hcv := run_string_of_owns (P := Tryz.prog) y4.w w.heap.size 75 9 5 _ _ Tryz.underlying75 Tryz.underlying5 Tryz.underlying9 hown
  have HQ := Lib.hid (Tk.q y4.q rfl hqq.out)
  clear hown hgv hb3 hb2
  go_wp2
  go_ret
  exact ⟨rfl, HQ.out⟩

theorem formField (i : ItemR) (w : World) : (Instr.field 82 (.agg (formA i).toArray) 2).run Tryz.prog w = .ok (keyV (sigV i)) w := by
  have h1 := Tryz.underlying82
  have u3 := Tryz.underlying37
  have a3 := Tryz.isAgg37
  have z3 := Tryz.sizeOf37
  unfold Instr.field formA keyV
  go_simp
  rfl
theorem itemL_le (i : ItemR) (hs : SmallI i) : (itemL i).length ≤ 110000000 := by
  unfold itemL
  split
  · rename_i h
    obtain ⟨h1, h2, -⟩ := hs.claim h
    unfold claimL
    simp only [List.length_append]
    have t1 := textL_length i.claim.actor
    have t2 := textL_length i.claim.prev
    have n1 := numL_bd i.claim.base
    have n2 := numL_bd i.claim.gen
    have n3 := numL_bd i.claim.home
    have n4 := numL_bd i.claim.pub
    have n5 := numL_bd i.claim.time
    omega
  · rename_i h
    split
    · rename_i h'
      obtain ⟨h1, h2, -⟩ := hs.ballot h'
      unfold ballotL
      simp only [List.length_append]
      have t1 := textL_length i.ballot.actor
      have t2 := textL_length i.ballot.claim
      have n1 := numL_bd i.ballot.server
      have n2 := numL_bd i.ballot.gen
      have n3 := numL_bd i.ballot.time
      omega
    · rename_i h'
      obtain ⟨h1, h2, h3, -, h4, -⟩ := hs.dec h h'
      unfold decL
      simp only [List.length_append]
      have t1 := textL_length i.dec.actor
      have t2 := textL_length i.dec.object
      have t3 := textL_length i.dec.text
      have n1 := numL_bd i.dec.server
      have n2 := numL_bd i.dec.number
      have n3 := numL_bd i.dec.kind
      have n4 := numL_bd i.dec.n
      have n5 := numL_bd i.dec.start
      have n6 := numL_bd i.dec.stop
      omega
theorem message_size (i : ItemR) (hs : SmallI i) : (messageB i).size ≤ 140737488355200 := by
  unfold messageB
  rw [ba_size, List.length_append]
  have h1 := itemL_le i hs
  have h2 := textL_length (nameT i)
  have h3 := nameT_size i
  omega
set_option maxRecDepth 100000 in
set_option maxHeartbeats 4000000 in
theorem signedBy_any (p : Int) (i : ItemR) (w : World) (hT : Tab w) (hI : ItemIn w i) (hs : SmallI i) : Calls Tryz.prog 67 #[.int .i64 p, .agg (itA i)] w fun e w' => e = .returned (.bool (verI p (messageB i) (sigV i))) ∧ Q w w' := by
  obtain ⟨w1, x, hx, hq1, hl, hr⟩ := boxed w 47 i.cells
  have hx : w.alloc (.cells (itA i) 47) = x.w := hx
  have hIt : ∀ y : Wd w1, (Instr.loadAt 47 (.pointer (some ⟨w.heap.size, 0, none⟩))).run Tryz.prog y.w = .ok (.agg (itA i)) y.w := Wd.load hl hr Tryz.underlying47 rfl (by kernel_rfl)
  have hD : ∀ y : Wd w1, DecIn y.w i.dec := fun y => hI.dec.q (Q.trans hq1 y.q)
  have hF := formField i
  have hm : (messageB i).size ≤ 140737488355200 := message_size i hs
  have hT' : ∀ y : Wd w1, Tab y.w := fun y => hT.q (Q.trans hq1 y.q)
  clear hr
  go_enter Tryz.func67, Tryz.ntmps67
  go_wp2_with fail
  refine wp_region_wd x (by kernel_rfl) (by kernel_rfl) ?_
  repeat (first | (refine wpQuiet_load_run 47 (.tmp 3) (.pointer (some ⟨w.heap.size, 0, none⟩)) (.agg (itA i)) ?_ ?_ ?_ ?_ ?_; rfl; rfl; rfl; exact hIt; dsimp only [Act.put]; simp only [List.setIfInBounds_toArray, List.set_cons_succ, List.set_cons_zero]) | go_big_quiet_step (first | (go_at_call 73; exact Wd.call _ (message_any _ _ (hD _) hs)) | (go_at_call 34; exact Wd.call _ (formOf_any _ _)) | (go_at_call 102; exact Wd.call _ (Verify_any _ _ _ _ (hT' _) hm))))
  refine wpQuiet_nil ?_
  rintro w'' ⟨z, rfl⟩
  go_wp2
  go_ret
  exact ⟨rfl, Q.trans hq1 z.q⟩
end Go.Proofs.YtjfcllanochhmaaGreatDoor.Item

namespace Go.Proofs.YtjfcllanochhmaaGreatDoor.Item
open Go.RowKit Grp Mem _root_.Go.Proofs.YtjfcllanochhmaaGreatDoor.Code Sha Sign

theorem within_le {n lo hi : Int} (h : withinB n lo hi = true) : n ≤ hi := (within_facts h).2
theorem small_dec {d : DecR} (h : decRight d = true) : d.actor.size ≤ 1000000 ∧ d.object.size ≤ 1000000 ∧ d.text.size ≤ 1000000 ∧ (∀ n ∈ [d.server, d.number, d.kind, d.n, d.start, d.stop], n ≤ 9223372036854775807) ∧ (listL d.to).length ≤ 100000000 ∧ d.to.length ≤ 1000000 := by
  simp only [decRight, Bool.and_eq_true] at h
  obtain ⟨h1, h2, h3, h4, -, h6, -, -⟩ := h
  have a1 := within_facts h1
  have a2 := within_facts h2
  have a3 := within_facts h3
  have a4 := within_facts h4
  have key : d.actor.size ≤ 16 ∧ d.object.size ≤ 32 ∧ d.text.size ≤ 4096 ∧ (d.kind ≤ 9 ∧ d.n ≤ 64) ∧ d.to.length ≤ 64 ∧ ∀ s ∈ d.to, s.size ≤ 16 := by
    unfold termsB at h6
    split at h6
    · rename_i hk
      simp only [Bool.and_eq_true, plainD, decide_eq_true_eq] at h6
      obtain ⟨b1, b2, b3, b4, b5⟩ := h6
      have c1 := idB_size b1
      have c2 := noneB_size b2
      have c3 := shortB_size b3
      exact ⟨by omega, by omega, by omega, ⟨by omega, by omega⟩, by omega, nil_all b4 _⟩
    · split at h6
      · rename_i hk
        simp only [Bool.and_eq_true, plainD, decide_eq_true_eq] at h6
        obtain ⟨b1, b2, b3, b4, b5⟩ := h6
        have c1 := noneB_size b1
        have c2 : d.object.size = 32 := by simpa [digestB] using b2
        have c3 := shortB_size b3
        exact ⟨by omega, by omega, by omega, ⟨by omega, by omega⟩, by omega, nil_all b4 _⟩
      · split at h6
        · rename_i hk
          simp only [Bool.and_eq_true] at h6
          obtain ⟨b1, b2, b3, b4, b5⟩ := h6
          have c1 := noneB_size b1
          have c2 := noneB_size b2
          have c3 := shortB_size b3
          have c4 := idsB_facts b4
          have c5 := within_facts b5
          exact ⟨by omega, by omega, by omega, ⟨by omega, by omega⟩, by omega, c4.2⟩
        · split at h6
          · rename_i hk
            simp only [Bool.and_eq_true, plainD, decide_eq_true_eq] at h6
            obtain ⟨b1, b2, b3, b4, b5⟩ := h6
            have c1 := noneB_size b1
            have c2 := noneB_size b2
            exact ⟨by omega, by omega, by omega, ⟨by omega, by omega⟩, by omega, nil_all b4 _⟩
          · cases h6
  obtain ⟨b1, b2, b3, ⟨b4, b5⟩, b6, b7⟩ := key
  have hl := listL_le d.to 16 b7
  refine ⟨by omega, by omega, by omega, ?_, by omega, by omega⟩
  simp only [List.mem_cons, List.not_mem_nil, or_false]
  rintro n (rfl | rfl | rfl | rfl | rfl | rfl) <;> omega
theorem small_claim {c : ClaimV} (h : claimRight c = true) : c.actor.size ≤ 1000000 ∧ c.prev.size ≤ 1000000 ∧ ∀ n ∈ [c.base, c.gen, c.home, c.pub, c.time], n ≤ 9223372036854775807 := by
  simp only [claimRight, Bool.and_eq_true] at h
  obtain ⟨h1, h2, h3, h4, h5, h6, h7, -, -⟩ := h
  have a1 := idB_size h1
  have a3 : c.prev.size = 32 := by simpa [digestB] using h3
  have a2 := within_facts h2
  have a4 := within_facts h4
  have a5 := within_facts h5
  have a6 := within_facts h6
  have a7 := within_facts h7
  refine ⟨by omega, by omega, ?_⟩
  simp only [List.mem_cons, List.not_mem_nil, or_false]
  rintro n (rfl | rfl | rfl | rfl | rfl) <;> omega
theorem small_ballot {b : BallotV} (h : ballotRight b = true) : b.actor.size ≤ 1000000 ∧ b.claim.size ≤ 1000000 ∧ ∀ n ∈ [b.server, b.gen, b.time], n ≤ 9223372036854775807 := by
  simp only [ballotRight, Bool.and_eq_true] at h
  obtain ⟨h1, h2, h3, h4, h5, -, -⟩ := h
  have a1 := within_facts h1
  have a2 := idB_size h2
  have a3 := within_facts h3
  have a4 : b.claim.size = 32 := by simpa [digestB] using h4
  have a5 := within_facts h5
  refine ⟨by omega, by omega, ?_⟩
  simp only [List.mem_cons, List.not_mem_nil, or_false]
  rintro n (rfl | rfl | rfl) <;> omega
theorem right_kind {i : ItemR} (h : itemRight i = true) : 0 ≤ i.kind ∧ i.kind ≤ 3 := by
  unfold itemRight at h
  split at h
  · omega
  · split at h
    · omega
    · split at h
      · omega
      · split at h
        · omega
        · cases h
/-- A right item that is no activity. -/
theorem small_right {i : ItemR} (h : itemRight i = true) (hk : ¬ i.kind = 0) : SmallI i := by
  unfold itemRight at h
  rw [if_neg hk] at h
  refine ⟨fun h1 => ?_, fun h2 => ?_, fun h1 h2 => ?_⟩
  · rw [if_pos h1, Bool.and_eq_true] at h
    exact small_claim h.1
  · rw [if_neg (by omega), if_pos h2, Bool.and_eq_true] at h
    exact small_ballot h.1
  · rw [if_neg h1, if_neg h2] at h
    split at h
    · rw [Bool.and_eq_true] at h
      exact small_dec h.1
    · cases h
theorem right_actB {i : ItemR} (h : itemRight i = true) (hk : i.kind = 0) : actRight i.act = true := by
  unfold itemRight at h
  rw [if_pos hk, Bool.and_eq_true] at h
  exact h.1
theorem actBytes_le {a : ActR} (h : actRight a = true) : (actBytes a).size ≤ 70000 := by
  unfold actBytes
  rw [if_pos h, ba_size, List.length_append, List.length_append]
  have h1 := coreL_le a h
  have h2 := numL_le a.e
  have h3 := numL_le a.s
  omega
theorem itemBytes_le (i : ItemR) : (itemBytes i).size ≤ 120000000 := by
  unfold itemBytes
  cases h : itemRight i
  · rw [if_neg Bool.false_ne_true]; decide
  · rw [if_pos rfl, ba_size]
    unfold itemBytesL
    rw [List.length_append]
    have h1 := numL_bd i.kind
    split
    · rename_i hk
      have h2 := actBytes_le (right_actB h hk)
      rw [ba_length]
      omega
    · rename_i hk
      rw [List.length_append, List.length_append]
      have h2 := itemL_le i (small_right h hk)
      have h3 := numL_bd (sigV i).1
      have h4 := numL_bd (sigV i).2
      omega
theorem varint_pos (n : Nat) : 0 < (varint n).length := by
  unfold varint
  generalize (9 : Nat) = f
  cases f with
  | zero => simp [vint]
  | succ f => unfold vint; split <;> simp
theorem itemBytes_empty (i : ItemR) : (itemBytes i).toList.isEmpty = !itemRight i := by
  unfold itemBytes
  cases h : itemRight i
  · rw [if_neg Bool.false_ne_true, ByteArray.toList_eq]; rfl
  · rw [if_pos rfl, ByteArray.toList_eq, ba_list]
    have hk := right_kind h
    have : 0 < (itemBytesL i).length := by
      unfold itemBytesL
      rw [List.length_append]
      have : 0 < (numL i.kind).length := by
        unfold numL numB
        rw [if_neg (by omega), ba_list]
        exact varint_pos _
      omega
    cases hl : itemBytesL i with
    | nil => rw [hl] at this; cases this
    | cons x r => rfl
end Go.Proofs.YtjfcllanochhmaaGreatDoor.Item

namespace Go.Proofs.YtjfcllanochhmaaGreatDoor.Item
open Go.RowKit Grp Mem _root_.Go.Proofs.YtjfcllanochhmaaGreatDoor.Code Sha Sign

theorem item0_in (w : World) : ItemIn w item0 := ⟨⟨fun h => by simp [item0, act0] at h, fun h => by simp [item0, act0] at h, ⟨Nat.le_refl _, Nat.zero_le _⟩, Nat.le_refl _, Nat.zero_le _⟩, ⟨fun h => by simp [item0, dec0] at h, Nat.le_refl _, Nat.zero_le _⟩⟩
theorem act0_in (w : World) : ActIn w act0 := (item0_in w).act
theorem dec0_in (w : World) : DecIn w dec0 := (item0_in w).dec
theorem same_act0 : act0.same act0 = true := by decide
theorem same_claim0 : claim0.same claim0 = true := by decide
theorem same_ballot0 : ballot0.same ballot0 = true := by decide
theorem same_dec0 : dec0.same dec0 = true := by decide

def rest_act (i : ItemR) : ItemR := { i with kind := 0, act := act0 }
theorem rest_act_same (i : ItemR) (h : i.kind = 0) : (actRight i.act && (rest_act i).same item0) = itemRight i := by
  unfold itemRight
  rw [if_pos h]
  simp only [rest_act, item0, ItemR.same, conj, List.foldr, same_act0, decide_true, Bool.true_and, Bool.and_true]
theorem rest_act_in {w : World} {i : ItemR} (h : ItemIn w i) : ItemIn w (rest_act i) := ⟨act0_in w, h.dec⟩
theorem rest_act_cells (i : ItemR) : splice (i.cells.set 0 (.int .i64 0)) 1 act0.cells = (rest_act i).cells := rfl
set_option maxRecDepth 100000 in
set_option maxHeartbeats 8000000 in
theorem right_act (i : ItemR) (w : World) (hI : ItemIn w i) (hk : i.kind = 0) : Calls Tryz.prog 31 #[.agg (itA i)] w fun e w' => e = .returned (.bool (itemRight i)) ∧ Q w w' := by
  obtain ⟨w1, x, hx, hq1, hbk⟩ := boxedB w 47 i.cells
  have hl := hbk.lt
  have hr := Blk.range hbk
  have hx : w.alloc (.cells (itA i) 47) = x.w := hx
  have hIt : ∀ y : Wd w1, (Instr.loadAt 47 (.pointer (some ⟨w.heap.size, 0, none⟩))).run Tryz.prog y.w = .ok (.agg (itA i)) y.w := Wd.load hl hr Tryz.underlying47 rfl (by kernel_rfl)
  have hHR := Lib.hid (rest_act_same i hk)
  have hHK := Lib.hid hk
  have hsx : w.heap.size < x.w.heap.size := Nat.lt_of_lt_of_le hl x.q.size
  clear hk
  go_enter Tryz.func31, Tryz.ntmps31
  go_wp2_with (first | (refine wpList_load_run 47 (.tmp 1) (.pointer (some ⟨w.heap.size, 0, none⟩)) (.agg (itA i)) ?_ ?_ ?_ ?_ ?_; rfl; rfl; rfl; exact hIt _) | (refine wpList_store_blk (Blk.new x.w 47 item0.cells.toArray) rfl 47 (.tmp 4) (.tmp 5) i.cells rfl rfl rfl (by kernel_rfl) (it_all i) (Nat.le_refl 49) ?_))
  intro W hW hbel
  rw [splice_all _ _ (by rfl)] at hW
  have hqW : Q w1 W := hbel _ _ x.q.size (Q.trans x.q (q_new _ _ _))
  have hb2 := hW.set_ 0 (.int .i64 0)
  have z0 : W.cell? ⟨x.w.heap.size, 0, none⟩ = some (.int .i64 i.kind) := hW.cell 0
  have z1 := hW.frozen 0
  have hq2 : Q w1 (W.setCell ⟨x.w.heap.size, 0, none⟩ (.int .i64 0)) := Below.setCell hqW (Nat.le_trans x.q.size (Nat.le_refl _)) _
  generalize hW2 : W.setCell ⟨x.w.heap.size, 0, none⟩ (.int .i64 0) = W2 at *
  have hb2 : Blk W2 x.w.heap.size 47 (i.cells.set 0 (.int .i64 0)).toArray := by simpa using hb2
  have hIW : ItemIn W2 i := (hI.q hq1).q hq2
  have hI' : ∀ y : Wd W2, ItemIn y.w i := fun y => hIW.q y.q
  have hQW := Lib.hid (Q.trans hq1 hq2)
  have c0 : ∀ y : Wd W2, y.w.cell? ⟨w.heap.size, 0, none⟩ = some (.int .i64 0) := by
    rw [← hHK.out]
    exact Wd.at0 (Nat.lt_of_lt_of_le hl hq2.size) (range_q hr hq2 hl) 0 rfl
  have hA := item_act (Nat.lt_of_lt_of_le hl hq2.size) (range_q hr hq2 hl)
  obtain ⟨y2, hy2⟩ := Wd.first W2
  rw [hy2] at hW2
  have hbk2 : ∀ y : Wd W2, Blk y.w x.w.heap.size 47 (i.cells.set 0 (.int .i64 0)).toArray := fun y => hb2.q y.q
  have HQ12 := Lib.hid hq2
  have HQ1 := Lib.hid hq1
  clear hx hIt hy2 hW hbel hqW hq1 hbk hr hq2 hb2
  go_wp2_with (first | (refine wpList_load_run 39 (.tmp 11) (.pointer (some ⟨w.heap.size, 1, none⟩)) (.agg (actA i.act)) ?_ ?_ ?_ ?_ ?_; rfl; rfl; rfl; exact hA _) | (go_at_call 57; refine (actRight_any _ _ (hI' _).act).mono ?_; rintro e w' ⟨rfl, hq3⟩; obtain ⟨y3, rfl⟩ := Wd.next _ hq3; clear hq3) | (refine wpList_store_blk (hbk2 _) rfl 39 (.tmp 15) (.tmp 14) act0.cells rfl rfl rfl (by kernel_rfl) (act_all act0) (by simp [ItemR.cells, ActR.cells, ClaimV.cells, BallotV.cells, DecR.cells]) ?_))
  intro W3 hW3 hbel3
  rw [rest_act_cells] at hW3
  have hq3 : Q w1 W3 := hbel3 _ _ x.q.size (Q.trans HQ12.out y3.q)
  have hR : ∀ y : Wd W3, (Instr.loadAt 47 (.pointer (some ⟨x.w.heap.size, 0, none⟩))).run Tryz.prog y.w = .ok (.agg (itA (rest_act i))) y.w := Wd.load hW3.lt (Blk.range hW3) Tryz.underlying47 rfl (by kernel_rfl)
  have hIR : ∀ y : Wd W3, ItemIn y.w (rest_act i) := fun y => rest_act_in ((hI.q HQ1.out).q (Q.trans hq3 y.q))
  have HQ3 := Lib.hid (Q.trans HQ1.out hq3)
  obtain ⟨z3, hz3⟩ := Wd.first W3
  rw [hz3]
  clear hW3 hbel3 hq3 hz3 hbk2 hA c0 hI' hIW
  cases hr : actRight i.act
  all_goals
    have HR2 := Lib.hid hr
    clear hr
    go_wp2_with (first | (refine wpList_load_run 47 (.tmp 4) (.pointer (some ⟨x.w.heap.size, 0, none⟩)) (.agg (itA (rest_act i))) ?_ ?_ ?_ ?_ ?_; rfl; rfl; rfl; exact hR _) | (go_at_call 61; refine (itemSame_any (rest_act i) item0 _ (hIR _) (item0_in _)).mono ?_; rintro e w' ⟨rfl, hq5⟩; obtain ⟨z, rfl⟩ := Wd.next _ hq5; clear hq5))
    go_ret
    exact ⟨by rw [← hHR.out, HR2.out]; rfl, Q.trans HQ3.out (Wd.q _)⟩
def rest_claim (i : ItemR) : ItemR := { i with kind := 0, claim := claim0 }
theorem rest_claim_same (i : ItemR) (h : i.kind = 1) : (claimRight i.claim && (rest_claim i).same item0) = itemRight i := by
  unfold itemRight
  rw [if_neg (by omega)]
  rw [if_pos h]
  simp only [rest_claim, item0, ItemR.same, conj, List.foldr, same_claim0, decide_true, Bool.true_and, Bool.and_true]
theorem rest_claim_in {w : World} {i : ItemR} (h : ItemIn w i) : ItemIn w (rest_claim i) := ⟨h.act, h.dec⟩
theorem rest_claim_cells (i : ItemR) : splice (i.cells.set 0 (.int .i64 0)) 21 claim0.cells = (rest_claim i).cells := rfl
set_option maxRecDepth 100000 in
set_option maxHeartbeats 8000000 in
theorem right_claim (i : ItemR) (w : World) (hI : ItemIn w i) (hk : i.kind = 1) : Calls Tryz.prog 31 #[.agg (itA i)] w fun e w' => e = .returned (.bool (itemRight i)) ∧ Q w w' := by
  obtain ⟨w1, x, hx, hq1, hbk⟩ := boxedB w 47 i.cells
  have hl := hbk.lt
  have hr := Blk.range hbk
  have hx : w.alloc (.cells (itA i) 47) = x.w := hx
  have hIt : ∀ y : Wd w1, (Instr.loadAt 47 (.pointer (some ⟨w.heap.size, 0, none⟩))).run Tryz.prog y.w = .ok (.agg (itA i)) y.w := Wd.load hl hr Tryz.underlying47 rfl (by kernel_rfl)
  have hHR := Lib.hid (rest_claim_same i hk)
  have hHK := Lib.hid hk
  have hsx : w.heap.size < x.w.heap.size := Nat.lt_of_lt_of_le hl x.q.size
  clear hk
  go_enter Tryz.func31, Tryz.ntmps31
  go_wp2_with (first | (refine wpList_load_run 47 (.tmp 1) (.pointer (some ⟨w.heap.size, 0, none⟩)) (.agg (itA i)) ?_ ?_ ?_ ?_ ?_; rfl; rfl; rfl; exact hIt _) | (refine wpList_store_blk (Blk.new x.w 47 item0.cells.toArray) rfl 47 (.tmp 4) (.tmp 5) i.cells rfl rfl rfl (by kernel_rfl) (it_all i) (Nat.le_refl 49) ?_))
  intro W hW hbel
  rw [splice_all _ _ (by rfl)] at hW
  have hqW : Q w1 W := hbel _ _ x.q.size (Q.trans x.q (q_new _ _ _))
  have hb2 := hW.set_ 0 (.int .i64 0)
  have z0 : W.cell? ⟨x.w.heap.size, 0, none⟩ = some (.int .i64 i.kind) := hW.cell 0
  have z1 := hW.frozen 0
  have hq2 : Q w1 (W.setCell ⟨x.w.heap.size, 0, none⟩ (.int .i64 0)) := Below.setCell hqW (Nat.le_trans x.q.size (Nat.le_refl _)) _
  generalize hW2 : W.setCell ⟨x.w.heap.size, 0, none⟩ (.int .i64 0) = W2 at *
  have hb2 : Blk W2 x.w.heap.size 47 (i.cells.set 0 (.int .i64 0)).toArray := by simpa using hb2
  have hIW : ItemIn W2 i := (hI.q hq1).q hq2
  have hI' : ∀ y : Wd W2, ItemIn y.w i := fun y => hIW.q y.q
  have hQW := Lib.hid (Q.trans hq1 hq2)
  have c0 : ∀ y : Wd W2, y.w.cell? ⟨w.heap.size, 0, none⟩ = some (.int .i64 1) := by
    rw [← hHK.out]
    exact Wd.at0 (Nat.lt_of_lt_of_le hl hq2.size) (range_q hr hq2 hl) 0 rfl
  have hA := item_claim (Nat.lt_of_lt_of_le hl hq2.size) (range_q hr hq2 hl)
  obtain ⟨y2, hy2⟩ := Wd.first W2
  rw [hy2] at hW2
  have hbk2 : ∀ y : Wd W2, Blk y.w x.w.heap.size 47 (i.cells.set 0 (.int .i64 0)).toArray := fun y => hb2.q y.q
  have HQ12 := Lib.hid hq2
  have HQ1 := Lib.hid hq1
  clear hx hIt hy2 hW hbel hqW hq1 hbk hr hq2 hb2
  go_wp2_with (first | (refine wpList_load_run 41 (.tmp 18) (.pointer (some ⟨w.heap.size, 21, none⟩)) (.agg (claimA i.claim)) ?_ ?_ ?_ ?_ ?_; rfl; rfl; rfl; exact hA _) | (go_at_call 58; refine (rightClaim_any _ _).mono ?_; rintro e w' ⟨rfl, hq3⟩; obtain ⟨y3, rfl⟩ := Wd.next _ hq3; clear hq3) | (refine wpList_store_blk (hbk2 _) rfl 41 (.tmp 22) (.tmp 21) claim0.cells rfl rfl rfl (by kernel_rfl) (claim_all claim0) (by simp [ItemR.cells, ActR.cells, ClaimV.cells, BallotV.cells, DecR.cells]) ?_))
  intro W3 hW3 hbel3
  rw [rest_claim_cells] at hW3
  have hq3 : Q w1 W3 := hbel3 _ _ x.q.size (Q.trans HQ12.out y3.q)
  have hR : ∀ y : Wd W3, (Instr.loadAt 47 (.pointer (some ⟨x.w.heap.size, 0, none⟩))).run Tryz.prog y.w = .ok (.agg (itA (rest_claim i))) y.w := Wd.load hW3.lt (Blk.range hW3) Tryz.underlying47 rfl (by kernel_rfl)
  have hIR : ∀ y : Wd W3, ItemIn y.w (rest_claim i) := fun y => rest_claim_in ((hI.q HQ1.out).q (Q.trans hq3 y.q))
  have HQ3 := Lib.hid (Q.trans HQ1.out hq3)
  obtain ⟨z3, hz3⟩ := Wd.first W3
  rw [hz3]
  clear hW3 hbel3 hq3 hz3 hbk2 hA c0 hI' hIW
  cases hr : claimRight i.claim
  all_goals
    have HR2 := Lib.hid hr
    clear hr
    go_wp2_with (first | (refine wpList_load_run 47 (.tmp 4) (.pointer (some ⟨x.w.heap.size, 0, none⟩)) (.agg (itA (rest_claim i))) ?_ ?_ ?_ ?_ ?_; rfl; rfl; rfl; exact hR _) | (go_at_call 61; refine (itemSame_any (rest_claim i) item0 _ (hIR _) (item0_in _)).mono ?_; rintro e w' ⟨rfl, hq5⟩; obtain ⟨z, rfl⟩ := Wd.next _ hq5; clear hq5))
    go_ret
    exact ⟨by rw [← hHR.out, HR2.out]; rfl, Q.trans HQ3.out (Wd.q _)⟩
def rest_ballot (i : ItemR) : ItemR := { i with kind := 0, ballot := ballot0 }
theorem rest_ballot_same (i : ItemR) (h : i.kind = 2) : (ballotRight i.ballot && (rest_ballot i).same item0) = itemRight i := by
  unfold itemRight
  rw [if_neg (by omega)]
  rw [if_neg (by omega)]
  rw [if_pos h]
  simp only [rest_ballot, item0, ItemR.same, conj, List.foldr, same_ballot0, decide_true, Bool.true_and, Bool.and_true]
theorem rest_ballot_in {w : World} {i : ItemR} (h : ItemIn w i) : ItemIn w (rest_ballot i) := ⟨h.act, h.dec⟩
theorem rest_ballot_cells (i : ItemR) : splice (i.cells.set 0 (.int .i64 0)) 30 ballot0.cells = (rest_ballot i).cells := rfl
set_option maxRecDepth 100000 in
set_option maxHeartbeats 8000000 in
theorem right_ballot (i : ItemR) (w : World) (hI : ItemIn w i) (hk : i.kind = 2) : Calls Tryz.prog 31 #[.agg (itA i)] w fun e w' => e = .returned (.bool (itemRight i)) ∧ Q w w' := by
  obtain ⟨w1, x, hx, hq1, hbk⟩ := boxedB w 47 i.cells
  have hl := hbk.lt
  have hr := Blk.range hbk
  have hx : w.alloc (.cells (itA i) 47) = x.w := hx
  have hIt : ∀ y : Wd w1, (Instr.loadAt 47 (.pointer (some ⟨w.heap.size, 0, none⟩))).run Tryz.prog y.w = .ok (.agg (itA i)) y.w := Wd.load hl hr Tryz.underlying47 rfl (by kernel_rfl)
  have hHR := Lib.hid (rest_ballot_same i hk)
  have hHK := Lib.hid hk
  have hsx : w.heap.size < x.w.heap.size := Nat.lt_of_lt_of_le hl x.q.size
  clear hk
  go_enter Tryz.func31, Tryz.ntmps31
  go_wp2_with (first | (refine wpList_load_run 47 (.tmp 1) (.pointer (some ⟨w.heap.size, 0, none⟩)) (.agg (itA i)) ?_ ?_ ?_ ?_ ?_; rfl; rfl; rfl; exact hIt _) | (refine wpList_store_blk (Blk.new x.w 47 item0.cells.toArray) rfl 47 (.tmp 4) (.tmp 5) i.cells rfl rfl rfl (by kernel_rfl) (it_all i) (Nat.le_refl 49) ?_))
  intro W hW hbel
  rw [splice_all _ _ (by rfl)] at hW
  have hqW : Q w1 W := hbel _ _ x.q.size (Q.trans x.q (q_new _ _ _))
  have hb2 := hW.set_ 0 (.int .i64 0)
  have z0 : W.cell? ⟨x.w.heap.size, 0, none⟩ = some (.int .i64 i.kind) := hW.cell 0
  have z1 := hW.frozen 0
  have hq2 : Q w1 (W.setCell ⟨x.w.heap.size, 0, none⟩ (.int .i64 0)) := Below.setCell hqW (Nat.le_trans x.q.size (Nat.le_refl _)) _
  generalize hW2 : W.setCell ⟨x.w.heap.size, 0, none⟩ (.int .i64 0) = W2 at *
  have hb2 : Blk W2 x.w.heap.size 47 (i.cells.set 0 (.int .i64 0)).toArray := by simpa using hb2
  have hIW : ItemIn W2 i := (hI.q hq1).q hq2
  have hI' : ∀ y : Wd W2, ItemIn y.w i := fun y => hIW.q y.q
  have hQW := Lib.hid (Q.trans hq1 hq2)
  have c0 : ∀ y : Wd W2, y.w.cell? ⟨w.heap.size, 0, none⟩ = some (.int .i64 2) := by
    rw [← hHK.out]
    exact Wd.at0 (Nat.lt_of_lt_of_le hl hq2.size) (range_q hr hq2 hl) 0 rfl
  have hA := item_ballot (Nat.lt_of_lt_of_le hl hq2.size) (range_q hr hq2 hl)
  obtain ⟨y2, hy2⟩ := Wd.first W2
  rw [hy2] at hW2
  have hbk2 : ∀ y : Wd W2, Blk y.w x.w.heap.size 47 (i.cells.set 0 (.int .i64 0)).toArray := fun y => hb2.q y.q
  have HQ12 := Lib.hid hq2
  have HQ1 := Lib.hid hq1
  clear hx hIt hy2 hW hbel hqW hq1 hbk hr hq2 hb2
  go_wp2_with (first | (refine wpList_load_run 43 (.tmp 25) (.pointer (some ⟨w.heap.size, 30, none⟩)) (.agg (ballotA i.ballot)) ?_ ?_ ?_ ?_ ?_; rfl; rfl; rfl; exact hA _) | (go_at_call 59; refine (rightBallot_any _ _).mono ?_; rintro e w' ⟨rfl, hq3⟩; obtain ⟨y3, rfl⟩ := Wd.next _ hq3; clear hq3) | (refine wpList_store_blk (hbk2 _) rfl 43 (.tmp 29) (.tmp 28) ballot0.cells rfl rfl rfl (by kernel_rfl) (ballot_all ballot0) (by simp [ItemR.cells, ActR.cells, ClaimV.cells, BallotV.cells, DecR.cells]) ?_))
  intro W3 hW3 hbel3
  rw [rest_ballot_cells] at hW3
  have hq3 : Q w1 W3 := hbel3 _ _ x.q.size (Q.trans HQ12.out y3.q)
  have hR : ∀ y : Wd W3, (Instr.loadAt 47 (.pointer (some ⟨x.w.heap.size, 0, none⟩))).run Tryz.prog y.w = .ok (.agg (itA (rest_ballot i))) y.w := Wd.load hW3.lt (Blk.range hW3) Tryz.underlying47 rfl (by kernel_rfl)
  have hIR : ∀ y : Wd W3, ItemIn y.w (rest_ballot i) := fun y => rest_ballot_in ((hI.q HQ1.out).q (Q.trans hq3 y.q))
  have HQ3 := Lib.hid (Q.trans HQ1.out hq3)
  obtain ⟨z3, hz3⟩ := Wd.first W3
  rw [hz3]
  clear hW3 hbel3 hq3 hz3 hbk2 hA c0 hI' hIW
  cases hr : ballotRight i.ballot
  all_goals
    have HR2 := Lib.hid hr
    clear hr
    go_wp2_with (first | (refine wpList_load_run 47 (.tmp 4) (.pointer (some ⟨x.w.heap.size, 0, none⟩)) (.agg (itA (rest_ballot i))) ?_ ?_ ?_ ?_ ?_; rfl; rfl; rfl; exact hR _) | (go_at_call 61; refine (itemSame_any (rest_ballot i) item0 _ (hIR _) (item0_in _)).mono ?_; rintro e w' ⟨rfl, hq5⟩; obtain ⟨z, rfl⟩ := Wd.next _ hq5; clear hq5))
    go_ret
    exact ⟨by rw [← hHR.out, HR2.out]; rfl, Q.trans HQ3.out (Wd.q _)⟩
def rest_dec (i : ItemR) : ItemR := { i with kind := 0, dec := dec0 }
theorem rest_dec_same (i : ItemR) (h : i.kind = 3) : (decRight i.dec && (rest_dec i).same item0) = itemRight i := by
  unfold itemRight
  rw [if_neg (by omega)]
  rw [if_neg (by omega)]
  rw [if_neg (by omega)]
  rw [if_pos h]
  simp only [rest_dec, item0, ItemR.same, conj, List.foldr, same_dec0, decide_true, Bool.true_and, Bool.and_true]
theorem rest_dec_in {w : World} {i : ItemR} (h : ItemIn w i) : ItemIn w (rest_dec i) := ⟨h.act, dec0_in w⟩
theorem rest_dec_cells (i : ItemR) : splice (i.cells.set 0 (.int .i64 0)) 37 dec0.cells = (rest_dec i).cells := rfl
set_option maxRecDepth 100000 in
set_option maxHeartbeats 8000000 in
theorem right_dec (i : ItemR) (w : World) (hI : ItemIn w i) (hk : i.kind = 3) : Calls Tryz.prog 31 #[.agg (itA i)] w fun e w' => e = .returned (.bool (itemRight i)) ∧ Q w w' := by
  obtain ⟨w1, x, hx, hq1, hbk⟩ := boxedB w 47 i.cells
  have hl := hbk.lt
  have hr := Blk.range hbk
  have hx : w.alloc (.cells (itA i) 47) = x.w := hx
  have hIt : ∀ y : Wd w1, (Instr.loadAt 47 (.pointer (some ⟨w.heap.size, 0, none⟩))).run Tryz.prog y.w = .ok (.agg (itA i)) y.w := Wd.load hl hr Tryz.underlying47 rfl (by kernel_rfl)
  have hHR := Lib.hid (rest_dec_same i hk)
  have hHK := Lib.hid hk
  have hsx : w.heap.size < x.w.heap.size := Nat.lt_of_lt_of_le hl x.q.size
  clear hk
  go_enter Tryz.func31, Tryz.ntmps31
  go_wp2_with (first | (refine wpList_load_run 47 (.tmp 1) (.pointer (some ⟨w.heap.size, 0, none⟩)) (.agg (itA i)) ?_ ?_ ?_ ?_ ?_; rfl; rfl; rfl; exact hIt _) | (refine wpList_store_blk (Blk.new x.w 47 item0.cells.toArray) rfl 47 (.tmp 4) (.tmp 5) i.cells rfl rfl rfl (by kernel_rfl) (it_all i) (Nat.le_refl 49) ?_))
  intro W hW hbel
  rw [splice_all _ _ (by rfl)] at hW
  have hqW : Q w1 W := hbel _ _ x.q.size (Q.trans x.q (q_new _ _ _))
  have hb2 := hW.set_ 0 (.int .i64 0)
  have z0 : W.cell? ⟨x.w.heap.size, 0, none⟩ = some (.int .i64 i.kind) := hW.cell 0
  have z1 := hW.frozen 0
  have hq2 : Q w1 (W.setCell ⟨x.w.heap.size, 0, none⟩ (.int .i64 0)) := Below.setCell hqW (Nat.le_trans x.q.size (Nat.le_refl _)) _
  generalize hW2 : W.setCell ⟨x.w.heap.size, 0, none⟩ (.int .i64 0) = W2 at *
  have hb2 : Blk W2 x.w.heap.size 47 (i.cells.set 0 (.int .i64 0)).toArray := by simpa using hb2
  have hIW : ItemIn W2 i := (hI.q hq1).q hq2
  have hI' : ∀ y : Wd W2, ItemIn y.w i := fun y => hIW.q y.q
  have hQW := Lib.hid (Q.trans hq1 hq2)
  have c0 : ∀ y : Wd W2, y.w.cell? ⟨w.heap.size, 0, none⟩ = some (.int .i64 3) := by
    rw [← hHK.out]
    exact Wd.at0 (Nat.lt_of_lt_of_le hl hq2.size) (range_q hr hq2 hl) 0 rfl
  have hA := item_dec (Nat.lt_of_lt_of_le hl hq2.size) (range_q hr hq2 hl)
  obtain ⟨y2, hy2⟩ := Wd.first W2
  rw [hy2] at hW2
  have hbk2 : ∀ y : Wd W2, Blk y.w x.w.heap.size 47 (i.cells.set 0 (.int .i64 0)).toArray := fun y => hb2.q y.q
  have HQ12 := Lib.hid hq2
  have HQ1 := Lib.hid hq1
  clear hx hIt hy2 hW hbel hqW hq1 hbk hr hq2 hb2
  go_wp2_with (first | (refine wpList_load_run 45 (.tmp 32) (.pointer (some ⟨w.heap.size, 37, none⟩)) (.agg (decA i.dec)) ?_ ?_ ?_ ?_ ?_; rfl; rfl; rfl; exact hA _) | (go_at_call 60; refine (rightDec_any _ _ (hI' _).dec).mono ?_; rintro e w' ⟨rfl, hq3⟩; obtain ⟨y3, rfl⟩ := Wd.next _ hq3; clear hq3) | (refine wpList_store_blk (hbk2 _) rfl 45 (.tmp 36) (.tmp 35) dec0.cells rfl rfl rfl (by kernel_rfl) (dec_all dec0) (by simp [ItemR.cells, ActR.cells, ClaimV.cells, BallotV.cells, DecR.cells]) ?_))
  intro W3 hW3 hbel3
  rw [rest_dec_cells] at hW3
  have hq3 : Q w1 W3 := hbel3 _ _ x.q.size (Q.trans HQ12.out y3.q)
  have hR : ∀ y : Wd W3, (Instr.loadAt 47 (.pointer (some ⟨x.w.heap.size, 0, none⟩))).run Tryz.prog y.w = .ok (.agg (itA (rest_dec i))) y.w := Wd.load hW3.lt (Blk.range hW3) Tryz.underlying47 rfl (by kernel_rfl)
  have hIR : ∀ y : Wd W3, ItemIn y.w (rest_dec i) := fun y => rest_dec_in ((hI.q HQ1.out).q (Q.trans hq3 y.q))
  have HQ3 := Lib.hid (Q.trans HQ1.out hq3)
  obtain ⟨z3, hz3⟩ := Wd.first W3
  rw [hz3]
  clear hW3 hbel3 hq3 hz3 hbk2 hA c0 hI' hIW
  cases hr : decRight i.dec
  all_goals
    have HR2 := Lib.hid hr
    clear hr
    go_wp2_with (first | (refine wpList_load_run 47 (.tmp 4) (.pointer (some ⟨x.w.heap.size, 0, none⟩)) (.agg (itA (rest_dec i))) ?_ ?_ ?_ ?_ ?_; rfl; rfl; rfl; exact hR _) | (go_at_call 61; refine (itemSame_any (rest_dec i) item0 _ (hIR _) (item0_in _)).mono ?_; rintro e w' ⟨rfl, hq5⟩; obtain ⟨z, rfl⟩ := Wd.next _ hq5; clear hq5))
    go_ret
    exact ⟨by rw [← hHR.out, HR2.out]; rfl, Q.trans HQ3.out (Wd.q _)⟩
set_option maxRecDepth 100000 in
set_option maxHeartbeats 8000000 in
theorem right_none (i : ItemR) (w : World) (hI : ItemIn w i) (k0 : ¬ i.kind = 0) (k1 : ¬ i.kind = 1) (k2 : ¬ i.kind = 2) (k3 : ¬ i.kind = 3) : Calls Tryz.prog 31 #[.agg (itA i)] w fun e w' => e = .returned (.bool (itemRight i)) ∧ Q w w' := by
  obtain ⟨w1, x, hx, hq1, hbk⟩ := boxedB w 47 i.cells
  have hl := hbk.lt
  have hr := Blk.range hbk
  have hx : w.alloc (.cells (itA i) 47) = x.w := hx
  have hIt : ∀ y : Wd w1, (Instr.loadAt 47 (.pointer (some ⟨w.heap.size, 0, none⟩))).run Tryz.prog y.w = .ok (.agg (itA i)) y.w := Wd.load hl hr Tryz.underlying47 rfl (by kernel_rfl)
  have hHR := Lib.hid (show itemRight i = false by unfold itemRight; rw [if_neg k0, if_neg k1, if_neg k2, if_neg k3])
  have e0 : (i.kind == 0) = false := by simpa using k0
  have e1 : (i.kind == 1) = false := by simpa using k1
  have e2 : (i.kind == 2) = false := by simpa using k2
  have e3 : (i.kind == 3) = false := by simpa using k3
  have hsx : w.heap.size < x.w.heap.size := Nat.lt_of_lt_of_le hl x.q.size
  clear k0 k1 k2 k3
  go_enter Tryz.func31, Tryz.ntmps31
  go_wp2_with (first | (refine wpList_load_run 47 (.tmp 1) (.pointer (some ⟨w.heap.size, 0, none⟩)) (.agg (itA i)) ?_ ?_ ?_ ?_ ?_; rfl; rfl; rfl; exact hIt _) | (refine wpList_store_blk (Blk.new x.w 47 item0.cells.toArray) rfl 47 (.tmp 4) (.tmp 5) i.cells rfl rfl rfl (by kernel_rfl) (it_all i) (Nat.le_refl 49) ?_))
  intro W hW hbel
  rw [splice_all _ _ (by rfl)] at hW
  have hqW : Q w1 W := hbel _ _ x.q.size (Q.trans x.q (q_new _ _ _))
  have z0 : W.cell? ⟨x.w.heap.size, 0, none⟩ = some (.int .i64 i.kind) := hW.cell 0
  have z1 := hW.frozen 0
  have hq2 : Q w1 (W.setCell ⟨x.w.heap.size, 0, none⟩ (.int .i64 0)) := Below.setCell hqW (Nat.le_trans x.q.size (Nat.le_refl _)) _
  generalize hW2 : W.setCell ⟨x.w.heap.size, 0, none⟩ (.int .i64 0) = W2 at *
  have hQW := Lib.hid (Q.trans hq1 hq2)
  have c0 : ∀ y : Wd W2, y.w.cell? ⟨w.heap.size, 0, none⟩ = some (.int .i64 i.kind) := Wd.at0 (Nat.lt_of_lt_of_le hl hq2.size) (range_q hr hq2 hl) 0 rfl
  obtain ⟨y2, hy2⟩ := Wd.first W2
  rw [hy2] at hW2
  clear hx hIt hy2 hW hbel hqW hq1 hbk hr hq2
  go_wp2_with fail
  go_ret
  exact ⟨by rw [hHR.out]; rfl, Q.trans hQW.out (Wd.q _)⟩
theorem itemRight_any (i : ItemR) (w : World) (hI : ItemIn w i) : Calls Tryz.prog 31 #[.agg (itA i)] w fun e w' => e = .returned (.bool (itemRight i)) ∧ Q w w' := by
  by_cases k0 : i.kind = 0
  · exact right_act i w hI k0
  by_cases k1 : i.kind = 1
  · exact right_claim i w hI k1
  by_cases k2 : i.kind = 2
  · exact right_ballot i w hI k2
  by_cases k3 : i.kind = 3
  · exact right_dec i w hI k3
  exact right_none i w hI k0 k1 k2 k3
end Go.Proofs.YtjfcllanochhmaaGreatDoor.Item

namespace Go.Proofs.YtjfcllanochhmaaGreatDoor.Item
open Go.RowKit Grp Mem _root_.Go.Proofs.YtjfcllanochhmaaGreatDoor.Code Sha Sign

set_option maxRecDepth 100000 in
set_option maxHeartbeats 4000000 in
theorem bytes_no (i : ItemR) (w : World) (hI : ItemIn w i) (h : itemRight i = false) : Calls Tryz.prog 10 #[.agg (itA i)] w fun e w' => e = .returned (.string (itemBytes i)) ∧ Q w w' := by
  obtain ⟨w1, x, hx, hq1, hl, hr⟩ := boxed w 47 i.cells
  have hx : w.alloc (.cells (itA i) 47) = x.w := hx
  have hIt : ∀ y : Wd w1, (Instr.loadAt 47 (.pointer (some ⟨w.heap.size, 0, none⟩))).run Tryz.prog y.w = .ok (.agg (itA i)) y.w := Wd.load hl hr Tryz.underlying47 rfl (by kernel_rfl)
  have hI' : ∀ y : Wd w1, ItemIn y.w i := fun y => hI.q (Q.trans hq1 y.q)
  have HR : Hid (itemBytes i = ⟨#[]⟩) := Lib.hid (by unfold itemBytes; rw [h]; rfl)
  clear hr
  go_enter Tryz.func10, Tryz.ntmps10
  go_wp2_with (first | (refine wpList_load_run 47 (.tmp 1) (.pointer (some ⟨w.heap.size, 0, none⟩)) (.agg (itA i)) ?_ ?_ ?_ ?_ ?_; rfl; rfl; rfl; exact hIt _) | (go_at_call 31; refine (itemRight_any _ _ (hI' _)).mono ?_; rintro e w' ⟨rfl, hq2⟩; obtain ⟨y, rfl⟩ := Wd.next _ hq2; clear hq2))
  go_ret
  exact ⟨by rw [HR.out]; rfl, Q.trans hq1 (Wd.q _)⟩

/-- What holds in every world in which only the builder has changed. -/
structure BCtx (w W2 : World) (g : Nat) (i : ItemR) : Prop where
  q : Q w W2
  lt : w.heap.size ≤ g
  stay : Stay w.heap.size g W2 w.heap.size
  range : W2.rangeAt w.heap.size 0 i.cells

set_option maxRecDepth 100000 in
set_option maxHeartbeats 4000000 in
theorem bytes_act (i : ItemR) (w : World) (hI : ItemIn w i) (h : itemRight i = true) (hk : i.kind = 0) : Calls Tryz.prog 10 #[.agg (itA i)] w fun e w' => e = .returned (.string (itemBytes i)) ∧ Q w w' := by
  obtain ⟨w1, x, hx, hq1, hbk⟩ := boxedB w 47 i.cells
  have hl := hbk.lt
  have hr := Blk.range hbk
  have hx : w.alloc (.cells (itA i) 47) = x.w := hx
  have hIt : ∀ y : Wd w1, (Instr.loadAt 47 (.pointer (some ⟨w.heap.size, 0, none⟩))).run Tryz.prog y.w = .ok (.agg (itA i)) y.w := Wd.load hl hr Tryz.underlying47 rfl (by kernel_rfl)
  have hI' : ∀ y : Wd w1, ItemIn y.w i := fun y => hI.q (Q.trans hq1 y.q)
  have hra := right_actB h hk
  have HR : Hid (itemBytes i = ⟨(numL 0 ++ (actBytes i.act).data.toList).toArray⟩) := Lib.hid (by unfold itemBytes itemBytesL; rw [h, if_pos rfl, if_pos hk, hk])
  have hab := actBytes_le hra
  have HK := Lib.hid hk
  clear hra hk
  go_enter Tryz.func10, Tryz.ntmps10
  go_wp2_with (refine wpList_load_run 47 (.tmp 1) (.pointer (some ⟨w.heap.size, 0, none⟩)) (.agg (itA i)) ?_ ?_ ?_ ?_ ?_; rfl; rfl; rfl; exact hIt _)
  refine (itemRight_any _ _ (hI' _)).mono ?_
  rintro e w' ⟨rfl, hq2⟩
  obtain ⟨y, rfl⟩ := Wd.next _ hq2
  clear hq2
  have hqy : Q w y.w := Q.trans hq1 y.q
  have hq3 := q_new y.w #[.slice none 0 0] 77
  have hnew := Bld.new y.w (B := w.heap.size) hqy.size
  have hlt : w.heap.size < y.w.heap.size := Nat.lt_of_lt_of_le hl y.q.size
  have hsi : Stay w.heap.size y.w.heap.size (y.w.alloc (.cells #[.slice none 0 0] 77)) w.heap.size := Stay.blk ((hbk.q y.q).q hq3) (by omega) (by decide)
  have hri := range_q (range_q hr y.q hl) hq3 hlt
  have hqW := Lib.hid (Q.trans hqy hq3)
  generalize hW2 : y.w.alloc (.cells #[.slice none 0 0] 77) = W2 at *
  obtain ⟨y2, hy2⟩ := Kd.first w.heap.size y.w.heap.size W2
  have hb2 : Bld w.heap.size y.w.heap.size y2.w [] := hy2 ▸ hnew
  rw [hy2] at hW2
  have c0 : ∀ z : Kd w.heap.size y.w.heap.size W2, z.w.cell? ⟨w.heap.size, 0, none⟩ = some (.int .i64 i.kind) := fun z => (z.q.range hsi hri) 0 _ rfl
  rw [HK.out] at c0
  have hsl : ∀ z : Kd w.heap.size y.w.heap.size W2, w.heap.size < z.w.heap.size := fun z => Nat.lt_of_lt_of_le hsi.lt z.q.size
  have hAc : ∀ z : Kd w.heap.size y.w.heap.size W2, ∀ u : Wd z.w, (Instr.loadAt 39 (.pointer (some ⟨w.heap.size, 1, none⟩))).run Tryz.prog u.w = .ok (.agg (actA i.act)) u.w := fun z => item_act (hsl z) (z.q.range hsi hri)
  clear hy2 hnew hsi hri hIt hI' hx hbk hr hq3 hqy
  go_wp2_with (go_at_call 32; refine (nums_lit hb2 [0] _ _ _ rfl rfl rfl (by simp) (by simp)).mono ?_; rintro e w' ⟨rfl, hb3, hk1⟩; obtain ⟨y3, rfl⟩ := Kd.next _ hk1; clear hk1)
  obtain ⟨hB, v, hgv, hown⟩ := hb3
  have hqy3 : Q w y3.w := Tk.q y3.q rfl hqW.out
  have cg : ∀ z : Wd y3.w, z.w.cell? ⟨y.w.heap.size, 0, none⟩ = some v := fun z => (z.q.cell (p := ⟨y.w.heap.size, 0, none⟩) hgv.lt).trans (hgv.cell 0)
  have hA2 := hAc y3
  have hIA : ∀ z : Wd y3.w, ActIn z.w i.act := fun z => hI.act.q (Q.trans hqy3 z.q)
  obtain ⟨i0, hi, hz0, hz1, hz2⟩ := info_parts Code.byte_info
  refine wp_region_wd_parts (⟨_, Q.refl _⟩ : Wd y3.w) 0 5 (by kernel_rfl) (by kernel_rfl) (by intro c d v a w h; cases d <;> exact h) ?_
  simp only [List.take_succ_cons, List.take_zero, List.drop_succ_cons, List.drop_zero]
  refine wpPure_nil ?_
  repeat (first | (refine wpQuiet_load_run 39 (.tmp 17) (.pointer (some ⟨w.heap.size, 1, none⟩)) (.agg (actA i.act)) ?_ ?_ ?_ ?_ ?_; rfl; rfl; rfl; exact hA2; dsimp only [Act.put]; simp only [List.setIfInBounds_toArray, List.set_cons_succ, List.set_cons_zero]) | go_big_quiet_step (exact Wd.call _ (actBytes_any _ _ (hIA _))))
  refine wpQuiet_nil ?_
  rintro w'' ⟨z, rfl⟩
  have hown' := hown.q z.q
  have hg' := hgv.q z.q
  have hYl : ([] ++ [0].flatMap numL : List UInt8).length ≤ 10 := by simp; exact numL_bd 0
  generalize hY : ([] ++ [0].flatMap numL : List UInt8) = Y at *
  have HY : Hid (Y = numL 0) := Lib.hid (by rw [← hY]; simp)
  clear hY
  go_wp2_with (at_builtin; refine wpList_append_owns_string _ rfl (.tmp 16) (.tmp 19) 75 9 rfl w.heap.size 5 i0 Tryz.underlying75 Tryz.underlying9 hi hz0 hz1 hz2 v Y.length (cellsOf Y) rfl hown' (actBytes i.act) rfl ?_ ?_ ?_ ?_)
  · simp only [maxLen]; omega
  · omega
  · have := hg'.lt; omega
  intro v2 w2 hown2 hgr
  have hab2 : (actBytes i.act).size = (actBytes i.act).data.toList.length := by rw [ba_length]
  rw [strCells_eq, hab2, ← cellsOf_append, ← List.length_append] at hown2
  have hg2 := Bld.at2 hg' hown' hgr
  have z0 : w2.cell? ⟨y.w.heap.size, 0, none⟩ = some v := hg2.cell 0
  have z1 := hg2.frozen 0
  have hown3 := Bld.own (L' := Y ++ (actBytes i.act).data.toList) hg' hown' hown2 hgr
  have hk4 := (Bld.step (L' := Y ++ (actBytes i.act).data.toList) hB hg' hown' hown2 hgr).2
  obtain ⟨A2, cap2, rfl, -, -⟩ := hown2.shape
  have hcv := run_string_of_owns (P := Tryz.prog) _ w.heap.size 75 9 5 _ _ Tryz.underlying75 Tryz.underlying5 Tryz.underlying9 hown3
  have HQ := Lib.hid (Tk.q ((y3.q.trans (Tk.of_q z.q)).trans hk4) rfl hqW.out)
  rw [List.length_append, ← hab2] at hcv HQ
  clear hown hown' hown2 hown3 hk4 hg2 hg' hgv hgr cg hA2 hIA hab2 c0 hAc
  go_wp2
  go_ret
  exact ⟨by rw [HR.out, ← HY.out]; rfl, HQ.out⟩
theorem sig_le {i : ItemR} (h : itemRight i = true) (hk : ¬ i.kind = 0) : (sigV i).1 ≤ 9223372036854775807 ∧ (sigV i).2 ≤ 9223372036854775807 := by
  unfold itemRight at h
  rw [if_neg hk] at h
  unfold sigV
  split
  · rename_i h1
    rw [if_pos h1, Bool.and_eq_true] at h
    simp only [claimRight, Bool.and_eq_true] at h
    have a1 := within_facts h.1.2.2.2.2.2.2.2.1
    have a2 := within_facts h.1.2.2.2.2.2.2.2.2
    exact ⟨by omega, by omega⟩
  · rename_i h1
    rw [if_neg h1] at h
    split
    · rename_i h2
      rw [if_pos h2, Bool.and_eq_true] at h
      simp only [ballotRight, Bool.and_eq_true] at h
      have a1 := within_facts h.1.2.2.2.2.2.1
      have a2 := within_facts h.1.2.2.2.2.2.2
      exact ⟨by omega, by omega⟩
    · rename_i h2
      rw [if_neg h2] at h
      split at h
      · rw [Bool.and_eq_true] at h
        simp only [decRight, Bool.and_eq_true] at h
        have a1 := within_facts h.1.2.2.2.2.2.2.1
        have a2 := within_facts h.1.2.2.2.2.2.2.2
        exact ⟨by omega, by omega⟩
      · cases h
set_option maxRecDepth 100000 in
set_option maxHeartbeats 4000000 in
theorem bytes_form (i : ItemR) (w : World) (hI : ItemIn w i) (h : itemRight i = true) (hk : ¬ i.kind = 0) : Calls Tryz.prog 10 #[.agg (itA i)] w fun e w' => e = .returned (.string (itemBytes i)) ∧ Q w w' := by
  obtain ⟨w1, x, hx, hq1, hbk⟩ := boxedB w 47 i.cells
  have hl := hbk.lt
  have hr := Blk.range hbk
  have hx : w.alloc (.cells (itA i) 47) = x.w := hx
  have hIt : ∀ y : Wd w1, (Instr.loadAt 47 (.pointer (some ⟨w.heap.size, 0, none⟩))).run Tryz.prog y.w = .ok (.agg (itA i)) y.w := Wd.load hl hr Tryz.underlying47 rfl (by kernel_rfl)
  have hI' : ∀ y : Wd w1, ItemIn y.w i := fun y => hI.q (Q.trans hq1 y.q)
  have hsm := small_right h hk
  have HR : Hid (itemBytes i = ⟨(numL i.kind ++ (itemL i ++ (numL (sigV i).1 ++ numL (sigV i).2))).toArray⟩) := Lib.hid (by unfold itemBytes itemBytesL; rw [h, if_pos rfl, if_neg hk])
  have hk0 : (i.kind == 0) = false := by simpa using hk
  have hkk := right_kind h
  have hil := itemL_le i hsm
  have hse : (sigV i).1 ≤ 9223372036854775807 ∧ (sigV i).2 ≤ 9223372036854775807 := sig_le h hk
  have hcr := core_enter i
  clear hk
  go_enter Tryz.func10, Tryz.ntmps10
  go_wp2_with (refine wpList_load_run 47 (.tmp 1) (.pointer (some ⟨w.heap.size, 0, none⟩)) (.agg (itA i)) ?_ ?_ ?_ ?_ ?_; rfl; rfl; rfl; exact hIt _)
  refine (itemRight_any _ _ (hI' _)).mono ?_
  rintro e w' ⟨rfl, hq2⟩
  obtain ⟨y, rfl⟩ := Wd.next _ hq2
  clear hq2
  have hqy : Q w y.w := Q.trans hq1 y.q
  have hq3 := q_new y.w #[.slice none 0 0] 77
  have hnew := Bld.new y.w (B := w.heap.size) hqy.size
  have hlt : w.heap.size < y.w.heap.size := Nat.lt_of_lt_of_le hl y.q.size
  have hsi : Stay w.heap.size y.w.heap.size (y.w.alloc (.cells #[.slice none 0 0] 77)) w.heap.size := Stay.blk ((hbk.q y.q).q hq3) (by omega) (by decide)
  have hri := range_q (range_q hr y.q hl) hq3 hlt
  have hqW := Lib.hid (Q.trans hqy hq3)
  generalize hW2 : y.w.alloc (.cells #[.slice none 0 0] 77) = W2 at *
  obtain ⟨y2, hy2⟩ := Kd.first w.heap.size y.w.heap.size W2
  have hb2 : Bld w.heap.size y.w.heap.size y2.w [] := hy2 ▸ hnew
  rw [hy2] at hW2
  have c0 : ∀ z : Kd w.heap.size y.w.heap.size W2, z.w.cell? ⟨w.heap.size, 0, none⟩ = some (.int .i64 i.kind) := fun z => (z.q.range hsi hri) 0 _ rfl
  have hsl : ∀ z : Kd w.heap.size y.w.heap.size W2, w.heap.size < z.w.heap.size := fun z => Nat.lt_of_lt_of_le hsi.lt z.q.size
  have hIt2 := Kd.load (P := Tryz.prog) (ty := 47) hsi hri Tryz.underlying47 rfl (by kernel_rfl)
  have hgl := hb2.stay
  have HSI := Lib.hid hsi
  have HRI := Lib.hid hri
  clear hy2 hnew hsi hri hIt hI' hx hbk hr hq3 hqy
  go_wp2_with (first | (go_at_call 32; refine (nums_lit hb2 [i.kind] _ _ _ rfl rfl rfl (by simp; omega) (by simp)).mono ?_; rintro e w' ⟨rfl, hb3, hk1⟩; obtain ⟨y3, rfl⟩ := Kd.next _ hk1; clear hk1) | (refine wpList_load_run 47 (.tmp 1) (.pointer (some ⟨w.heap.size, 0, none⟩)) (.agg (itA i)) ?_ ?_ ?_ ?_ ?_; rfl; rfl; rfl; exact hIt2 _))
  refine (formOf_any _ _).mono ?_
  rintro e w' ⟨rfl, hq4⟩
  go_wp2_with (refine wpList_store_blk (Blk.new w' 82 form0.toArray) rfl 82 (.tmp 4) (.tmp 23) (formA i) rfl rfl rfl (by kernel_rfl) (form_all i) (Nat.le_refl 4) ?_)
  intro W hW hbel
  rw [splice_all _ _ (by rfl)] at hW
  have hQ : Q y3.w W := hbel _ _ hq4.size (Q.trans hq4 (q_new _ _ _))
  have hg3 := hb3.stay
  have hq4s := hq4.size
  have hst : Stay w.heap.size y.w.heap.size W w'.heap.size := Stay.blk hW (by omega) (by decide)
  have hsW : Stay w.heap.size y.w.heap.size W w.heap.size := (HSI.out.next y3.q).next (Tk.of_q hQ)
  have hrW := (Tk.of_q (B := w.heap.size) (g := y.w.heap.size) hQ).range (HSI.out.next y3.q) (y3.q.range HSI.out HRI.out)
  have f1 := Kd.cell (v := .func (.func (coreF i)) #[] #[]) hW hst 1 rfl
  have f2 := Kd.cell (v := .int .i64 (sigV i).1) hW hst 2 rfl
  have f3 := Kd.cell (v := .int .i64 (sigV i).2) hW hst 3 rfl
  have hIt3 := Kd.load (P := Tryz.prog) (ty := 47) hsW hrW Tryz.underlying47 rfl (by kernel_rfl)
  have HQW := Lib.hid (Tk.q (y3.q.trans (Tk.of_q hQ)) rfl hqW.out)
  obtain ⟨y4, hy4⟩ := Kd.first w.heap.size y.w.heap.size W
  have hb4 := hy4 ▸ hb3.q hQ
  rw [hy4]
  clear hW hbel hQ hst hsW hrW hy4 hb3 hb2 hIt2 c0
  go_wp2_with (refine wpList_load_run 47 (.tmp 1) (.pointer (some ⟨w.heap.size, 0, none⟩)) (.agg (itA i)) ?_ ?_ ?_ ?_ ?_; rfl; rfl; rfl; exact hIt3 _)
  have hnk := numL_bd i.kind
  refine (bcore_any _ _ _ i _ w rfl (Tk.q y4.q rfl HQW.out) hI.dec hsm hb4 (by simp; omega)).mono ?_
  rintro e w5 ⟨rfl, hb5, hk2⟩
  obtain ⟨y5, rfl⟩ := Kd.next _ hk2
  clear hk2
  go_wp2_with fail
  refine (nums_lit hb5 [(sigV i).1, (sigV i).2] _ _ _ rfl rfl rfl (by simpa using hse) (by simp; omega)).mono ?_
  rintro e w6 ⟨rfl, hb6, hk1⟩
  obtain ⟨y6, rfl⟩ := Kd.next _ hk1
  clear hk1
  obtain ⟨-, v, hgv, hown⟩ := hb6
  have cv : y6.w.cell? ⟨y.w.heap.size, 0, none⟩ = some v := hgv.cell 0
  have hcv := run_string_of_owns (P := Tryz.prog) y6.w w.heap.size 75 9 5 _ _ Tryz.underlying75 Tryz.underlying5 Tryz.underlying9 hown
  have HQ := Lib.hid (Tk.q y6.q rfl HQW.out)
  have e1 : ((([] ++ [i.kind].flatMap numL) ++ itemL i) ++ [(sigV i).1, (sigV i).2].flatMap numL) = numL i.kind ++ (itemL i ++ (numL (sigV i).1 ++ numL (sigV i).2)) := by
    simp only [List.nil_append, List.flatMap_cons, List.flatMap_nil, List.append_nil, List.append_assoc]
  rw [e1] at hcv
  clear e1 hown hgv hb5 hb4
  go_wp2
  go_ret
  exact ⟨by rw [HR.out]; rfl, HQ.out⟩

theorem itemBytes_any (i : ItemR) (w : World) (hI : ItemIn w i) : Calls Tryz.prog 10 #[.agg (itA i)] w fun e w' => e = .returned (.string (itemBytes i)) ∧ Q w w' := by
  cases h : itemRight i
  · exact bytes_no i w hI h
  · by_cases hk : i.kind = 0
    · exact bytes_act i w hI h hk
    · exact bytes_form i w hI h hk

set_option maxRecDepth 100000 in
set_option maxHeartbeats 4000000 in
theorem digest_any (i : ItemR) (w : World) (hT : Tab w) (hI : ItemIn w i) : Calls Tryz.prog 17 #[.agg (itA i)] w fun e w' => e = .returned (.string (digOf i)) ∧ Q w w' := by
  obtain ⟨w1, x, hx, hq1, hl, hr⟩ := boxed w 47 i.cells
  have hx : w.alloc (.cells (itA i) 47) = x.w := hx
  have hIt : ∀ y : Wd w1, (Instr.loadAt 47 (.pointer (some ⟨w.heap.size, 0, none⟩))).run Tryz.prog y.w = .ok (.agg (itA i)) y.w := Wd.load hl hr Tryz.underlying47 rfl (by kernel_rfl)
  have hI' : ∀ y : Wd w1, ItemIn y.w i := fun y => hI.q (Q.trans hq1 y.q)
  have hT' : ∀ y : Wd w1, Tab y.w := fun y => hT.q (Q.trans hq1 y.q)
  have hem := itemBytes_empty i
  have hle := itemBytes_le i
  clear hr
  cases h : itemRight i
  all_goals
    have HR := Lib.hid (show digOf i = if itemRight i then sha (itemBytes i) else emptyT from rfl)
    rw [h] at HR hem
    clear h
    go_enter Tryz.func17, Tryz.ntmps17
    go_wp2_with (first | (refine wpList_load_run 47 (.tmp 1) (.pointer (some ⟨w.heap.size, 0, none⟩)) (.agg (itA i)) ?_ ?_ ?_ ?_ ?_; rfl; rfl; rfl; exact hIt _) | (go_at_call 10; refine (itemBytes_any _ _ (hI' _)).mono ?_; rintro e w' ⟨rfl, hq2⟩; obtain ⟨y, rfl⟩ := Wd.next _ hq2; clear hq2) | (go_at_call 45; refine (Sha_any _ _ (hT' _) (by omega)).mono ?_; rintro e w' ⟨rfl, hq2⟩; obtain ⟨y, rfl⟩ := Wd.next _ hq2; clear hq2))
    go_ret
    exact ⟨by rw [HR.out]; rfl, Q.trans hq1 (Wd.q _)⟩
end Go.Proofs.YtjfcllanochhmaaGreatDoor.Item

namespace Go.Proofs.YtjfcllanochhmaaGreatDoor.Item
open Go.RowKit Grp Mem _root_.Go.Proofs.YtjfcllanochhmaaGreatDoor.Code Sha Sign

/-- A slice of integers, in memory. -/
def Ints (w : World) (A : Option Addr) (l : List Int) : Prop := 0 < l.length → ∃ b o, A = some ⟨b, o, none⟩ ∧ b < w.heap.size ∧ ∀ j (h : j < l.length), w.cell? ⟨b, o + j, none⟩ = some (.int .i64 l[j])
theorem Ints.q {w w' : World} {A : Option Addr} {l : List Int} (h : Ints w A l) (hq : Q w w') : Ints w' A l := fun h0 => by
  obtain ⟨b, o, e, hb, hc⟩ := h h0
  exact ⟨b, o, e, Nat.lt_of_lt_of_le hb hq.size, fun j hj => (hq.cell (p := ⟨b, o + j, none⟩) hb).trans (hc j hj)⟩
theorem ints_of {w : World} {A : Option Addr} {l : List Int} (h : RowsAt w A 1 (fun n : Int => [.int .i64 n]) l) : Ints w A l := fun h0 => by
  obtain ⟨b, o, e, hb, hc⟩ := h h0
  exact ⟨b, o, e, hb, fun j hj => by have := hc j hj 0 _ rfl; simpa using this⟩

set_option maxRecDepth 100000 in
set_option maxHeartbeats 4000000 in
theorem signed_no (A : Option Addr) (c : Nat) (sv : List Int) (i : ItemR) (w : World) (hI : ItemIn w i) (h : itemRight i = false) : Calls Tryz.prog 35 #[.slice A sv.length c, .agg (itA i)] w fun e w' => e = .returned (.bool (signedB sv i)) ∧ Q w w' := by
  obtain ⟨w1, x, hx, hq1, hl, hr⟩ := boxed w 47 i.cells
  have hx : w.alloc (.cells (itA i) 47) = x.w := hx
  have hIt : ∀ y : Wd w1, (Instr.loadAt 47 (.pointer (some ⟨w.heap.size, 0, none⟩))).run Tryz.prog y.w = .ok (.agg (itA i)) y.w := Wd.load hl hr Tryz.underlying47 rfl (by kernel_rfl)
  have hI' : ∀ y : Wd w1, ItemIn y.w i := fun y => hI.q (Q.trans hq1 y.q)
  have HR : Hid (signedB sv i = false) := Lib.hid (by unfold signedB; rw [h]; rfl)
  clear hr
  go_enter Tryz.func35, Tryz.ntmps35
  go_wp2_with (first | (refine wpList_load_run 47 (.tmp 3) (.pointer (some ⟨w.heap.size, 0, none⟩)) (.agg (itA i)) ?_ ?_ ?_ ?_ ?_; rfl; rfl; rfl; exact hIt _) | (go_at_call 31; refine (itemRight_any _ _ (hI' _)).mono ?_; rintro e w' ⟨rfl, hq2⟩; obtain ⟨y, rfl⟩ := Wd.next _ hq2; clear hq2))
  go_ret
  exact ⟨by rw [HR.out]; rfl, Q.trans hq1 (Wd.q _)⟩

set_option maxRecDepth 100000 in
set_option maxHeartbeats 4000000 in
theorem signed_free (A : Option Addr) (c : Nat) (sv : List Int) (i : ItemR) (w : World) (hI : ItemIn w i) (h : itemRight i = true) (k2 : ¬ i.kind = 2) (k3 : ¬ i.kind = 3) : Calls Tryz.prog 35 #[.slice A sv.length c, .agg (itA i)] w fun e w' => e = .returned (.bool (signedB sv i)) ∧ Q w w' := by
  obtain ⟨w1, x, hx, hq1, hl, hr⟩ := boxed w 47 i.cells
  have hx : w.alloc (.cells (itA i) 47) = x.w := hx
  have hIt : ∀ y : Wd w1, (Instr.loadAt 47 (.pointer (some ⟨w.heap.size, 0, none⟩))).run Tryz.prog y.w = .ok (.agg (itA i)) y.w := Wd.load hl hr Tryz.underlying47 rfl (by kernel_rfl)
  have hI' : ∀ y : Wd w1, ItemIn y.w i := fun y => hI.q (Q.trans hq1 y.q)
  have c0 := cell_of hl hr 0 (.int .i64 i.kind) rfl
  have e2 : (i.kind == 2) = false := by simpa using k2
  have e3 : (i.kind == 3) = false := by simpa using k3
  have HR : Hid (signedB sv i = true) := Lib.hid (by unfold signedB; rw [h, if_neg k2, if_neg k3]; rfl)
  clear hr k2 k3
  go_enter Tryz.func35, Tryz.ntmps35
  go_wp2_with (first | (refine wpList_load_run 47 (.tmp 3) (.pointer (some ⟨w.heap.size, 0, none⟩)) (.agg (itA i)) ?_ ?_ ?_ ?_ ?_; rfl; rfl; rfl; exact hIt _) | (go_at_call 31; refine (itemRight_any _ _ (hI' _)).mono ?_; rintro e w' ⟨rfl, hq2⟩; obtain ⟨y, rfl⟩ := Wd.next _ hq2; clear hq2))
  go_ret
  exact ⟨by rw [HR.out]; rfl, Q.trans hq1 (Wd.q _)⟩

/-- The server that signed. -/
def serverI (i : ItemR) : Int := if i.kind = 2 then i.ballot.server else i.dec.server
theorem server_bd {i : ItemR} (h : itemRight i = true) (hk : i.kind = 2 ∨ i.kind = 3) : 0 ≤ serverI i ∧ serverI i ≤ 19 := by
  unfold itemRight at h
  rw [if_neg (by omega), if_neg (by omega)] at h
  unfold serverI
  rcases hk with hk | hk
  · rw [if_pos hk, Bool.and_eq_true] at h
    rw [if_pos hk]
    simp only [ballotRight, Bool.and_eq_true] at h
    exact within_facts h.1.1
  · rw [if_neg (by omega), if_pos hk, Bool.and_eq_true] at h
    rw [if_neg (by omega)]
    simp only [decRight, Bool.and_eq_true] at h
    exact within_facts h.1.1
set_option maxRecDepth 100000 in
set_option maxHeartbeats 4000000 in
theorem signed_by (A : Option Addr) (c : Nat) (sv : List Int) (i : ItemR) (w : World) (hT : Tab w) (hI : ItemIn w i) (hS : Ints w A sv) (hsl : sv.length ≤ maxLen) (h : itemRight i = true) (hk : i.kind = 2 ∨ i.kind = 3) :
    Calls Tryz.prog 35 #[.slice A sv.length c, .agg (itA i)] w fun e w' => e = .returned (.bool (signedB sv i)) ∧ Q w w' := by
  obtain ⟨w1, x, hx, hq1, hl, hr⟩ := boxed w 47 i.cells
  have hx : w.alloc (.cells (itA i) 47) = x.w := hx
  have hIt : ∀ y : Wd w1, (Instr.loadAt 47 (.pointer (some ⟨w.heap.size, 0, none⟩))).run Tryz.prog y.w = .ok (.agg (itA i)) y.w := Wd.load hl hr Tryz.underlying47 rfl (by kernel_rfl)
  have hI' : ∀ y : Wd w1, ItemIn y.w i := fun y => hI.q (Q.trans hq1 y.q)
  have hT' : ∀ y : Wd w1, Tab y.w := fun y => hT.q (Q.trans hq1 y.q)
  have hS' : ∀ y : Wd w1, Ints y.w A sv := fun y => hS.q (Q.trans hq1 y.q)
  have hsm := small_right h (by omega)
  have c0 := cell_of hl hr 0 (.int .i64 i.kind) rfl
  have c30 := cell_of hl hr 30 (.int .i64 i.ballot.server) rfl
  have c37 := cell_of hl hr 37 (.int .i64 i.dec.server) rfl
  have hb := server_bd h hk
  have hR0 : signedB sv i = (decide (serverI i < sv.length) && verI (sv.getD (serverI i).toNat 0) (messageB i) (sigV i)) := by
    unfold signedB serverI
    rw [h, Bool.true_and]
    rcases hk with hk | hk
    · rw [if_pos hk, if_pos hk]
    · rw [if_neg (by omega), if_pos hk, if_neg (by omega)]
  have HR := Lib.hid hR0
  unfold maxLen at hsl
  clear hr hR0
  have hsv : (i.kind == 2) = true ∧ serverI i = i.ballot.server ∨ (i.kind == 2) = false ∧ (i.kind == 3) = true ∧ serverI i = i.dec.server := by
    unfold serverI
    rcases hk with hk | hk
    · exact .inl ⟨by simpa using hk, if_pos hk⟩
    · exact .inr ⟨by simp [hk], by simp [hk], if_neg (by omega)⟩
  clear hk
  generalize serverI i = s at *
  by_cases hlt : s.toNat < sv.length
  · obtain ⟨b, o, rfl, hbl, hcell⟩ := hS' ⟨w1, Q.refl _⟩ (by omega)
    have hbl : b < w1.heap.size := hbl
    have hce : ∀ y : Wd w1, y.w.cell? ⟨b, o + s.toNat, none⟩ = some (.int .i64 sv[s.toNat]) := fun y => (y.q.cell (p := ⟨b, o + s.toNat, none⟩) hbl).trans (hcell _ hlt)
    have hd : decide (s < (sv.length : Int)) = true := by rw [decide_eq_true_eq]; omega
    have HG := Lib.hid (show sv.getD s.toNat 0 = sv[s.toNat] by simp [hlt])
    clear hcell hS'
    rcases hsv with ⟨e1, rfl⟩ | ⟨e1, e2, rfl⟩
    all_goals
      go_enter Tryz.func35, Tryz.ntmps35
      go_wp2_with (first | (refine wpList_load_run 47 (.tmp 3) (.pointer (some ⟨w.heap.size, 0, none⟩)) (.agg (itA i)) ?_ ?_ ?_ ?_ ?_; rfl; rfl; rfl; exact hIt _) | (go_at_call 31; refine (itemRight_any _ _ (hI' _)).mono ?_; rintro e w' ⟨rfl, hq2⟩; obtain ⟨y, rfl⟩ := Wd.next _ hq2; clear hq2))
      refine wp_region_wd y (by kernel_rfl) (by kernel_rfl) ?_
      repeat (first | (refine wpQuiet_load_run 47 (.tmp 3) (.pointer (some ⟨w.heap.size, 0, none⟩)) (.agg (itA i)) ?_ ?_ ?_ ?_ ?_; rfl; rfl; rfl; exact hIt; dsimp only [Act.put]; simp only [List.setIfInBounds_toArray, List.set_cons_succ, List.set_cons_zero]) | go_big_quiet_step (exact Wd.call _ (signedBy_any _ _ _ (hT' _) (hI' _) hsm)))
      refine wpQuiet_nil ?_
      rintro w'' ⟨z, rfl⟩
      go_wp2
      go_ret
      exact ⟨by rw [HR.out, HG.out, hd]; rfl, Q.trans hq1 z.q⟩
  · have hd : decide (s < (sv.length : Int)) = false := by rw [decide_eq_false_iff_not]; omega
    rcases hsv with ⟨e1, rfl⟩ | ⟨e1, e2, rfl⟩
    all_goals
      go_enter Tryz.func35, Tryz.ntmps35
      go_wp2_with (first | (refine wpList_load_run 47 (.tmp 3) (.pointer (some ⟨w.heap.size, 0, none⟩)) (.agg (itA i)) ?_ ?_ ?_ ?_ ?_; rfl; rfl; rfl; exact hIt _) | (go_at_call 31; refine (itemRight_any _ _ (hI' _)).mono ?_; rintro e w' ⟨rfl, hq2⟩; obtain ⟨y, rfl⟩ := Wd.next _ hq2; clear hq2))
      refine wp_region_wd y (by kernel_rfl) (by kernel_rfl) ?_
      repeat (go_big_quiet_step (fail))
      refine wpQuiet_nil ?_
      rintro w'' ⟨z, rfl⟩
      go_wp2
      go_ret
      exact ⟨by rw [HR.out, hd]; rfl, Q.trans hq1 z.q⟩
theorem signed_any (A : Option Addr) (c : Nat) (sv : List Int) (i : ItemR) (w : World) (hT : Tab w) (hI : ItemIn w i) (hS : Ints w A sv) (hsl : sv.length ≤ maxLen) :
    Calls Tryz.prog 35 #[.slice A sv.length c, .agg (itA i)] w fun e w' => e = .returned (.bool (signedB sv i)) ∧ Q w w' := by
  cases h : itemRight i
  · exact signed_no A c sv i w hI h
  · by_cases k2 : i.kind = 2
    · exact signed_by A c sv i w hT hI hS hsl h (.inl k2)
    · by_cases k3 : i.kind = 3
      · exact signed_by A c sv i w hT hI hS hsl h (.inr k3)
      · exact signed_free A c sv i w hI h k2 k3

def itBallot (b : BallotV) : ItemR := ⟨2, act0, claim0, b, dec0⟩
def itClaim (c : ClaimV) : ItemR := ⟨1, act0, c, ballot0, dec0⟩
theorem itBallot_in (b : BallotV) (w : World) : ItemIn w (itBallot b) := ⟨act0_in w, dec0_in w⟩
theorem itClaim_in (c : ClaimV) (w : World) : ItemIn w (itClaim c) := ⟨act0_in w, dec0_in w⟩
set_option maxRecDepth 100000 in
theorem build_ballot (b : BallotV) (w : World) : (Instr.build 47 #[(0, .int .i64 2), (3, .agg (ballotA b))]).run Tryz.prog w = .ok (.agg (itA (itBallot b))) w := by kernel_rfl
set_option maxRecDepth 100000 in
theorem build_claim (b : ClaimV) (w : World) : (Instr.build 47 #[(0, .int .i64 1), (2, .agg (claimA b))]).run Tryz.prog w = .ok (.agg (itA (itClaim b))) w := by kernel_rfl
end Go.Proofs.YtjfcllanochhmaaGreatDoor.Item

namespace Go.Proofs.YtjfcllanochhmaaGreatDoor.Item
open Go.RowKit Grp Mem _root_.Go.Proofs.YtjfcllanochhmaaGreatDoor.Code Sha Sign

/-- A ballot with the signature by a key. -/
def signBallot (k : Int × Int) (b : BallotV) : BallotV := { b with e := (sigOf k (messageB (itBallot b))).1, s := (sigOf k (messageB (itBallot b))).2 }
def SmallB (b : BallotV) : Prop := b.actor.size ≤ 1000000 ∧ b.claim.size ≤ 1000000 ∧ ∀ n ∈ [b.server, b.gen, b.time], n ≤ 9223372036854775807
theorem smallB_I {b : BallotV} (h : SmallB b) : SmallI (itBallot b) := ⟨fun h1 => absurd (show (2 : Int) = 1 from h1) (by decide), fun _ => h, fun _ h2 => absurd rfl h2⟩
theorem signBallot_cells (k : Int × Int) (b : BallotV) : splice b.cells 5 [.int .i64 (sigOf k (messageB (itBallot b))).1, .int .i64 (sigOf k (messageB (itBallot b))).2] = (signBallot k b).cells := rfl

end Go.Proofs.YtjfcllanochhmaaGreatDoor.Item
