/-
  known.pick at activities.
  known.pick at claims.
  known.pick at decisions.
-/
import Derived.Test.YtpdalnojimgjbaaGreatDoorPickSm
set_option linter.unusedVariables false
set_option linter.unusedSimpArgs false
namespace Go.Proofs.YtpdalnojimgjbaaGreatDoor.Known
open Go.RowKit Grp Mem _root_.Go.Proofs.YtpdalnojimgjbaaGreatDoor.Code Sha Sign _root_.Go.Proofs.YtpdalnojimgjbaaGreatDoor.Item

instance : Inhabited ActR := ⟨act0⟩
abbrev facC : Found ActR → List Value := Found.cells ActR.cells
theorem fac_len (x : Found ActR) : (facC x).length = 22 := rfl
theorem fac_one (x : Found ActR) : ∀ v ∈ facC x, v.oneCell' = true := by
  intro v hv
  simp only [facC, Found.cells, ActR.cells, List.mem_cons, List.not_mem_nil, or_false] at hv
  rcases hv with rfl | rfl | rfl | rfl | rfl | rfl | rfl | rfl | rfl | rfl | rfl | rfl | rfl | rfl | rfl | rfl | rfl | rfl | rfl | rfl | rfl | rfl <;> rfl

set_option maxRecDepth 100000 in
set_option maxHeartbeats 1000000 in
/-- pick's comparison, at ballots: it lays blocks of its own alone. -/
theorem cmpAc_any (x y : Found ActR) (W : World) : Calls Tryz.prog 166 #[.agg (facC x).toArray, .agg (facC y).toArray] W fun e w' => e = .returned (.int .i64 (cmpF x y)) ∧ ∃ q os', w' = Go.Sort.grow (W.drewN q) os' := by
  have hci := fun W' => Tryz.cmp_Compare_int x.rank y.rank W'
  have hcs := fun W' => compareS_any x.dig y.dig W'
  have HR : Hid (cmpF x y = orI (Lib.compareInt x.rank y.rank) (cmpS x.dig y.dig)) := Lib.hid rfl
  generalize cmpF x y = r at HR ⊢
  have b1 := Blk.new W 191 (facC x).toArray
  have b2 := Blk.new' (g := W.heap.size + 1) (W.alloc (.cells (facC x).toArray 191)) 191 (facC y).toArray (by simp)
  have b1 := b1.q (q_new (W.alloc (.cells (facC x).toArray 191)) (facC y).toArray 191)
  obtain ⟨W1, hW1⟩ : ∃ W1, W1 = (W.alloc (.cells (facC x).toArray 191)).alloc (.cells (facC y).toArray 191) := ⟨_, rfl⟩
  rw [← hW1] at b1 b2
  have c0 : ∀ n, (W1.drewN n).cell? ⟨W.heap.size, 0, none⟩ = some (.int .i64 x.rank) := fun n => b1.cell 0
  have c1 : ∀ n, (W1.drewN n).cell? ⟨W.heap.size, 1, none⟩ = some (.string x.dig) := fun n => b1.cell 1
  have c2 : ∀ n, (W1.drewN n).cell? ⟨W.heap.size + 1, 0, none⟩ = some (.int .i64 y.rank) := fun n => b2.cell 0
  have c3 : ∀ n, (W1.drewN n).cell? ⟨W.heap.size + 1, 1, none⟩ = some (.string y.dig) := fun n => b2.cell 1
  have HX := Lib.hid hW1
  clear hW1 b1 b2
  generalize Lib.compareInt x.rank y.rank = ri at *
  generalize cmpS x.dig y.dig = rs at *
  go_enter Tryz.func166, Tryz.ntmps166
  go_upto_region 1 with (fail)
  refine (show Code.wp _ _ _ _ W1 → Code.wp _ _ _ _ _ from fun h => by rw [HX.out] at h; exact h) ?_
  refine wp_region_open (C := fun w' => ∃ n, w' = W1.drewN n) 10 (by kernel_rfl) (by kernel_rfl) ⟨1, rfl⟩ ?_
  simp only [List.take_succ_cons, List.take_zero]
  repeat (quiet_step (first | (go_at_call 168; exact Calls.quiet_of_same (hci _)) | (go_at_call 169; exact Calls.quiet_of_same (hcs _))))
  refine wpQuiet_nil ?_
  rintro w' ⟨n, rfl⟩
  have hb := Blk.new (W1.drewN n) 3 #[.int .i64 ri, .int .i64 rs]
  have hor := or_any (W1.drewN n).heap.size 0 2 ri rs _ (hb.cell 0) (hb.cell 1)
  have HE : Hid (∃ q os', (W1.drewN n).alloc (.cells #[.int .i64 ri, .int .i64 rs] 3) = Go.Sort.grow (W.drewN q) os') := Lib.hid ⟨n, _, by rw [HX.out]; exact grow3 W n _ _ _⟩
  clear hb
  refine any_one 10 rfl (by kernel_rfl) rfl (fun K' hK' => ?_)
  go_simp
  refine hK' _ _ ?_
  clear hK' K'
  try simp only [Act.put, List.setIfInBounds_toArray, List.set_cons_succ, List.set_cons_zero]
  refine any_one 11 rfl (by kernel_rfl) rfl (fun K' hK' => ?_)
  go_simp
  refine hor.mono ?_
  rintro e w2 ⟨rfl, rfl⟩
  refine hK' _ _ ?_
  clear hK' K' hor
  try simp only [Act.put, List.setIfInBounds_toArray, List.set_cons_succ, List.set_cons_zero]
  rw [← HR.out]
  refine any_pure 12 (v := .int .i64 r) rfl (by kernel_rfl) (by kernel_rfl) (by kernel_rfl) (by intro c d v a w h; cases d <;> exact h) rfl (fun w => by rfl) ?_
  try simp only [Act.put, List.setIfInBounds_toArray, List.set_cons_succ, List.set_cons_zero]
  refine any_done (by kernel_rfl) ?_ _
  go_wp2_with fail
  go_ret
  exact ⟨rfl, HE.out⟩


set_option maxRecDepth 100000 in
set_option maxHeartbeats 1000000 in
theorem stableAc_any (g cap : Nat) (d : Array (Found ActR)) (w : World) (hH : Go.Sort.HoldsK facC 22 w g 0 d) (hg : g < w.heap.size) (hd : d.size < 20) :
    Calls Tryz.prog 165 #[.slice (some ⟨g, 0, none⟩) d.size cap, .func (.func 166) #[] #[]] w fun e w' => e = .returned (.tuple #[]) ∧ ∃ n os, w' = sortWorldK facC 22 w g 0 n (sortA d) os := by
  have hins : Calls Tryz.prog 283 #[.slice (some ⟨g, 0, none⟩) d.size cap, .int .i64 (0 : Nat), .int .i64 (d.size : Nat), .func (.func 166) #[] #[]] w fun e w' => e = .returned (.tuple #[]) ∧ ∃ n os, w' = sortWorldK facC 22 w g 0 n (sortA d) os :=
    AnyQ.insertionSortCmpFunc Tryz.insAct 22 Tryz.isAgg191 Tryz.sizeOf191 facC fac_len fac_one cmpF 166 #[] g 0 cap 0 d.size d w (enters_of Tryz.func166 (by kernel_rfl) rfl) (fun _ _ _ _ x y => cmpAc_any x y _) hH hg (Nat.zero_le _) (Nat.le_refl _) (by omega)
  have hst : Calls Tryz.prog 227 #[.slice (some ⟨g, 0, none⟩) d.size cap, .int .i64 (d.size : Nat), .func (.func 166) #[] #[]] w fun e w' => e = .returned (.tuple #[]) ∧ ∃ n os, w' = sortWorldK facC 22 w g 0 n (sortA d) os := by
    clear hH
    generalize sortA d = r at hins ⊢
    go_enter Tryz.func227, Tryz.ntmps227
    go_wp2_with fail
    refine wp_loop_rounds 1 ?_
    rw [rounds_succ]
    go_wp2_with (go_at_call 283; refine hins.mono ?_; rintro e w' ⟨rfl, n, os, rfl⟩)
    refine wp_loop_rounds 1 ?_
    rw [rounds_succ]
    go_wp2_with fail
    go_end0
    exact ⟨rfl, n, os, rfl⟩
  clear hins hH
  generalize sortA d = r at hst ⊢
  go_enter Tryz.func165, Tryz.ntmps165
  go_wp2_with (go_at_call 227; refine hst.mono ?_; rintro e w' ⟨rfl, n, os, rfl⟩)
  go_end0
  exact ⟨rfl, n, os, rfl⟩

set_option maxRecDepth 100000 in
set_option maxHeartbeats 1000000 in
theorem stableAc_nil (w : World) :
    Calls Tryz.prog 165 #[.slice none 0 0, .func (.func 166) #[] #[]] w fun e w' => e = .returned (.tuple #[]) ∧ w' = w := by
  have hins : Calls Tryz.prog 283 #[.slice none 0 0, .int .i64 0, .int .i64 0, .func (.func 166) #[] #[]] w fun e w' => e = .returned (.tuple #[]) ∧ w' = w := by
    go_enter Tryz.func283, Tryz.ntmps283
    go_wp2_with fail
    refine wp_loop_rounds 1 ?_
    rw [rounds_succ]
    go_wp2_with fail
    go_end0
    exact ⟨rfl, rfl⟩
  have hst : Calls Tryz.prog 227 #[.slice none 0 0, .int .i64 0, .func (.func 166) #[] #[]] w fun e w' => e = .returned (.tuple #[]) ∧ w' = w := by
    go_enter Tryz.func227, Tryz.ntmps227
    go_wp2_with fail
    refine wp_loop_rounds 1 ?_
    rw [rounds_succ]
    go_wp2_with (go_at_call 283; refine hins.mono ?_; rintro e w' ⟨rfl, hw⟩; rw [hw])
    refine wp_loop_rounds 1 ?_
    rw [rounds_succ]
    go_wp2_with fail
    go_end0
    exact ⟨rfl, rfl⟩
  go_enter Tryz.func165, Tryz.ntmps165
  go_wp2_with (go_at_call 227; refine hst.mono ?_; rintro e w' ⟨rfl, hw⟩; rw [hw])
  go_end0
  exact ⟨rfl, rfl⟩

/-- Is an item wanted? -/
def wantAc (key : ByteArray) (x : ItemR) : Bool := decide (x.kind = 0) && decide (x.act.author = key)
structure WantFAc (w : World) (x : ItemR) (w' : World) : Prop where
  q : Q w w'
  it : Blk w' w.heap.size 49 x.cells.toArray
  r : ∃ cs : List Value, cs.length = 20 ∧ Blk w' (w.heap.size + 1) 41 cs.toArray
structure WantWAc (w0 : World) (x : ItemR) where
  w : World
  f : WantFAc w0 x w
set_option maxRecDepth 100000 in
set_option maxHeartbeats 2000000 in
theorem wantAc_any (p1 : Nat) (key : ByteArray) (x : ItemR) (w : World) (h1 : w.cell? ⟨p1, 0, none⟩ = some (.string key)) (hp1 : p1 < w.heap.size) :
    Calls Tryz.prog 94 #[.agg (itA x), .pointer (some ⟨p1, 0, none⟩)] w fun e w' => e = .returned (.tuple #[.agg (actA x.act), .int .i64 x.act.seq, .bool (wantAc key x)]) ∧ Q w w' := by
  have hbi := Blk.new w 49 (itA x)
  have hq1 := q_new w (itA x) 49
  have hbr := Blk.new' (g := w.heap.size + 1) (w.alloc (.cells (itA x) 49)) 41 (actA act0) (by simp)
  have hq2 := q_new (w.alloc (.cells (itA x) 49)) (actA act0) 41
  have hbi := hbi.q hq2
  have hq := Q.trans hq1 hq2
  clear hq1 hq2
  obtain ⟨w2, hw2⟩ : ∃ w2, w2 = (w.alloc (.cells (itA x) 49)).alloc (.cells (actA act0) 41) := ⟨_, rfl⟩
  rw [← hw2] at hbi hbr hq
  have hw2s : w2.heap.size = w.heap.size + 1 + 1 := by rw [hw2]; simp
  have hLd : ∀ y : Wd w2, (Instr.loadAt 41 (.pointer (some ⟨w.heap.size, 1, none⟩))).run Tryz.prog y.w = .ok (.agg (actA x.act)) y.w := item_act hbi.lt (Blk.range hbi)
  have HX := Lib.hid hw2
  clear hw2
  go_enter Tryz.func94, Tryz.ntmps94
  go_upto_region 1 with (fail)
  refine (show Code.wp _ _ _ _ w2 → Code.wp _ _ _ _ _ from fun h => by rw [HX.out] at h; exact h) ?_
  have hF : WantFAc w x w2 := ⟨hq, hbi, act0.cells, rfl, hbr⟩
  clear hbr hq HX hw2s hLd
  have hFd : ∃ y : WantWAc w x, ({ w2 with drawn := w2.drawn + 1 } : World) = y.w := ⟨⟨_, ⟨hF.q.drew, hF.it, hF.r⟩⟩, rfl⟩
  have cK : ∀ y : WantWAc w x, y.w.cell? ⟨w.heap.size, 0, none⟩ = some (.int .i64 x.kind) := fun y => y.f.it.cell 0
  have cA : ∀ y : WantWAc w x, y.w.cell? ⟨w.heap.size, 1, none⟩ = some (.string x.act.author) := fun y => y.f.it.cell 1
  have cR : ∀ y : WantWAc w x, y.w.cell? ⟨w.heap.size, 2, none⟩ = some (.int .i64 x.act.seq) := fun y => y.f.it.cell 2
  have c1 : ∀ y : WantWAc w x, y.w.cell? ⟨p1, 0, none⟩ = some (.string key) := fun y => (y.f.q.cell (p := ⟨p1, 0, none⟩) hp1).trans h1
  have hLb : ∀ z, (∃ y : WantWAc w x, z = y.w) → (Instr.loadAt 41 (.pointer (some ⟨w.heap.size, 1, none⟩))).run Tryz.prog z = .ok (.agg (actA x.act)) z := by
    rintro z ⟨y, rfl⟩
    exact item_act (w1 := y.w) y.f.it.lt (Blk.range y.f.it) ⟨y.w, Q.refl _⟩
  have HR : Hid (wantAc key x = (decide (x.kind = 0) && decide (x.act.author = key))) := Lib.hid rfl
  haveI hNE : Nonempty (WantWAc w x) := ⟨⟨w2, hF⟩⟩
  clear hF h1 hbi
  by_cases hk : x.kind = 0
  · rw [decide_eq_true hk, Bool.true_and] at HR
    refine wp_region_reads (S := fun w' => ∃ y : WantWAc w x, w' = y.w) 15 (by kernel_rfl) (by kernel_rfl) (by intro c a d v w h; cases d <;> exact h) hFd ?_
    simp only [List.take_succ_cons, List.take_zero]
    go_big_quiet_step (fail)
    refine wpQuiet_load_S 41 (.tmp 6) (.pointer (some ⟨w.heap.size, 1, none⟩)) (.agg (actA x.act)) rfl rfl rfl hLb ?_
    dsimp only [Act.put]
    simp only [List.setIfInBounds_toArray, List.set_cons_succ, List.set_cons_zero]
    repeat (go_big_quiet_step (fail))
    refine wpQuiet_nil ?_
    rintro w' ⟨y, rfl⟩
    obtain ⟨cs, hcs, hbr⟩ := y.f.r
    refine held_one 15 rfl (by kernel_rfl) rfl (fun K' hK' => ?_)
    refine wp_store_mid 41 (.tmp 3) (.tmp 7) rfl (w.heap.size + 1) 0 (actA x.act) rfl rfl (show y.w.there (w.heap.size + 1) 0 20 by simpa using hbr.there (n := 20) (Nat.le_of_eq hcs.symm)) (by kernel_rfl) (act_all _) ?_
    have hsc : Blk (y.w.setCells (w.heap.size + 1) 0 x.act.cells) (w.heap.size + 1) 41 x.act.cells.toArray := by
      have := Blk.setCells x.act.cells 0 _ y.w hbr (Nat.le_of_eq (by rw [hcs]; rfl))
      rwa [splice_all _ _ (by rw [hcs]; rfl)] at this
    have hfar := fun b (hne : b ≠ w.heap.size + 1) => setCells_far (g := w.heap.size + 1) hne x.act.cells 0 y.w
    have hqs : Q w (y.w.setCells (w.heap.size + 1) 0 x.act.cells) := below_setCells (Nat.le_succ _) x.act.cells 0 w y.w y.f.q
    have hFN : WantFAc w x (y.w.setCells (w.heap.size + 1) 0 x.act.cells) := ⟨hqs, (hfar _ (by omega)).trans y.f.it, x.act.cells, rfl, hsc⟩
    refine hK' _ _ ⟨⟨_, hFN⟩, rfl⟩ ?_
    clear hK' K' hbr hfar
    have HZ := Lib.hid hsc
    have HQ := Lib.hid hqs
    clear hsc hqs
    simp only [Act.put, List.setIfInBounds_toArray, List.set_cons_succ, List.set_cons_zero]
    refine held_pure 16 (v := .int .i64 x.act.seq) rfl (by kernel_rfl) (by kernel_rfl) (by kernel_rfl) (by intro c a d v w h; cases d <;> exact h) rfl ⟨⟨_, hFN⟩, rfl⟩ (fun w => by rfl) ?_
    simp only [Act.put, List.setIfInBounds_toArray, List.set_cons_succ, List.set_cons_zero]
    refine held_pure 17 (v := .bool (x.act.author.toList == key.toList)) rfl (by kernel_rfl) (by kernel_rfl) (by kernel_rfl) (by intro c a d v w h; cases d <;> exact h) rfl ⟨⟨_, hFN⟩, rfl⟩ (fun w => by rfl) ?_
    simp only [Act.put, List.setIfInBounds_toArray, List.set_cons_succ, List.set_cons_zero]
    refine wpAnyH_done (by kernel_rfl) ?_ _
    go_wp2_with fail
    exact bodyPost_ret (results_row_tmp2 rfl _ _ (w.heap.size + 1) 41 (actA x.act) (0, 0) _ _ _ rfl rfl rfl HZ.out Tryz.underlying41 rfl (by kernel_rfl)) rfl ⟨by rw [HR.out, ← beq_str]; rfl, HQ.out⟩
  · rw [decide_eq_false hk, Bool.false_and] at HR
    have hkb : (x.kind == 0) = false := by simpa using hk
    refine wp_region_reads (S := fun w' => ∃ y : WantWAc w x, w' = y.w) 15 (by kernel_rfl) (by kernel_rfl) (by intro c a d v w h; cases d <;> exact h) hFd ?_
    simp only [List.take_succ_cons, List.take_zero]
    go_big_quiet_step (fail)
    refine wpQuiet_load_S 41 (.tmp 6) (.pointer (some ⟨w.heap.size, 1, none⟩)) (.agg (actA x.act)) rfl rfl rfl hLb ?_
    dsimp only [Act.put]
    simp only [List.setIfInBounds_toArray, List.set_cons_succ, List.set_cons_zero]
    repeat (go_big_quiet_step (fail))
    refine wpQuiet_nil ?_
    rintro w' ⟨y, rfl⟩
    obtain ⟨cs, hcs, hbr⟩ := y.f.r
    refine held_one 15 rfl (by kernel_rfl) rfl (fun K' hK' => ?_)
    refine wp_store_mid 41 (.tmp 3) (.tmp 7) rfl (w.heap.size + 1) 0 (actA x.act) rfl rfl (show y.w.there (w.heap.size + 1) 0 20 by simpa using hbr.there (n := 20) (Nat.le_of_eq hcs.symm)) (by kernel_rfl) (act_all _) ?_
    have hsc : Blk (y.w.setCells (w.heap.size + 1) 0 x.act.cells) (w.heap.size + 1) 41 x.act.cells.toArray := by
      have := Blk.setCells x.act.cells 0 _ y.w hbr (Nat.le_of_eq (by rw [hcs]; rfl))
      rwa [splice_all _ _ (by rw [hcs]; rfl)] at this
    have hfar := fun b (hne : b ≠ w.heap.size + 1) => setCells_far (g := w.heap.size + 1) hne x.act.cells 0 y.w
    have hqs : Q w (y.w.setCells (w.heap.size + 1) 0 x.act.cells) := below_setCells (Nat.le_succ _) x.act.cells 0 w y.w y.f.q
    have hFN : WantFAc w x (y.w.setCells (w.heap.size + 1) 0 x.act.cells) := ⟨hqs, (hfar _ (by omega)).trans y.f.it, x.act.cells, rfl, hsc⟩
    refine hK' _ _ ⟨⟨_, hFN⟩, rfl⟩ ?_
    clear hK' K' hbr hfar
    have HZ := Lib.hid hsc
    have HQ := Lib.hid hqs
    clear hsc hqs
    simp only [Act.put, List.setIfInBounds_toArray, List.set_cons_succ, List.set_cons_zero]
    refine held_pure 16 (v := .int .i64 x.act.seq) rfl (by kernel_rfl) (by kernel_rfl) (by kernel_rfl) (by intro c a d v w h; cases d <;> exact h) rfl ⟨⟨_, hFN⟩, rfl⟩ (fun w => by rfl) ?_
    simp only [Act.put, List.setIfInBounds_toArray, List.set_cons_succ, List.set_cons_zero]
    refine held_pure 17 (v := .bool false) rfl (by kernel_rfl) (by kernel_rfl) (by kernel_rfl) (by intro c a d v w h; cases d <;> exact h) rfl ⟨⟨_, hFN⟩, rfl⟩ (fun w => by rfl) ?_
    simp only [Act.put, List.setIfInBounds_toArray, List.set_cons_succ, List.set_cons_zero]
    refine wpAnyH_done (by kernel_rfl) ?_ _
    go_wp2_with fail
    exact bodyPost_ret (results_row_tmp2 rfl _ _ (w.heap.size + 1) 41 (actA x.act) (0, 0) _ _ _ rfl rfl rfl HZ.out Tryz.underlying41 rfl (by kernel_rfl)) rfl ⟨by rw [HR.out]; rfl, HQ.out⟩

def foundAc (x : ItemR) : Found ActR := ⟨x.act.seq, digOf x, x.act⟩
def takeAc (key : ByteArray) (l : List ItemR) : List (Found ActR) := (l.filter fun x => wantAc key x && itemRight x).map foundAc
theorem takeAc_step (key : ByteArray) (l : List ItemR) (j : Nat) (h : j < l.length) : takeAc key (l.take (j + 1)) = takeAc key (l.take j) ++ if wantAc key l[j] && itemRight l[j] then [foundAc l[j]] else [] := by
  unfold takeAc
  rw [List.take_succ_eq_append_getElem h, List.filter_append, List.map_append]
  congr 1
  cases hw : wantAc key l[j] && itemRight l[j] <;> simp [List.filter, hw]
theorem takeAc_le (key : ByteArray) (l : List ItemR) (j : Nat) : (takeAc key (l.take j)).length ≤ j := by
  unfold takeAc
  rw [List.length_map]
  refine Nat.le_trans (List.length_filter_le _ _) ?_
  rw [List.length_take]
  omega
def sortAc (l : List (Found ActR)) : List (Found ActR) := (sortA l.toArray).toList
def listAc (key : ByteArray) (l : List ItemR) : List ActR := (sortAc (takeAc key l)).map (·.val)
theorem sortAc_length (l : List (Found ActR)) : (sortAc l).length = l.length := by
  unfold sortAc sortA Go.Sort.insertionSort
  rw [Array.length_toList, size_insO _ _ _ _ _ _ rfl, List.size_toArray]

theorem sortAc_nil : sortAc [] = [] := List.length_eq_zero_iff.1 (sortAc_length [])
/-- The sort, of an own row. -/
theorem sortedAc_any (A : Option Addr) (c m base : Nat) (l : List (Found ActR)) (w : World) (hm : m = l.length) (h20 : m < 20) (h : Owns w base 191 22 (.slice A m c) m (l.flatMap facC)) (hB : base ≤ w.heap.size) :
    Calls Tryz.prog 165 #[.slice A m c, .func (.func 166) #[] #[]] w fun e w' => e = .returned (.tuple #[]) ∧ (RowsAt w' A 22 facC (sortAc l) ∧ Below base w w') := by
  rcases h.2 with ⟨e1, h0⟩ | ⟨g, cap, cur, fz, hv, hb, hg, _⟩
  · injection e1 with hA _ hc
    subst hA hc
    have hl : l = [] := List.length_eq_zero_iff.1 (by omega)
    subst hl
    subst hm
    refine (stableAc_nil w).mono ?_
    rintro e w' ⟨rfl, rfl⟩
    exact ⟨rfl, by rw [sortAc_nil]; exact RowsAt.nil _ _ _ _, Below.refl _ _⟩
  · injection hv with hA _ hc
    subst hA
    rcases Nat.eq_zero_or_pos m with h0 | h0
    · have hl : l = [] := List.length_eq_zero_iff.1 (by omega)
      subst hl
      have hH : Go.Sort.HoldsK facC 22 w g 0 (#[] : Array (Found ActR)) := fun t ht => by rw [Go.Sort.size_flatK] at ht; simp at ht
      have := stableAc_any g c #[] w hH (Array.getElem?_eq_some_iff.1 hg).1 (by simp)
      subst hm
      refine this.mono ?_
      rintro e w' ⟨rfl, n, os, rfl⟩
      exact ⟨rfl, by rw [sortAc_nil]; exact RowsAt.nil _ _ _ _, below_sort (Below.refl _ _) hb hB⟩
    · obtain ⟨hH, hb', hg'⟩ := holds_of fac_len h hm h0
      subst hm
      have hs : (l.toArray).size = l.length := by simp
      have hsa : (sortA l.toArray).size = l.toArray.size := by
        unfold sortA Go.Sort.insertionSort
        rw [size_insO _ _ _ _ _ _ rfl]
      have := stableAc_any g c l.toArray w hH hg' (by rw [hs]; exact h20)
      rw [hs] at this
      refine this.mono ?_
      rintro e w' ⟨rfl, n, os, rfl⟩
      refine ⟨rfl, rows_of fac_len (holdsK_sortWorldK_c facC 22 w g 0 l.toArray _ n os hH hg' hsa) ?_, below_sort (Below.refl _ _) hb hB⟩
      exact Nat.lt_of_lt_of_le hg' (size_sortWorldK_c facC 22 w g 0 n _ os)

theorem foundAc_info : (Tryz.prog.info? 191).map (fun i => (i.zero, i.size, i.bytes)) = some (some (.agg (facC default).toArray), 22, 288) := by kernel_rfl
theorem valAc_info : (Tryz.prog.info? 41).map (fun i => (i.zero, i.size, i.bytes)) = some (some (.agg (actA act0)), 20, 264) := by kernel_rfl
theorem fac_all (x : Found ActR) : (facC x).toArray.all (·.oneCell') = true := by
  rw [Array.all_eq_true_iff_forall_mem]
  intro v hv
  exact fac_one x v (by simpa using hv)
theorem buildAc_found (n : Int) (d : ByteArray) (b : ActR) (w : World) : (Instr.build 191 #[(0, .int .i64 n), (1, .string d), (2, .agg (actA b))]).run Tryz.prog w = .ok (.agg (facC ⟨n, d, b⟩).toArray) w := by kernel_rfl
theorem bsAc_found (x : Found ActR) (w : World) : (Instr.buildSlice 188 1 #[(0, .agg (facC x).toArray)]).run Tryz.prog w = .ok (.slice (some ⟨w.heap.size, 0, none⟩) 1 1) (w.alloc (.cells (facC x).toArray 191)) := by kernel_rfl
theorem bsAc_val (x : ActR) (w : World) : (Instr.buildSlice 56 1 #[(0, .agg (actA x))]).run Tryz.prog w = .ok (.slice (some ⟨w.heap.size, 0, none⟩) 1 1) (w.alloc (.cells (actA x) 41)) := by kernel_rfl
theorem valAc_len (x : ActR) : x.cells.length = 20 := rfl
theorem valAc_one (x : ActR) : ∀ v ∈ x.cells, v.oneCell' = true := by
  have := act_all x
  rw [Array.all_eq_true_iff_forall_mem] at this
  intro v hv
  exact this v (by simpa using hv)

/-- What hands back a list of ballots. -/
def ListAcAre (l : List ActR) (w : World) (e : Ending) (w' : World) : Prop := ∃ (A : Option Addr) (c : Nat), e = .returned (.slice A l.length c) ∧ l.length ≤ c ∧ c ≤ maxLen ∧ RowsAt w' A 20 ActR.cells l ∧ Q w w'
set_option maxRecDepth 100000 in
set_option maxHeartbeats 2000000 in
theorem pickAc_any (k : KR) (p1 : Nat) (key : ByteArray) (w : World) (hT : Tab w) (hK : KIn w k) (h1 : w.cell? ⟨p1, 0, none⟩ = some (.string key)) (hp1 : p1 < w.heap.size) (hn : k.l.length < 20) :
    Calls Tryz.prog 93 #[.agg (knA k), .func (.func 94) #[] #[.pointer (some ⟨p1, 0, none⟩)]] w (ListAcAre (listAc key k.l) w) := by
  obtain ⟨w1, x, hx, hq1, hbk⟩ := boxedB w 27 k.cells
  have hx : w.alloc (.cells (knA k) 27) = x.w := hx
  have cI : ∀ y : Wd w1, y.w.cell? ⟨w.heap.size, 1, none⟩ = some (.slice k.iA k.l.length k.iC) := fun y => (y.blk hbk).cell 1
  have hKy : ∀ y : Wd w1, KIn y.w k := fun y => hK.q (Q.trans hq1 y.q)
  have hTy : ∀ y : Wd w1, Tab y.w := fun y => hT.q (Q.trans hq1 y.q)
  have hW1 : ∀ y : Wd w1, y.w.cell? ⟨p1, 0, none⟩ = some (.string key) := fun y => ((Q.trans hq1 y.q).cell (p := ⟨p1, 0, none⟩) hp1).trans h1
  have hP1 : ∀ y : Wd w1, p1 < y.w.heap.size := fun y => Nat.lt_of_lt_of_le hp1 (Q.trans hq1 y.q).size
  have HQ := Lib.hid hq1
  obtain ⟨i0, hi, hz0, hz1, hz2⟩ := info_parts foundAc_info
  obtain ⟨j0, hji, hy0, hy1, hy2⟩ := info_parts valAc_info
  have e99 : ∀ args w, (callFunc 94 args).run Tryz.prog w = .ok (.enter 94 args) w := enters_of Tryz.func94 (by kernel_rfl) rfl
  clear hbk hq1 h1 hp1
  go_enter Tryz.func93, Tryz.ntmps93
  go_wp2_with fail
  go_loopw [5, 17] (fun a i wr => ∃ (j c m : Nat) (A : Option Addr) (z : Wd w1), a = .slice A m c ∧ i = .int .i64 j ∧ wr = z.w ∧ j ≤ k.l.length ∧ m ≤ j ∧ m ≤ c ∧ c ≤ maxLen ∧ Hid (m = (takeAc key (k.l.take j)).length) ∧ Owns z.w w1.heap.size 191 22 (.slice A m c) m ((takeAc key (k.l.take j)).flatMap facC)) (fun _ i _ => k.l.length - (intOf i).toNat)
  case atStart => exact ⟨0, 0, 0, none, x, rfl, rfl, rfl, Nat.zero_le _, Nat.zero_le _, Nat.zero_le _, Nat.zero_le _, Lib.hid rfl, Owns.nil_ _ _ _ _⟩
  case round =>
    obtain ⟨j, c, m, A, z, rfl, rfl, rfl, hj, hmj, hmc, hcm, hm, hown⟩ := hrel
    by_cases hlt : j < k.l.length
    · obtain ⟨b, o, eA, hb, hld⟩ := (hKy z).items.load j hlt
      have hio := fun y : Wd z.w => ((hKy z).items.each _ (List.getElem_mem hlt)).q y.q
      rw [eA]
      have hTz : ∀ y : Wd z.w, Tab y.w := fun y => hTy ⟨y.w, Q.trans z.q y.q⟩
      have hzs := z.q.size
      have HTS := Lib.hid (takeAc_step key k.l j hlt)
      generalize k.l[j] = it at *
      go_wp2_with (first | (refine wpList_load_run 49 (.tmp 19) (.pointer (some ⟨b, o + j * 49, none⟩)) (.agg (itA it)) ?_ ?_ ?_ ?_ ?_; rfl; rfl; rfl; exact hld ⟨_, Q.refl _⟩) | (refine wpList_store_blk (Blk.new z.w 49 item0.cells.toArray) rfl 49 (.tmp 7) (.tmp 20) it.cells rfl rfl rfl (by kernel_rfl) (it_all _) (Nat.le_refl 49) ?_))
      intro W hW hbel
      rw [splice_all _ _ (by rfl)] at hW
      have hqz : Q z.w W := hbel _ _ (Nat.le_refl _) (q_new _ _ _)
      have hq3 : Q w1 W := Q.trans z.q hqz
      have hLi : ∀ y : Wd W, (Instr.loadAt 49 (.pointer (some ⟨z.w.heap.size, 0, none⟩))).run Tryz.prog y.w = .ok (.agg (itA it)) y.w := Wd.load hW.lt (Blk.range hW) Tryz.underlying49 rfl (by kernel_rfl)
      have hcl : ∀ y : Wd W, Calls Tryz.prog 94 #[.agg (itA it), .pointer (some ⟨p1, 0, none⟩)] y.w fun e w' => e = .returned (.tuple #[.agg (actA it.act), .int .i64 it.act.seq, .bool (wantAc key it)]) ∧ Q y.w w' := fun y => wantAc_any p1 key it y.w (hW1 ⟨y.w, Q.trans hq3 y.q⟩) (hP1 ⟨y.w, Q.trans hq3 y.q⟩)
      have hWs := hq3.size
      obtain ⟨v, hv⟩ := Wd.first W
      rw [hv]
      clear hbel hld hv eA hb cI hW1 hP1
      generalize hwt : wantAc key it = wt at *
      go_wp2_with (first | (refine wpList_load_run 49 (.tmp 7) (.pointer (some ⟨z.w.heap.size, 0, none⟩)) (.agg (itA it)) ?_ ?_ ?_ ?_ ?_; rfl; rfl; rfl; exact hLi _) | (go_at_fn 94; refine (hcl _).mono ?_; rintro e w' ⟨rfl, hq2⟩; obtain ⟨y, rfl⟩ := Wd.next _ hq2; clear hq2) | (refine wpList_store_blk (Blk.new y.w 41 act0.cells.toArray) rfl 41 (.tmp 8) (.tmp 25) it.act.cells rfl rfl rfl (by kernel_rfl) (act_all _) (Nat.le_refl 20) ?_))
      intro W2 hB2 hbel2
      rw [splice_all _ _ (by rfl)] at hB2
      have hqy : Q W W2 := hbel2 _ _ y.q.size (Q.trans y.q (q_new _ _ _))
      have hq4 : Q w1 W2 := Q.trans hq3 hqy
      have hLi2 : ∀ y : Wd W2, (Instr.loadAt 49 (.pointer (some ⟨z.w.heap.size, 0, none⟩))).run Tryz.prog y.w = .ok (.agg (itA it)) y.w := fun y => hLi ⟨y.w, Q.trans hqy y.q⟩
      have hLb2 : ∀ u : Wd W2, (Instr.loadAt 41 (.pointer (some ⟨y.w.heap.size, 0, none⟩))).run Tryz.prog u.w = .ok (.agg (actA it.act)) u.w := Wd.load hB2.lt (Blk.range hB2) Tryz.underlying41 rfl (by kernel_rfl)
      have hIi : ∀ u : Wd W2, ItemIn u.w it := fun u => hio ⟨u.w, Q.trans (Q.trans hqz hqy) u.q⟩
      have hdg2 : ∀ u : Wd W2, Calls Tryz.prog 21 #[.agg (itA it)] u.w fun e w' => e = .returned (.string (digOf it)) ∧ Q u.w w' := fun u => digest_any it u.w (hTz ⟨u.w, Q.trans (Q.trans hqz hqy) u.q⟩) (hIi u)
      have hownW : ∀ u : Wd W2, Owns u.w w1.heap.size 191 22 (.slice A m c) m ((takeAc key (k.l.take j)).flatMap facC) := fun u => hown.q (Q.trans (Q.trans hqz hqy) u.q)
      have hrg : ∀ (r : Bool), itemRight it = r → ∀ u : Wd W2, Calls Tryz.prog 52 #[.agg (itA it)] u.w fun e w' => e = .returned (.bool r) ∧ Q u.w w' := fun r hr u => right_at it r u.w (hIi u) hr
      have HQ4 := Lib.hid hq4
      have hWs2 := hq4.size
      obtain ⟨u, hu⟩ := Wd.first W2
      rw [hu]
      clear hbel2 hu hqy hq4 hq3 hqz hLi hcl hio hTz hown hTy hW hB2
      cases wt
      · have HTE := Lib.hid (show takeAc key (k.l.take (j + 1)) = takeAc key (k.l.take j) by rw [HTS.out]; simp)
        go_wp2_with fail
        exact ⟨⟨j + 1, c, m, A, ⟨u.w, Q.trans HQ4.out u.q⟩, rfl, by go_num, rfl, by omega, by omega, hmc, hcm, Lib.hid (by rw [HTE.out]; exact hm.out), by rw [HTE.out]; exact hownW u⟩, by simp only [intOf]; omega⟩
      · cases hr : itemRight it
        · have HTE := Lib.hid (show takeAc key (k.l.take (j + 1)) = takeAc key (k.l.take j) by rw [HTS.out, hr]; simp)
          have hrg0 := hrg false hr
          clear hrg hr
          go_wp2_with (first | (refine wpList_load_run 49 (.tmp 7) (.pointer (some ⟨z.w.heap.size, 0, none⟩)) (.agg (itA it)) ?_ ?_ ?_ ?_ ?_; rfl; rfl; rfl; exact hLi2 _) | (go_at_call 52; refine (hrg0 _).mono ?_; rintro e w' ⟨rfl, hq2⟩; obtain ⟨t, rfl⟩ := Wd.next _ hq2; clear hq2))
          exact ⟨⟨j + 1, c, m, A, ⟨t.w, Q.trans HQ4.out t.q⟩, rfl, by go_num, rfl, by omega, by omega, hmc, hcm, Lib.hid (by rw [HTE.out]; exact hm.out), by rw [HTE.out]; exact hownW t⟩, by simp only [intOf]; omega⟩
        · have HTE := Lib.hid (show takeAc key (k.l.take (j + 1)) = takeAc key (k.l.take j) ++ [foundAc it] by rw [HTS.out, hr]; simp)
          have hrg0 := hrg true hr
          clear hrg hr
          go_wp2_with (first | (refine wpList_load_run 49 (.tmp 7) (.pointer (some ⟨z.w.heap.size, 0, none⟩)) (.agg (itA it)) ?_ ?_ ?_ ?_ ?_; rfl; rfl; rfl; exact hLi2 _) | (go_at_call 52; refine (hrg0 _).mono ?_; rintro e w' ⟨rfl, hq2⟩; obtain ⟨t, rfl⟩ := Wd.next _ hq2; clear hq2))
          refine wp_region_wd_parts t 2 6 (by kernel_rfl) (by kernel_rfl) (by intro c d v a w h; cases d <;> exact h) ?_
          simp only [List.take_succ_cons, List.take_zero, List.drop_succ_cons, List.drop_zero]
          refine wpPure_move (.tmp 5) (.slice A m c) rfl rfl rfl ?_
          dsimp only [Act.put]
          simp only [List.setIfInBounds_toArray, List.set_cons_succ, List.set_cons_zero]
          refine wpPure_move (.tmp 9) (.int .i64 it.act.seq) rfl rfl rfl ?_
          dsimp only [Act.put]
          simp only [List.setIfInBounds_toArray, List.set_cons_succ, List.set_cons_zero]
          refine wpPure_nil ?_
          refine wpQuiet_load_run 49 (.tmp 7) (.pointer (some ⟨z.w.heap.size, 0, none⟩)) (.agg (itA it)) rfl rfl rfl hLi2 ?_
          dsimp only [Act.put]
          simp only [List.setIfInBounds_toArray, List.set_cons_succ, List.set_cons_zero]
          go_big_quiet_step (first | (go_at_call 21; exact Wd.call _ (hdg2 _)))
          refine wpQuiet_load_run 41 (.tmp 8) (.pointer (some ⟨y.w.heap.size, 0, none⟩)) (.agg (actA it.act)) rfl rfl rfl hLb2 ?_
          dsimp only [Act.put]
          simp only [List.setIfInBounds_toArray, List.set_cons_succ, List.set_cons_zero]
          refine wpQuiet_build_run 191 _ #[(0, .int .i64 it.act.seq), (1, .string (digOf it)), (2, .agg (actA it.act))] _ rfl rfl (by simp only [List.map_toArray, List.map_cons, List.map_nil]; rfl) (buildAc_found (it.act.seq) (digOf it) it.act) ?_
          dsimp only [Act.put]
          simp only [List.setIfInBounds_toArray, List.set_cons_succ, List.set_cons_zero]
          refine wpQuiet_nil ?_
          rintro w6 ⟨t2, rfl⟩
          refine wpList_buildSlice_run 188 1 _ #[(0, .agg (facC (foundAc it)).toArray)] _ rfl rfl (by simp only [List.map_toArray, List.map_cons, List.map_nil]; rfl) (bsAc_found (foundAc it) _) ?_
          dsimp only [Act.put]
          simp only [List.setIfInBounds_toArray, List.set_cons_succ, List.set_cons_zero]
          refine wpList_append_rows fac_len fac_one rfl (.tmp 33) (.tmp 39) 188 191 i0 _ 288 rfl Tryz.underlying188 hi hz0 hz1 hz2 rfl (by decide) (by decide) w1.heap.size (.slice A m c) m (takeAc key (k.l.take j)) rfl ((hownW t2).alloc (.cells (facC (foundAc it)).toArray 191)) (some ⟨t2.w.heap.size, 0, none⟩) 1 1 [foundAc it] rfl (RowsAt.one t2.w 191 (foundAc it) _ rfl) rfl (by omega) (by have := t2.q.size; simp; omega) ?_
          intro A5 c5 w5 hc5 hm5 hown5 hg5
          have hq5 : Q w1 w5 := q_grown (Q.trans (Q.trans HQ4.out t2.q) (q_new _ _ _)) (Nat.le_refl _) ((hownW t2).alloc _) hg5
          obtain ⟨y5, rfl⟩ : ∃ y5 : Wd w1, w5 = y5.w := ⟨⟨w5, hq5⟩, rfl⟩
          rw [← HTE.out] at hown5
          have HM5 : Hid (m + 1 = (takeAc key (k.l.take (j + 1))).length) := Lib.hid (by rw [HTE.out, List.length_append, ← hm.out]; rfl)
          clear hownW hg5 hq5 hdg2 hLi2 hLb2 hIi hrg0
          go_wp2_with fail
          exact ⟨⟨j + 1, c5, m + 1, A5, y5, rfl, by go_num, rfl, by omega, by omega, hc5, hm5, HM5, hown5⟩, by simp only [intOf]; omega⟩
    · have hjn : j = k.l.length := by omega
      have hm := hm.out
      rw [hjn, List.take_length] at hown hm
      have hm20 : m < 20 := by omega
      have hso := sortedAc_any A c m w1.heap.size (takeAc key k.l) z.w hm hm20 hown z.q.size
      have hlen : (sortAc (takeAc key k.l)).length = m := by rw [sortAc_length]; exact hm.symm
      have HB := Lib.hid (show listAc key k.l = (sortAc (takeAc key k.l)).map (·.val) from rfl)
      have HZ := Lib.hid z.q
      generalize sortAc (takeAc key k.l) = L at hso hlen HB
      clear hown hm hjn cI hW1 hP1 hKy hTy
      go_wp2_with (first | (go_at_call 165; refine hso.mono ?_; rintro e w6 ⟨rfl, hR6, hb6⟩; have HQ6 := Lib.hid (Below.trans HZ.out hb6); clear hb6 hso; obtain ⟨y6, hy6⟩ := Wd.first w6; rw [hy6]; clear hy6) | (refine wpList_make_own _ rfl _ _ 56 rfl w6.heap.size 41 j0 _ 20 Tryz.underlying56 hji hy0 hy1 .i64 .i64 (m : Int) m rfl rfl rfl (by rw [hy2]; omega) (by simp only [maxLen]; omega) y6.q.size ?_))
      intro w7 hown0 hg0
      have hown : Owns w7 w6.heap.size 41 20 (.slice (some ⟨y6.w.heap.size, 0, none⟩) 0 m) 0 (([] : List ActR).flatMap ActR.cells) := Owns.of hown0
      have hq7 : Q w6 w7 := Below.grown y6.q hg0 y6.q.size (fun _ h => by cases h)
      obtain ⟨y7, rfl⟩ : ∃ y7 : Wd w6, w7 = y7.w := ⟨⟨w7, hq7⟩, rfl⟩
      have hRy : ∀ y : Wd w6, RowsAt y.w A 22 facC L := fun y => hR6.q y.q
      clear hown0 hg0 hq7 hR6
      go_wp2_with fail
      go_loopw [11, 49] (fun a i wr => ∃ (j c : Nat) (A : Option Addr) (z : Wd w6), a = .slice A j c ∧ i = .int .i64 j ∧ wr = z.w ∧ j ≤ m ∧ j ≤ c ∧ c ≤ maxLen ∧ Owns z.w w6.heap.size 41 20 (.slice A j c) j (((L.take j).map (·.val)).flatMap ActR.cells)) (fun _ i _ => m - (intOf i).toNat)
      case atStart => exact ⟨0, m, _, y7, rfl, rfl, rfl, Nat.zero_le _, Nat.zero_le _, by simp only [maxLen]; omega, hown⟩
      case round =>
        clear hown
        obtain ⟨j2, c2, A2, z2, rfl, rfl, rfl, hj2, hjc2, hcm2, hown⟩ := hrel
        by_cases hlt2 : j2 < m
        · obtain ⟨b, o, eA, hb, hcs⟩ := hRy z2 (by omega)
          have hld : ∀ y : Wd z2.w, (Instr.loadAt 191 (.pointer (some ⟨b, o + j2 * 22, none⟩))).run Tryz.prog y.w = .ok (.agg (facC (L[j2]'(by omega))).toArray) y.w := Wd.load hb (hcs j2 (by omega)) Tryz.underlying191 rfl (by kernel_rfl)
          have HLS := Lib.hid (show (L.take (j2 + 1)).map (·.val) = (L.take j2).map (·.val) ++ [(L[j2]'(by omega)).val] by rw [List.take_succ_eq_append_getElem (by omega), List.map_append]; rfl)
          rw [eA]
          have hzs2 := z2.q.size
          clear hcs
          generalize L[j2]'(by omega) = e2 at *
          have hbf := Blk.new z2.w 191 (facC default).toArray
          go_wp2_with (first | (refine wpList_load_run 191 (.tmp 51) (.pointer (some ⟨b, o + j2 * 22, none⟩)) (.agg (facC e2).toArray) ?_ ?_ ?_ ?_ ?_; rfl; rfl; rfl; exact hld ⟨_, Q.trans (Q.refl _) (Q.refl _)⟩) | (refine wpList_store_blk hbf rfl 191 (.tmp 13) (.tmp 52) (facC e2) rfl rfl rfl (by kernel_rfl) (fac_all _) (Nat.le_refl 22) ?_))
          intro W hW hbel
          rw [splice_all _ _ (by rfl)] at hW
          have hqz : Q z2.w W := hbel _ _ (Nat.le_refl _) (q_new _ _ _)
          have hq3 : Q w6 W := Q.trans z2.q hqz
          have hrv : W.rangeAt z2.w.heap.size 2 e2.val.cells := by
            have := range_sub (Blk.range hW) 2 20
            rw [Nat.zero_add] at this
            exact this
          have hLv : ∀ y : Wd W, (Instr.loadAt 41 (.pointer (some ⟨z2.w.heap.size, 2, none⟩))).run Tryz.prog y.w = .ok (.agg (actA e2.val)) y.w := Wd.load hW.lt hrv Tryz.underlying41 rfl (by kernel_rfl)
          have hownW : ∀ y : Wd W, Owns y.w w6.heap.size 41 20 (.slice A2 j2 c2) j2 (((L.take j2).map (·.val)).flatMap ActR.cells) := fun y => hown.q (Q.trans hqz y.q)
          have HQ3 := Lib.hid hq3
          have hWs := hq3.size
          obtain ⟨v, hv⟩ := Wd.first W
          rw [hv]
          clear hW hbel hld hv hqz hq3 hown hrv hbf
          go_wp2_with (first | (refine wpList_load_run 41 (.tmp 54) (.pointer (some ⟨z2.w.heap.size, 2, none⟩)) (.agg (actA e2.val)) ?_ ?_ ?_ ?_ ?_; rfl; rfl; rfl; exact hLv _) | (refine wpList_buildSlice_run 56 1 _ #[(0, .agg (actA e2.val))] _ rfl rfl (by simp only [List.map_toArray, List.map_cons, List.map_nil]; rfl) (bsAc_val e2.val _) ?_) | (at_builtin; refine wpList_append_rows valAc_len valAc_one rfl (.tmp 53) (.tmp 56) 56 41 j0 _ 264 rfl Tryz.underlying56 hji hy0 hy1 hy2 rfl (by decide) (by decide) w6.heap.size (.slice A2 j2 c2) j2 ((L.take j2).map (·.val)) rfl ((hownW v).alloc (.cells (actA e2.val) 41)) (some ⟨v.w.heap.size, 0, none⟩) 1 1 [e2.val] rfl (RowsAt.one v.w 41 e2.val _ rfl) rfl (by omega) (by have := v.q.size; simp; omega) ?_))
          intro A5 c5 w5 hc5 hm5 hown5 hg5
          have hq5 : Q w6 w5 := q_grown (Q.trans (Q.trans HQ3.out v.q) (q_new _ _ _)) (Nat.le_refl _) ((hownW v).alloc _) hg5
          obtain ⟨y5, rfl⟩ : ∃ y5 : Wd w6, w5 = y5.w := ⟨⟨w5, hq5⟩, rfl⟩
          have e5 : List.flatMap ActR.cells (List.take j2 (List.map (fun x => x.val) L)) ++ e2.val.cells = ((L.take (j2 + 1)).map (·.val)).flatMap ActR.cells := by
            rw [HLS.out, List.flatMap_append, List.map_take]
            simp
          rw [e5] at hown5
          clear hownW hg5 hq5 hLv e5
          go_wp2_with fail
          exact ⟨⟨j2 + 1, c5, A5, y5, rfl, by go_num, rfl, by omega, hc5, hm5, hown5⟩, by simp only [intOf]; omega⟩
        · have hjn : j2 = m := by omega
          have hall : L.take j2 = L := List.take_of_length_le (by omega)
          rw [hall, ← HB.out] at hown
          have hl : (listAc key k.l).length = j2 := by rw [HB.out, List.length_map, hlen, hjn]
          have hfin : ListAcAre (listAc key k.l) w (.returned (.slice A2 j2 c2)) z2.w := ⟨A2, c2, by rw [hl], by omega, hcm2, Owns.rows valAc_len hown hl.symm, Q.trans HQ.out (Below.trans HQ6.out (Below.mono z2.q (by have := HQ6.out.size; omega)))⟩
          have HF := Lib.hid hfin
          clear hfin hl hall hown
          go_wp2_with fail
          go_ret
          exact HF.out

set_option maxRecDepth 100000 in
set_option maxHeartbeats 2000000 in
theorem allAc_any (k : KR) (key : ByteArray) (w : World) (hT : Tab w) (hK : KIn w k) (hn : k.l.length < 20) :
    Calls Tryz.prog 29 #[.agg (knA k), .string key] w (ListAcAre (listAc key k.l) w) := by
  have b1 := Blk.new w 27 (knA k)
  have q1 := q_new w (knA k) 27
  have b2 := Blk.new' (g := w.heap.size + 1) (w.alloc (.cells (knA k) 27)) 9 #[.string key] (by simp)
  have q2 := q_new (w.alloc (.cells (knA k) 27)) #[.string key] 9
  have b1 := b1.q q2
  have hq := Q.trans q1 q2
  obtain ⟨w3, hw3⟩ : ∃ w3, w3 = (w.alloc (.cells (knA k) 27)).alloc (.cells #[.string key] 9) := ⟨_, rfl⟩
  rw [← hw3] at b1 b2 hq
  have hLk := Wd.load (P := Tryz.prog) (ty := 27) b1.lt (Blk.range b1) Tryz.underlying27 rfl (by kernel_rfl) ⟨w3, Q.refl w3⟩
  have hp := pickAc_any k (w.heap.size + 1) key w3 (hT.q hq) (hK.q hq) (b2.cell 0) b2.lt hn
  have HX := Lib.hid hw3
  have HQ := Lib.hid hq
  clear q1 q2 b1 b2 hq hw3
  go_enter Tryz.func29, Tryz.ntmps29
  go_upto_region 1 with (fail)
  refine (show Code.wp _ _ _ _ w3 → Code.wp _ _ _ _ _ from fun h => by rw [HX.out] at h; exact h) ?_
  go_wp2_with (first | (refine wpList_load_run 27 (.tmp 2) (.pointer (some ⟨w.heap.size, 0, none⟩)) (.agg (knA k)) ?_ ?_ ?_ ?_ ?_; rfl; rfl; rfl; exact hLk) | (go_at_call 93; refine hp.mono ?_; rintro e w' ⟨A, c, rfl, h1, h2, h3, hq4⟩))
  go_ret
  exact ⟨A, c, rfl, h1, h2, h3, Q.trans HQ.out hq4⟩
end Go.Proofs.YtpdalnojimgjbaaGreatDoor.Known

namespace Go.Proofs.YtpdalnojimgjbaaGreatDoor.Known
open Go.RowKit Grp Mem _root_.Go.Proofs.YtpdalnojimgjbaaGreatDoor.Code Sha Sign _root_.Go.Proofs.YtpdalnojimgjbaaGreatDoor.Item

instance : Inhabited ClaimV := ⟨claim0⟩
abbrev fclC : Found ClaimV → List Value := Found.cells ClaimV.cells
theorem fcl_len (x : Found ClaimV) : (fclC x).length = 11 := rfl
theorem fcl_one (x : Found ClaimV) : ∀ v ∈ fclC x, v.oneCell' = true := by
  intro v hv
  simp only [fclC, Found.cells, ClaimV.cells, List.mem_cons, List.not_mem_nil, or_false] at hv
  rcases hv with rfl | rfl | rfl | rfl | rfl | rfl | rfl | rfl | rfl | rfl | rfl <;> rfl

set_option maxRecDepth 100000 in
set_option maxHeartbeats 1000000 in
/-- pick's comparison, at ballots: it lays blocks of its own alone. -/
theorem cmpCl_any (x y : Found ClaimV) (W : World) : Calls Tryz.prog 173 #[.agg (fclC x).toArray, .agg (fclC y).toArray] W fun e w' => e = .returned (.int .i64 (cmpF x y)) ∧ ∃ q os', w' = Go.Sort.grow (W.drewN q) os' := by
  have hci := fun W' => Tryz.cmp_Compare_int x.rank y.rank W'
  have hcs := fun W' => compareS_any x.dig y.dig W'
  have HR : Hid (cmpF x y = orI (Lib.compareInt x.rank y.rank) (cmpS x.dig y.dig)) := Lib.hid rfl
  generalize cmpF x y = r at HR ⊢
  have b1 := Blk.new W 199 (fclC x).toArray
  have b2 := Blk.new' (g := W.heap.size + 1) (W.alloc (.cells (fclC x).toArray 199)) 199 (fclC y).toArray (by simp)
  have b1 := b1.q (q_new (W.alloc (.cells (fclC x).toArray 199)) (fclC y).toArray 199)
  obtain ⟨W1, hW1⟩ : ∃ W1, W1 = (W.alloc (.cells (fclC x).toArray 199)).alloc (.cells (fclC y).toArray 199) := ⟨_, rfl⟩
  rw [← hW1] at b1 b2
  have c0 : ∀ n, (W1.drewN n).cell? ⟨W.heap.size, 0, none⟩ = some (.int .i64 x.rank) := fun n => b1.cell 0
  have c1 : ∀ n, (W1.drewN n).cell? ⟨W.heap.size, 1, none⟩ = some (.string x.dig) := fun n => b1.cell 1
  have c2 : ∀ n, (W1.drewN n).cell? ⟨W.heap.size + 1, 0, none⟩ = some (.int .i64 y.rank) := fun n => b2.cell 0
  have c3 : ∀ n, (W1.drewN n).cell? ⟨W.heap.size + 1, 1, none⟩ = some (.string y.dig) := fun n => b2.cell 1
  have HX := Lib.hid hW1
  clear hW1 b1 b2
  generalize Lib.compareInt x.rank y.rank = ri at *
  generalize cmpS x.dig y.dig = rs at *
  go_enter Tryz.func173, Tryz.ntmps173
  go_upto_region 1 with (fail)
  refine (show Code.wp _ _ _ _ W1 → Code.wp _ _ _ _ _ from fun h => by rw [HX.out] at h; exact h) ?_
  refine wp_region_open (C := fun w' => ∃ n, w' = W1.drewN n) 10 (by kernel_rfl) (by kernel_rfl) ⟨1, rfl⟩ ?_
  simp only [List.take_succ_cons, List.take_zero]
  repeat (quiet_step (first | (go_at_call 168; exact Calls.quiet_of_same (hci _)) | (go_at_call 169; exact Calls.quiet_of_same (hcs _))))
  refine wpQuiet_nil ?_
  rintro w' ⟨n, rfl⟩
  have hb := Blk.new (W1.drewN n) 3 #[.int .i64 ri, .int .i64 rs]
  have hor := or_any (W1.drewN n).heap.size 0 2 ri rs _ (hb.cell 0) (hb.cell 1)
  have HE : Hid (∃ q os', (W1.drewN n).alloc (.cells #[.int .i64 ri, .int .i64 rs] 3) = Go.Sort.grow (W.drewN q) os') := Lib.hid ⟨n, _, by rw [HX.out]; exact grow3 W n _ _ _⟩
  clear hb
  refine any_one 10 rfl (by kernel_rfl) rfl (fun K' hK' => ?_)
  go_simp
  refine hK' _ _ ?_
  clear hK' K'
  try simp only [Act.put, List.setIfInBounds_toArray, List.set_cons_succ, List.set_cons_zero]
  refine any_one 11 rfl (by kernel_rfl) rfl (fun K' hK' => ?_)
  go_simp
  refine hor.mono ?_
  rintro e w2 ⟨rfl, rfl⟩
  refine hK' _ _ ?_
  clear hK' K' hor
  try simp only [Act.put, List.setIfInBounds_toArray, List.set_cons_succ, List.set_cons_zero]
  rw [← HR.out]
  refine any_pure 12 (v := .int .i64 r) rfl (by kernel_rfl) (by kernel_rfl) (by kernel_rfl) (by intro c d v a w h; cases d <;> exact h) rfl (fun w => by rfl) ?_
  try simp only [Act.put, List.setIfInBounds_toArray, List.set_cons_succ, List.set_cons_zero]
  refine any_done (by kernel_rfl) ?_ _
  go_wp2_with fail
  go_ret
  exact ⟨rfl, HE.out⟩


set_option maxRecDepth 100000 in
set_option maxHeartbeats 1000000 in
theorem stableCl_any (g cap : Nat) (d : Array (Found ClaimV)) (w : World) (hH : Go.Sort.HoldsK fclC 11 w g 0 d) (hg : g < w.heap.size) (hd : d.size < 20) :
    Calls Tryz.prog 172 #[.slice (some ⟨g, 0, none⟩) d.size cap, .func (.func 173) #[] #[]] w fun e w' => e = .returned (.tuple #[]) ∧ ∃ n os, w' = sortWorldK fclC 11 w g 0 n (sortA d) os := by
  have hins : Calls Tryz.prog 290 #[.slice (some ⟨g, 0, none⟩) d.size cap, .int .i64 (0 : Nat), .int .i64 (d.size : Nat), .func (.func 173) #[] #[]] w fun e w' => e = .returned (.tuple #[]) ∧ ∃ n os, w' = sortWorldK fclC 11 w g 0 n (sortA d) os :=
    AnyQ.insertionSortCmpFunc Tryz.insClaim 11 Tryz.isAgg199 Tryz.sizeOf199 fclC fcl_len fcl_one cmpF 173 #[] g 0 cap 0 d.size d w (enters_of Tryz.func173 (by kernel_rfl) rfl) (fun _ _ _ _ x y => cmpCl_any x y _) hH hg (Nat.zero_le _) (Nat.le_refl _) (by omega)
  have hst : Calls Tryz.prog 234 #[.slice (some ⟨g, 0, none⟩) d.size cap, .int .i64 (d.size : Nat), .func (.func 173) #[] #[]] w fun e w' => e = .returned (.tuple #[]) ∧ ∃ n os, w' = sortWorldK fclC 11 w g 0 n (sortA d) os := by
    clear hH
    generalize sortA d = r at hins ⊢
    go_enter Tryz.func234, Tryz.ntmps234
    go_wp2_with fail
    refine wp_loop_rounds 1 ?_
    rw [rounds_succ]
    go_wp2_with (go_at_call 290; refine hins.mono ?_; rintro e w' ⟨rfl, n, os, rfl⟩)
    refine wp_loop_rounds 1 ?_
    rw [rounds_succ]
    go_wp2_with fail
    go_end0
    exact ⟨rfl, n, os, rfl⟩
  clear hins hH
  generalize sortA d = r at hst ⊢
  go_enter Tryz.func172, Tryz.ntmps172
  go_wp2_with (go_at_call 234; refine hst.mono ?_; rintro e w' ⟨rfl, n, os, rfl⟩)
  go_end0
  exact ⟨rfl, n, os, rfl⟩

set_option maxRecDepth 100000 in
set_option maxHeartbeats 1000000 in
theorem stableCl_nil (w : World) :
    Calls Tryz.prog 172 #[.slice none 0 0, .func (.func 173) #[] #[]] w fun e w' => e = .returned (.tuple #[]) ∧ w' = w := by
  have hins : Calls Tryz.prog 290 #[.slice none 0 0, .int .i64 0, .int .i64 0, .func (.func 173) #[] #[]] w fun e w' => e = .returned (.tuple #[]) ∧ w' = w := by
    go_enter Tryz.func290, Tryz.ntmps290
    go_wp2_with fail
    refine wp_loop_rounds 1 ?_
    rw [rounds_succ]
    go_wp2_with fail
    go_end0
    exact ⟨rfl, rfl⟩
  have hst : Calls Tryz.prog 234 #[.slice none 0 0, .int .i64 0, .func (.func 173) #[] #[]] w fun e w' => e = .returned (.tuple #[]) ∧ w' = w := by
    go_enter Tryz.func234, Tryz.ntmps234
    go_wp2_with fail
    refine wp_loop_rounds 1 ?_
    rw [rounds_succ]
    go_wp2_with (go_at_call 290; refine hins.mono ?_; rintro e w' ⟨rfl, hw⟩; rw [hw])
    refine wp_loop_rounds 1 ?_
    rw [rounds_succ]
    go_wp2_with fail
    go_end0
    exact ⟨rfl, rfl⟩
  go_enter Tryz.func172, Tryz.ntmps172
  go_wp2_with (go_at_call 234; refine hst.mono ?_; rintro e w' ⟨rfl, hw⟩; rw [hw])
  go_end0
  exact ⟨rfl, rfl⟩

/-- Is an item wanted? -/
def wantCl (key : ByteArray) (x : ItemR) : Bool := decide (x.kind = 1) && decide (x.claim.actor = key)
structure WantFCl (w : World) (x : ItemR) (w' : World) : Prop where
  q : Q w w'
  it : Blk w' w.heap.size 49 x.cells.toArray
  r : ∃ cs : List Value, cs.length = 9 ∧ Blk w' (w.heap.size + 1) 43 cs.toArray
structure WantWCl (w0 : World) (x : ItemR) where
  w : World
  f : WantFCl w0 x w
set_option maxRecDepth 100000 in
set_option maxHeartbeats 2000000 in
theorem wantCl_any (p1 : Nat) (key : ByteArray) (x : ItemR) (w : World) (h1 : w.cell? ⟨p1, 0, none⟩ = some (.string key)) (hp1 : p1 < w.heap.size) :
    Calls Tryz.prog 97 #[.agg (itA x), .pointer (some ⟨p1, 0, none⟩)] w fun e w' => e = .returned (.tuple #[.agg (claimA x.claim), .int .i64 0, .bool (wantCl key x)]) ∧ Q w w' := by
  have hbi := Blk.new w 49 (itA x)
  have hq1 := q_new w (itA x) 49
  have hbr := Blk.new' (g := w.heap.size + 1) (w.alloc (.cells (itA x) 49)) 43 (claimA claim0) (by simp)
  have hq2 := q_new (w.alloc (.cells (itA x) 49)) (claimA claim0) 43
  have hbi := hbi.q hq2
  have hq := Q.trans hq1 hq2
  clear hq1 hq2
  obtain ⟨w2, hw2⟩ : ∃ w2, w2 = (w.alloc (.cells (itA x) 49)).alloc (.cells (claimA claim0) 43) := ⟨_, rfl⟩
  rw [← hw2] at hbi hbr hq
  have hw2s : w2.heap.size = w.heap.size + 1 + 1 := by rw [hw2]; simp
  have hLd : ∀ y : Wd w2, (Instr.loadAt 43 (.pointer (some ⟨w.heap.size, 21, none⟩))).run Tryz.prog y.w = .ok (.agg (claimA x.claim)) y.w := item_claim hbi.lt (Blk.range hbi)
  have HX := Lib.hid hw2
  clear hw2
  go_enter Tryz.func97, Tryz.ntmps97
  go_upto_region 1 with (fail)
  refine (show Code.wp _ _ _ _ w2 → Code.wp _ _ _ _ _ from fun h => by rw [HX.out] at h; exact h) ?_
  have hF : WantFCl w x w2 := ⟨hq, hbi, claim0.cells, rfl, hbr⟩
  clear hbr hq HX hw2s hLd
  have hFd : ∃ y : WantWCl w x, ({ w2 with drawn := w2.drawn + 1 } : World) = y.w := ⟨⟨_, ⟨hF.q.drew, hF.it, hF.r⟩⟩, rfl⟩
  have cK : ∀ y : WantWCl w x, y.w.cell? ⟨w.heap.size, 0, none⟩ = some (.int .i64 x.kind) := fun y => y.f.it.cell 0
  have cA : ∀ y : WantWCl w x, y.w.cell? ⟨w.heap.size, 21, none⟩ = some (.string x.claim.actor) := fun y => y.f.it.cell 21
  have c1 : ∀ y : WantWCl w x, y.w.cell? ⟨p1, 0, none⟩ = some (.string key) := fun y => (y.f.q.cell (p := ⟨p1, 0, none⟩) hp1).trans h1
  have hLb : ∀ z, (∃ y : WantWCl w x, z = y.w) → (Instr.loadAt 43 (.pointer (some ⟨w.heap.size, 21, none⟩))).run Tryz.prog z = .ok (.agg (claimA x.claim)) z := by
    rintro z ⟨y, rfl⟩
    exact item_claim (w1 := y.w) y.f.it.lt (Blk.range y.f.it) ⟨y.w, Q.refl _⟩
  have HR : Hid (wantCl key x = (decide (x.kind = 1) && decide (x.claim.actor = key))) := Lib.hid rfl
  haveI hNE : Nonempty (WantWCl w x) := ⟨⟨w2, hF⟩⟩
  clear hF h1 hbi
  by_cases hk : x.kind = 1
  · rw [decide_eq_true hk, Bool.true_and] at HR
    refine wp_region_reads (S := fun w' => ∃ y : WantWCl w x, w' = y.w) 12 (by kernel_rfl) (by kernel_rfl) (by intro c a d v w h; cases d <;> exact h) hFd ?_
    simp only [List.take_succ_cons, List.take_zero]
    go_big_quiet_step (fail)
    refine wpQuiet_load_S 43 (.tmp 6) (.pointer (some ⟨w.heap.size, 21, none⟩)) (.agg (claimA x.claim)) rfl rfl rfl hLb ?_
    dsimp only [Act.put]
    simp only [List.setIfInBounds_toArray, List.set_cons_succ, List.set_cons_zero]
    repeat (go_big_quiet_step (fail))
    refine wpQuiet_nil ?_
    rintro w' ⟨y, rfl⟩
    obtain ⟨cs, hcs, hbr⟩ := y.f.r
    refine held_one 12 rfl (by kernel_rfl) rfl (fun K' hK' => ?_)
    refine wp_store_mid 43 (.tmp 3) (.tmp 7) rfl (w.heap.size + 1) 0 (claimA x.claim) rfl rfl (show y.w.there (w.heap.size + 1) 0 9 by simpa using hbr.there (n := 9) (Nat.le_of_eq hcs.symm)) (by kernel_rfl) (claim_all _) ?_
    have hsc : Blk (y.w.setCells (w.heap.size + 1) 0 x.claim.cells) (w.heap.size + 1) 43 x.claim.cells.toArray := by
      have := Blk.setCells x.claim.cells 0 _ y.w hbr (Nat.le_of_eq (by rw [hcs]; rfl))
      rwa [splice_all _ _ (by rw [hcs]; rfl)] at this
    have hfar := fun b (hne : b ≠ w.heap.size + 1) => setCells_far (g := w.heap.size + 1) hne x.claim.cells 0 y.w
    have hqs : Q w (y.w.setCells (w.heap.size + 1) 0 x.claim.cells) := below_setCells (Nat.le_succ _) x.claim.cells 0 w y.w y.f.q
    have hFN : WantFCl w x (y.w.setCells (w.heap.size + 1) 0 x.claim.cells) := ⟨hqs, (hfar _ (by omega)).trans y.f.it, x.claim.cells, rfl, hsc⟩
    refine hK' _ _ ⟨⟨_, hFN⟩, rfl⟩ ?_
    clear hK' K' hbr hfar
    have HZ := Lib.hid hsc
    have HQ := Lib.hid hqs
    clear hsc hqs
    simp only [Act.put, List.setIfInBounds_toArray, List.set_cons_succ, List.set_cons_zero]
    refine held_pure 13 (v := .int .i64 0) rfl (by kernel_rfl) (by kernel_rfl) (by kernel_rfl) (by intro c a d v w h; cases d <;> exact h) rfl ⟨⟨_, hFN⟩, rfl⟩ (fun w => by rfl) ?_
    simp only [Act.put, List.setIfInBounds_toArray, List.set_cons_succ, List.set_cons_zero]
    refine held_pure 14 (v := .bool (x.claim.actor.toList == key.toList)) rfl (by kernel_rfl) (by kernel_rfl) (by kernel_rfl) (by intro c a d v w h; cases d <;> exact h) rfl ⟨⟨_, hFN⟩, rfl⟩ (fun w => by rfl) ?_
    simp only [Act.put, List.setIfInBounds_toArray, List.set_cons_succ, List.set_cons_zero]
    refine wpAnyH_done (by kernel_rfl) ?_ _
    go_wp2_with fail
    exact bodyPost_ret (results_row_tmp2 rfl _ _ (w.heap.size + 1) 43 (claimA x.claim) (0, 0) _ _ _ rfl rfl rfl HZ.out Tryz.underlying43 rfl (by kernel_rfl)) rfl ⟨by rw [HR.out, ← beq_str]; rfl, HQ.out⟩
  · rw [decide_eq_false hk, Bool.false_and] at HR
    have hkb : (x.kind == 1) = false := by simpa using hk
    refine wp_region_reads (S := fun w' => ∃ y : WantWCl w x, w' = y.w) 12 (by kernel_rfl) (by kernel_rfl) (by intro c a d v w h; cases d <;> exact h) hFd ?_
    simp only [List.take_succ_cons, List.take_zero]
    go_big_quiet_step (fail)
    refine wpQuiet_load_S 43 (.tmp 6) (.pointer (some ⟨w.heap.size, 21, none⟩)) (.agg (claimA x.claim)) rfl rfl rfl hLb ?_
    dsimp only [Act.put]
    simp only [List.setIfInBounds_toArray, List.set_cons_succ, List.set_cons_zero]
    repeat (go_big_quiet_step (fail))
    refine wpQuiet_nil ?_
    rintro w' ⟨y, rfl⟩
    obtain ⟨cs, hcs, hbr⟩ := y.f.r
    refine held_one 12 rfl (by kernel_rfl) rfl (fun K' hK' => ?_)
    refine wp_store_mid 43 (.tmp 3) (.tmp 7) rfl (w.heap.size + 1) 0 (claimA x.claim) rfl rfl (show y.w.there (w.heap.size + 1) 0 9 by simpa using hbr.there (n := 9) (Nat.le_of_eq hcs.symm)) (by kernel_rfl) (claim_all _) ?_
    have hsc : Blk (y.w.setCells (w.heap.size + 1) 0 x.claim.cells) (w.heap.size + 1) 43 x.claim.cells.toArray := by
      have := Blk.setCells x.claim.cells 0 _ y.w hbr (Nat.le_of_eq (by rw [hcs]; rfl))
      rwa [splice_all _ _ (by rw [hcs]; rfl)] at this
    have hfar := fun b (hne : b ≠ w.heap.size + 1) => setCells_far (g := w.heap.size + 1) hne x.claim.cells 0 y.w
    have hqs : Q w (y.w.setCells (w.heap.size + 1) 0 x.claim.cells) := below_setCells (Nat.le_succ _) x.claim.cells 0 w y.w y.f.q
    have hFN : WantFCl w x (y.w.setCells (w.heap.size + 1) 0 x.claim.cells) := ⟨hqs, (hfar _ (by omega)).trans y.f.it, x.claim.cells, rfl, hsc⟩
    refine hK' _ _ ⟨⟨_, hFN⟩, rfl⟩ ?_
    clear hK' K' hbr hfar
    have HZ := Lib.hid hsc
    have HQ := Lib.hid hqs
    clear hsc hqs
    simp only [Act.put, List.setIfInBounds_toArray, List.set_cons_succ, List.set_cons_zero]
    refine held_pure 13 (v := .int .i64 0) rfl (by kernel_rfl) (by kernel_rfl) (by kernel_rfl) (by intro c a d v w h; cases d <;> exact h) rfl ⟨⟨_, hFN⟩, rfl⟩ (fun w => by rfl) ?_
    simp only [Act.put, List.setIfInBounds_toArray, List.set_cons_succ, List.set_cons_zero]
    refine held_pure 14 (v := .bool false) rfl (by kernel_rfl) (by kernel_rfl) (by kernel_rfl) (by intro c a d v w h; cases d <;> exact h) rfl ⟨⟨_, hFN⟩, rfl⟩ (fun w => by rfl) ?_
    simp only [Act.put, List.setIfInBounds_toArray, List.set_cons_succ, List.set_cons_zero]
    refine wpAnyH_done (by kernel_rfl) ?_ _
    go_wp2_with fail
    exact bodyPost_ret (results_row_tmp2 rfl _ _ (w.heap.size + 1) 43 (claimA x.claim) (0, 0) _ _ _ rfl rfl rfl HZ.out Tryz.underlying43 rfl (by kernel_rfl)) rfl ⟨by rw [HR.out]; rfl, HQ.out⟩

def foundCl (x : ItemR) : Found ClaimV := ⟨0, digOf x, x.claim⟩
def takeCl (key : ByteArray) (l : List ItemR) : List (Found ClaimV) := (l.filter fun x => wantCl key x && itemRight x).map foundCl
theorem takeCl_step (key : ByteArray) (l : List ItemR) (j : Nat) (h : j < l.length) : takeCl key (l.take (j + 1)) = takeCl key (l.take j) ++ if wantCl key l[j] && itemRight l[j] then [foundCl l[j]] else [] := by
  unfold takeCl
  rw [List.take_succ_eq_append_getElem h, List.filter_append, List.map_append]
  congr 1
  cases hw : wantCl key l[j] && itemRight l[j] <;> simp [List.filter, hw]
theorem takeCl_le (key : ByteArray) (l : List ItemR) (j : Nat) : (takeCl key (l.take j)).length ≤ j := by
  unfold takeCl
  rw [List.length_map]
  refine Nat.le_trans (List.length_filter_le _ _) ?_
  rw [List.length_take]
  omega
def sortCl (l : List (Found ClaimV)) : List (Found ClaimV) := (sortA l.toArray).toList
def listCl (key : ByteArray) (l : List ItemR) : List ClaimV := (sortCl (takeCl key l)).map (·.val)
theorem sortCl_length (l : List (Found ClaimV)) : (sortCl l).length = l.length := by
  unfold sortCl sortA Go.Sort.insertionSort
  rw [Array.length_toList, size_insO _ _ _ _ _ _ rfl, List.size_toArray]

theorem sortCl_nil : sortCl [] = [] := List.length_eq_zero_iff.1 (sortCl_length [])
/-- The sort, of an own row. -/
theorem sortedCl_any (A : Option Addr) (c m base : Nat) (l : List (Found ClaimV)) (w : World) (hm : m = l.length) (h20 : m < 20) (h : Owns w base 199 11 (.slice A m c) m (l.flatMap fclC)) (hB : base ≤ w.heap.size) :
    Calls Tryz.prog 172 #[.slice A m c, .func (.func 173) #[] #[]] w fun e w' => e = .returned (.tuple #[]) ∧ (RowsAt w' A 11 fclC (sortCl l) ∧ Below base w w') := by
  rcases h.2 with ⟨e1, h0⟩ | ⟨g, cap, cur, fz, hv, hb, hg, _⟩
  · injection e1 with hA _ hc
    subst hA hc
    have hl : l = [] := List.length_eq_zero_iff.1 (by omega)
    subst hl
    subst hm
    refine (stableCl_nil w).mono ?_
    rintro e w' ⟨rfl, rfl⟩
    exact ⟨rfl, by rw [sortCl_nil]; exact RowsAt.nil _ _ _ _, Below.refl _ _⟩
  · injection hv with hA _ hc
    subst hA
    rcases Nat.eq_zero_or_pos m with h0 | h0
    · have hl : l = [] := List.length_eq_zero_iff.1 (by omega)
      subst hl
      have hH : Go.Sort.HoldsK fclC 11 w g 0 (#[] : Array (Found ClaimV)) := fun t ht => by rw [Go.Sort.size_flatK] at ht; simp at ht
      have := stableCl_any g c #[] w hH (Array.getElem?_eq_some_iff.1 hg).1 (by simp)
      subst hm
      refine this.mono ?_
      rintro e w' ⟨rfl, n, os, rfl⟩
      exact ⟨rfl, by rw [sortCl_nil]; exact RowsAt.nil _ _ _ _, below_sort (Below.refl _ _) hb hB⟩
    · obtain ⟨hH, hb', hg'⟩ := holds_of fcl_len h hm h0
      subst hm
      have hs : (l.toArray).size = l.length := by simp
      have hsa : (sortA l.toArray).size = l.toArray.size := by
        unfold sortA Go.Sort.insertionSort
        rw [size_insO _ _ _ _ _ _ rfl]
      have := stableCl_any g c l.toArray w hH hg' (by rw [hs]; exact h20)
      rw [hs] at this
      refine this.mono ?_
      rintro e w' ⟨rfl, n, os, rfl⟩
      refine ⟨rfl, rows_of fcl_len (holdsK_sortWorldK_c fclC 11 w g 0 l.toArray _ n os hH hg' hsa) ?_, below_sort (Below.refl _ _) hb hB⟩
      exact Nat.lt_of_lt_of_le hg' (size_sortWorldK_c fclC 11 w g 0 n _ os)

theorem foundCl_info : (Tryz.prog.info? 199).map (fun i => (i.zero, i.size, i.bytes)) = some (some (.agg (fclC default).toArray), 11, 112) := by kernel_rfl
theorem valCl_info : (Tryz.prog.info? 43).map (fun i => (i.zero, i.size, i.bytes)) = some (some (.agg (claimA claim0)), 9, 88) := by kernel_rfl
theorem fcl_all (x : Found ClaimV) : (fclC x).toArray.all (·.oneCell') = true := by
  rw [Array.all_eq_true_iff_forall_mem]
  intro v hv
  exact fcl_one x v (by simpa using hv)
theorem buildCl_found (n : Int) (d : ByteArray) (b : ClaimV) (w : World) : (Instr.build 199 #[(0, .int .i64 n), (1, .string d), (2, .agg (claimA b))]).run Tryz.prog w = .ok (.agg (fclC ⟨n, d, b⟩).toArray) w := by kernel_rfl
theorem bsCl_found (x : Found ClaimV) (w : World) : (Instr.buildSlice 196 1 #[(0, .agg (fclC x).toArray)]).run Tryz.prog w = .ok (.slice (some ⟨w.heap.size, 0, none⟩) 1 1) (w.alloc (.cells (fclC x).toArray 199)) := by kernel_rfl
theorem bsCl_val (x : ClaimV) (w : World) : (Instr.buildSlice 58 1 #[(0, .agg (claimA x))]).run Tryz.prog w = .ok (.slice (some ⟨w.heap.size, 0, none⟩) 1 1) (w.alloc (.cells (claimA x) 43)) := by kernel_rfl
theorem valCl_len (x : ClaimV) : x.cells.length = 9 := rfl
theorem valCl_one (x : ClaimV) : ∀ v ∈ x.cells, v.oneCell' = true := by
  have := claim_all x
  rw [Array.all_eq_true_iff_forall_mem] at this
  intro v hv
  exact this v (by simpa using hv)

/-- What hands back a list of ballots. -/
def ListClAre (l : List ClaimV) (w : World) (e : Ending) (w' : World) : Prop := ∃ (A : Option Addr) (c : Nat), e = .returned (.slice A l.length c) ∧ l.length ≤ c ∧ c ≤ maxLen ∧ RowsAt w' A 9 ClaimV.cells l ∧ Q w w'
set_option maxRecDepth 100000 in
set_option maxHeartbeats 2000000 in
theorem pickCl_any (k : KR) (p1 : Nat) (key : ByteArray) (w : World) (hT : Tab w) (hK : KIn w k) (h1 : w.cell? ⟨p1, 0, none⟩ = some (.string key)) (hp1 : p1 < w.heap.size) (hn : k.l.length < 20) :
    Calls Tryz.prog 96 #[.agg (knA k), .func (.func 97) #[] #[.pointer (some ⟨p1, 0, none⟩)]] w (ListClAre (listCl key k.l) w) := by
  obtain ⟨w1, x, hx, hq1, hbk⟩ := boxedB w 27 k.cells
  have hx : w.alloc (.cells (knA k) 27) = x.w := hx
  have cI : ∀ y : Wd w1, y.w.cell? ⟨w.heap.size, 1, none⟩ = some (.slice k.iA k.l.length k.iC) := fun y => (y.blk hbk).cell 1
  have hKy : ∀ y : Wd w1, KIn y.w k := fun y => hK.q (Q.trans hq1 y.q)
  have hTy : ∀ y : Wd w1, Tab y.w := fun y => hT.q (Q.trans hq1 y.q)
  have hW1 : ∀ y : Wd w1, y.w.cell? ⟨p1, 0, none⟩ = some (.string key) := fun y => ((Q.trans hq1 y.q).cell (p := ⟨p1, 0, none⟩) hp1).trans h1
  have hP1 : ∀ y : Wd w1, p1 < y.w.heap.size := fun y => Nat.lt_of_lt_of_le hp1 (Q.trans hq1 y.q).size
  have HQ := Lib.hid hq1
  obtain ⟨i0, hi, hz0, hz1, hz2⟩ := info_parts foundCl_info
  obtain ⟨j0, hji, hy0, hy1, hy2⟩ := info_parts valCl_info
  have e99 : ∀ args w, (callFunc 97 args).run Tryz.prog w = .ok (.enter 97 args) w := enters_of Tryz.func97 (by kernel_rfl) rfl
  clear hbk hq1 h1 hp1
  go_enter Tryz.func96, Tryz.ntmps96
  go_wp2_with fail
  go_loopw [5, 17] (fun a i wr => ∃ (j c m : Nat) (A : Option Addr) (z : Wd w1), a = .slice A m c ∧ i = .int .i64 j ∧ wr = z.w ∧ j ≤ k.l.length ∧ m ≤ j ∧ m ≤ c ∧ c ≤ maxLen ∧ Hid (m = (takeCl key (k.l.take j)).length) ∧ Owns z.w w1.heap.size 199 11 (.slice A m c) m ((takeCl key (k.l.take j)).flatMap fclC)) (fun _ i _ => k.l.length - (intOf i).toNat)
  case atStart => exact ⟨0, 0, 0, none, x, rfl, rfl, rfl, Nat.zero_le _, Nat.zero_le _, Nat.zero_le _, Nat.zero_le _, Lib.hid rfl, Owns.nil_ _ _ _ _⟩
  case round =>
    obtain ⟨j, c, m, A, z, rfl, rfl, rfl, hj, hmj, hmc, hcm, hm, hown⟩ := hrel
    by_cases hlt : j < k.l.length
    · obtain ⟨b, o, eA, hb, hld⟩ := (hKy z).items.load j hlt
      have hio := fun y : Wd z.w => ((hKy z).items.each _ (List.getElem_mem hlt)).q y.q
      rw [eA]
      have hTz : ∀ y : Wd z.w, Tab y.w := fun y => hTy ⟨y.w, Q.trans z.q y.q⟩
      have hzs := z.q.size
      have HTS := Lib.hid (takeCl_step key k.l j hlt)
      generalize k.l[j] = it at *
      go_wp2_with (first | (refine wpList_load_run 49 (.tmp 19) (.pointer (some ⟨b, o + j * 49, none⟩)) (.agg (itA it)) ?_ ?_ ?_ ?_ ?_; rfl; rfl; rfl; exact hld ⟨_, Q.refl _⟩) | (refine wpList_store_blk (Blk.new z.w 49 item0.cells.toArray) rfl 49 (.tmp 7) (.tmp 20) it.cells rfl rfl rfl (by kernel_rfl) (it_all _) (Nat.le_refl 49) ?_))
      intro W hW hbel
      rw [splice_all _ _ (by rfl)] at hW
      have hqz : Q z.w W := hbel _ _ (Nat.le_refl _) (q_new _ _ _)
      have hq3 : Q w1 W := Q.trans z.q hqz
      have hLi : ∀ y : Wd W, (Instr.loadAt 49 (.pointer (some ⟨z.w.heap.size, 0, none⟩))).run Tryz.prog y.w = .ok (.agg (itA it)) y.w := Wd.load hW.lt (Blk.range hW) Tryz.underlying49 rfl (by kernel_rfl)
      have hcl : ∀ y : Wd W, Calls Tryz.prog 97 #[.agg (itA it), .pointer (some ⟨p1, 0, none⟩)] y.w fun e w' => e = .returned (.tuple #[.agg (claimA it.claim), .int .i64 0, .bool (wantCl key it)]) ∧ Q y.w w' := fun y => wantCl_any p1 key it y.w (hW1 ⟨y.w, Q.trans hq3 y.q⟩) (hP1 ⟨y.w, Q.trans hq3 y.q⟩)
      have hWs := hq3.size
      obtain ⟨v, hv⟩ := Wd.first W
      rw [hv]
      clear hbel hld hv eA hb cI hW1 hP1
      generalize hwt : wantCl key it = wt at *
      go_wp2_with (first | (refine wpList_load_run 49 (.tmp 7) (.pointer (some ⟨z.w.heap.size, 0, none⟩)) (.agg (itA it)) ?_ ?_ ?_ ?_ ?_; rfl; rfl; rfl; exact hLi _) | (go_at_fn 97; refine (hcl _).mono ?_; rintro e w' ⟨rfl, hq2⟩; obtain ⟨y, rfl⟩ := Wd.next _ hq2; clear hq2) | (refine wpList_store_blk (Blk.new y.w 43 claim0.cells.toArray) rfl 43 (.tmp 8) (.tmp 25) it.claim.cells rfl rfl rfl (by kernel_rfl) (claim_all _) (Nat.le_refl 9) ?_))
      intro W2 hB2 hbel2
      rw [splice_all _ _ (by rfl)] at hB2
      have hqy : Q W W2 := hbel2 _ _ y.q.size (Q.trans y.q (q_new _ _ _))
      have hq4 : Q w1 W2 := Q.trans hq3 hqy
      have hLi2 : ∀ y : Wd W2, (Instr.loadAt 49 (.pointer (some ⟨z.w.heap.size, 0, none⟩))).run Tryz.prog y.w = .ok (.agg (itA it)) y.w := fun y => hLi ⟨y.w, Q.trans hqy y.q⟩
      have hLb2 : ∀ u : Wd W2, (Instr.loadAt 43 (.pointer (some ⟨y.w.heap.size, 0, none⟩))).run Tryz.prog u.w = .ok (.agg (claimA it.claim)) u.w := Wd.load hB2.lt (Blk.range hB2) Tryz.underlying43 rfl (by kernel_rfl)
      have hIi : ∀ u : Wd W2, ItemIn u.w it := fun u => hio ⟨u.w, Q.trans (Q.trans hqz hqy) u.q⟩
      have hdg2 : ∀ u : Wd W2, Calls Tryz.prog 21 #[.agg (itA it)] u.w fun e w' => e = .returned (.string (digOf it)) ∧ Q u.w w' := fun u => digest_any it u.w (hTz ⟨u.w, Q.trans (Q.trans hqz hqy) u.q⟩) (hIi u)
      have hownW : ∀ u : Wd W2, Owns u.w w1.heap.size 199 11 (.slice A m c) m ((takeCl key (k.l.take j)).flatMap fclC) := fun u => hown.q (Q.trans (Q.trans hqz hqy) u.q)
      have hrg : ∀ (r : Bool), itemRight it = r → ∀ u : Wd W2, Calls Tryz.prog 52 #[.agg (itA it)] u.w fun e w' => e = .returned (.bool r) ∧ Q u.w w' := fun r hr u => right_at it r u.w (hIi u) hr
      have HQ4 := Lib.hid hq4
      have hWs2 := hq4.size
      obtain ⟨u, hu⟩ := Wd.first W2
      rw [hu]
      clear hbel2 hu hqy hq4 hq3 hqz hLi hcl hio hTz hown hTy hW hB2
      cases wt
      · have HTE := Lib.hid (show takeCl key (k.l.take (j + 1)) = takeCl key (k.l.take j) by rw [HTS.out]; simp)
        go_wp2_with fail
        exact ⟨⟨j + 1, c, m, A, ⟨u.w, Q.trans HQ4.out u.q⟩, rfl, by go_num, rfl, by omega, by omega, hmc, hcm, Lib.hid (by rw [HTE.out]; exact hm.out), by rw [HTE.out]; exact hownW u⟩, by simp only [intOf]; omega⟩
      · cases hr : itemRight it
        · have HTE := Lib.hid (show takeCl key (k.l.take (j + 1)) = takeCl key (k.l.take j) by rw [HTS.out, hr]; simp)
          have hrg0 := hrg false hr
          clear hrg hr
          go_wp2_with (first | (refine wpList_load_run 49 (.tmp 7) (.pointer (some ⟨z.w.heap.size, 0, none⟩)) (.agg (itA it)) ?_ ?_ ?_ ?_ ?_; rfl; rfl; rfl; exact hLi2 _) | (go_at_call 52; refine (hrg0 _).mono ?_; rintro e w' ⟨rfl, hq2⟩; obtain ⟨t, rfl⟩ := Wd.next _ hq2; clear hq2))
          exact ⟨⟨j + 1, c, m, A, ⟨t.w, Q.trans HQ4.out t.q⟩, rfl, by go_num, rfl, by omega, by omega, hmc, hcm, Lib.hid (by rw [HTE.out]; exact hm.out), by rw [HTE.out]; exact hownW t⟩, by simp only [intOf]; omega⟩
        · have HTE := Lib.hid (show takeCl key (k.l.take (j + 1)) = takeCl key (k.l.take j) ++ [foundCl it] by rw [HTS.out, hr]; simp)
          have hrg0 := hrg true hr
          clear hrg hr
          go_wp2_with (first | (refine wpList_load_run 49 (.tmp 7) (.pointer (some ⟨z.w.heap.size, 0, none⟩)) (.agg (itA it)) ?_ ?_ ?_ ?_ ?_; rfl; rfl; rfl; exact hLi2 _) | (go_at_call 52; refine (hrg0 _).mono ?_; rintro e w' ⟨rfl, hq2⟩; obtain ⟨t, rfl⟩ := Wd.next _ hq2; clear hq2))
          refine wp_region_wd_parts t 2 6 (by kernel_rfl) (by kernel_rfl) (by intro c d v a w h; cases d <;> exact h) ?_
          simp only [List.take_succ_cons, List.take_zero, List.drop_succ_cons, List.drop_zero]
          refine wpPure_move (.tmp 5) (.slice A m c) rfl rfl rfl ?_
          dsimp only [Act.put]
          simp only [List.setIfInBounds_toArray, List.set_cons_succ, List.set_cons_zero]
          refine wpPure_move (.tmp 9) (.int .i64 0) rfl rfl rfl ?_
          dsimp only [Act.put]
          simp only [List.setIfInBounds_toArray, List.set_cons_succ, List.set_cons_zero]
          refine wpPure_nil ?_
          refine wpQuiet_load_run 49 (.tmp 7) (.pointer (some ⟨z.w.heap.size, 0, none⟩)) (.agg (itA it)) rfl rfl rfl hLi2 ?_
          dsimp only [Act.put]
          simp only [List.setIfInBounds_toArray, List.set_cons_succ, List.set_cons_zero]
          go_big_quiet_step (first | (go_at_call 21; exact Wd.call _ (hdg2 _)))
          refine wpQuiet_load_run 43 (.tmp 8) (.pointer (some ⟨y.w.heap.size, 0, none⟩)) (.agg (claimA it.claim)) rfl rfl rfl hLb2 ?_
          dsimp only [Act.put]
          simp only [List.setIfInBounds_toArray, List.set_cons_succ, List.set_cons_zero]
          refine wpQuiet_build_run 199 _ #[(0, .int .i64 0), (1, .string (digOf it)), (2, .agg (claimA it.claim))] _ rfl rfl (by simp only [List.map_toArray, List.map_cons, List.map_nil]; rfl) (buildCl_found (0) (digOf it) it.claim) ?_
          dsimp only [Act.put]
          simp only [List.setIfInBounds_toArray, List.set_cons_succ, List.set_cons_zero]
          refine wpQuiet_nil ?_
          rintro w6 ⟨t2, rfl⟩
          refine wpList_buildSlice_run 196 1 _ #[(0, .agg (fclC (foundCl it)).toArray)] _ rfl rfl (by simp only [List.map_toArray, List.map_cons, List.map_nil]; rfl) (bsCl_found (foundCl it) _) ?_
          dsimp only [Act.put]
          simp only [List.setIfInBounds_toArray, List.set_cons_succ, List.set_cons_zero]
          refine wpList_append_rows fcl_len fcl_one rfl (.tmp 33) (.tmp 39) 196 199 i0 _ 112 rfl Tryz.underlying196 hi hz0 hz1 hz2 rfl (by decide) (by decide) w1.heap.size (.slice A m c) m (takeCl key (k.l.take j)) rfl ((hownW t2).alloc (.cells (fclC (foundCl it)).toArray 199)) (some ⟨t2.w.heap.size, 0, none⟩) 1 1 [foundCl it] rfl (RowsAt.one t2.w 199 (foundCl it) _ rfl) rfl (by omega) (by have := t2.q.size; simp; omega) ?_
          intro A5 c5 w5 hc5 hm5 hown5 hg5
          have hq5 : Q w1 w5 := q_grown (Q.trans (Q.trans HQ4.out t2.q) (q_new _ _ _)) (Nat.le_refl _) ((hownW t2).alloc _) hg5
          obtain ⟨y5, rfl⟩ : ∃ y5 : Wd w1, w5 = y5.w := ⟨⟨w5, hq5⟩, rfl⟩
          rw [← HTE.out] at hown5
          have HM5 : Hid (m + 1 = (takeCl key (k.l.take (j + 1))).length) := Lib.hid (by rw [HTE.out, List.length_append, ← hm.out]; rfl)
          clear hownW hg5 hq5 hdg2 hLi2 hLb2 hIi hrg0
          go_wp2_with fail
          exact ⟨⟨j + 1, c5, m + 1, A5, y5, rfl, by go_num, rfl, by omega, by omega, hc5, hm5, HM5, hown5⟩, by simp only [intOf]; omega⟩
    · have hjn : j = k.l.length := by omega
      have hm := hm.out
      rw [hjn, List.take_length] at hown hm
      have hm20 : m < 20 := by omega
      have hso := sortedCl_any A c m w1.heap.size (takeCl key k.l) z.w hm hm20 hown z.q.size
      have hlen : (sortCl (takeCl key k.l)).length = m := by rw [sortCl_length]; exact hm.symm
      have HB := Lib.hid (show listCl key k.l = (sortCl (takeCl key k.l)).map (·.val) from rfl)
      have HZ := Lib.hid z.q
      generalize sortCl (takeCl key k.l) = L at hso hlen HB
      clear hown hm hjn cI hW1 hP1 hKy hTy
      go_wp2_with (first | (go_at_call 172; refine hso.mono ?_; rintro e w6 ⟨rfl, hR6, hb6⟩; have HQ6 := Lib.hid (Below.trans HZ.out hb6); clear hb6 hso; obtain ⟨y6, hy6⟩ := Wd.first w6; rw [hy6]; clear hy6) | (refine wpList_make_own _ rfl _ _ 58 rfl w6.heap.size 43 j0 _ 9 Tryz.underlying58 hji hy0 hy1 .i64 .i64 (m : Int) m rfl rfl rfl (by rw [hy2]; omega) (by simp only [maxLen]; omega) y6.q.size ?_))
      intro w7 hown0 hg0
      have hown : Owns w7 w6.heap.size 43 9 (.slice (some ⟨y6.w.heap.size, 0, none⟩) 0 m) 0 (([] : List ClaimV).flatMap ClaimV.cells) := Owns.of hown0
      have hq7 : Q w6 w7 := Below.grown y6.q hg0 y6.q.size (fun _ h => by cases h)
      obtain ⟨y7, rfl⟩ : ∃ y7 : Wd w6, w7 = y7.w := ⟨⟨w7, hq7⟩, rfl⟩
      have hRy : ∀ y : Wd w6, RowsAt y.w A 11 fclC L := fun y => hR6.q y.q
      clear hown0 hg0 hq7 hR6
      go_wp2_with fail
      go_loopw [11, 49] (fun a i wr => ∃ (j c : Nat) (A : Option Addr) (z : Wd w6), a = .slice A j c ∧ i = .int .i64 j ∧ wr = z.w ∧ j ≤ m ∧ j ≤ c ∧ c ≤ maxLen ∧ Owns z.w w6.heap.size 43 9 (.slice A j c) j (((L.take j).map (·.val)).flatMap ClaimV.cells)) (fun _ i _ => m - (intOf i).toNat)
      case atStart => exact ⟨0, m, _, y7, rfl, rfl, rfl, Nat.zero_le _, Nat.zero_le _, by simp only [maxLen]; omega, hown⟩
      case round =>
        clear hown
        obtain ⟨j2, c2, A2, z2, rfl, rfl, rfl, hj2, hjc2, hcm2, hown⟩ := hrel
        by_cases hlt2 : j2 < m
        · obtain ⟨b, o, eA, hb, hcs⟩ := hRy z2 (by omega)
          have hld : ∀ y : Wd z2.w, (Instr.loadAt 199 (.pointer (some ⟨b, o + j2 * 11, none⟩))).run Tryz.prog y.w = .ok (.agg (fclC (L[j2]'(by omega))).toArray) y.w := Wd.load hb (hcs j2 (by omega)) Tryz.underlying199 rfl (by kernel_rfl)
          have HLS := Lib.hid (show (L.take (j2 + 1)).map (·.val) = (L.take j2).map (·.val) ++ [(L[j2]'(by omega)).val] by rw [List.take_succ_eq_append_getElem (by omega), List.map_append]; rfl)
          rw [eA]
          have hzs2 := z2.q.size
          clear hcs
          generalize L[j2]'(by omega) = e2 at *
          have hbf := Blk.new z2.w 199 (fclC default).toArray
          go_wp2_with (first | (refine wpList_load_run 199 (.tmp 51) (.pointer (some ⟨b, o + j2 * 11, none⟩)) (.agg (fclC e2).toArray) ?_ ?_ ?_ ?_ ?_; rfl; rfl; rfl; exact hld ⟨_, Q.trans (Q.refl _) (Q.refl _)⟩) | (refine wpList_store_blk hbf rfl 199 (.tmp 13) (.tmp 52) (fclC e2) rfl rfl rfl (by kernel_rfl) (fcl_all _) (Nat.le_refl 11) ?_))
          intro W hW hbel
          rw [splice_all _ _ (by rfl)] at hW
          have hqz : Q z2.w W := hbel _ _ (Nat.le_refl _) (q_new _ _ _)
          have hq3 : Q w6 W := Q.trans z2.q hqz
          have hrv : W.rangeAt z2.w.heap.size 2 e2.val.cells := by
            have := range_sub (Blk.range hW) 2 9
            rw [Nat.zero_add] at this
            exact this
          have hLv : ∀ y : Wd W, (Instr.loadAt 43 (.pointer (some ⟨z2.w.heap.size, 2, none⟩))).run Tryz.prog y.w = .ok (.agg (claimA e2.val)) y.w := Wd.load hW.lt hrv Tryz.underlying43 rfl (by kernel_rfl)
          have hownW : ∀ y : Wd W, Owns y.w w6.heap.size 43 9 (.slice A2 j2 c2) j2 (((L.take j2).map (·.val)).flatMap ClaimV.cells) := fun y => hown.q (Q.trans hqz y.q)
          have HQ3 := Lib.hid hq3
          have hWs := hq3.size
          obtain ⟨v, hv⟩ := Wd.first W
          rw [hv]
          clear hW hbel hld hv hqz hq3 hown hrv hbf
          go_wp2_with (first | (refine wpList_load_run 43 (.tmp 54) (.pointer (some ⟨z2.w.heap.size, 2, none⟩)) (.agg (claimA e2.val)) ?_ ?_ ?_ ?_ ?_; rfl; rfl; rfl; exact hLv _) | (refine wpList_buildSlice_run 58 1 _ #[(0, .agg (claimA e2.val))] _ rfl rfl (by simp only [List.map_toArray, List.map_cons, List.map_nil]; rfl) (bsCl_val e2.val _) ?_) | (at_builtin; refine wpList_append_rows valCl_len valCl_one rfl (.tmp 53) (.tmp 56) 58 43 j0 _ 88 rfl Tryz.underlying58 hji hy0 hy1 hy2 rfl (by decide) (by decide) w6.heap.size (.slice A2 j2 c2) j2 ((L.take j2).map (·.val)) rfl ((hownW v).alloc (.cells (claimA e2.val) 43)) (some ⟨v.w.heap.size, 0, none⟩) 1 1 [e2.val] rfl (RowsAt.one v.w 43 e2.val _ rfl) rfl (by omega) (by have := v.q.size; simp; omega) ?_))
          intro A5 c5 w5 hc5 hm5 hown5 hg5
          have hq5 : Q w6 w5 := q_grown (Q.trans (Q.trans HQ3.out v.q) (q_new _ _ _)) (Nat.le_refl _) ((hownW v).alloc _) hg5
          obtain ⟨y5, rfl⟩ : ∃ y5 : Wd w6, w5 = y5.w := ⟨⟨w5, hq5⟩, rfl⟩
          have e5 : List.flatMap ClaimV.cells (List.take j2 (List.map (fun x => x.val) L)) ++ e2.val.cells = ((L.take (j2 + 1)).map (·.val)).flatMap ClaimV.cells := by
            rw [HLS.out, List.flatMap_append, List.map_take]
            simp
          rw [e5] at hown5
          clear hownW hg5 hq5 hLv e5
          go_wp2_with fail
          exact ⟨⟨j2 + 1, c5, A5, y5, rfl, by go_num, rfl, by omega, hc5, hm5, hown5⟩, by simp only [intOf]; omega⟩
        · have hjn : j2 = m := by omega
          have hall : L.take j2 = L := List.take_of_length_le (by omega)
          rw [hall, ← HB.out] at hown
          have hl : (listCl key k.l).length = j2 := by rw [HB.out, List.length_map, hlen, hjn]
          have hfin : ListClAre (listCl key k.l) w (.returned (.slice A2 j2 c2)) z2.w := ⟨A2, c2, by rw [hl], by omega, hcm2, Owns.rows valCl_len hown hl.symm, Q.trans HQ.out (Below.trans HQ6.out (Below.mono z2.q (by have := HQ6.out.size; omega)))⟩
          have HF := Lib.hid hfin
          clear hfin hl hall hown
          go_wp2_with fail
          go_ret
          exact HF.out

set_option maxRecDepth 100000 in
set_option maxHeartbeats 2000000 in
theorem allCl_any (k : KR) (key : ByteArray) (w : World) (hT : Tab w) (hK : KIn w k) (hn : k.l.length < 20) :
    Calls Tryz.prog 31 #[.agg (knA k), .string key] w (ListClAre (listCl key k.l) w) := by
  have b1 := Blk.new w 27 (knA k)
  have q1 := q_new w (knA k) 27
  have b2 := Blk.new' (g := w.heap.size + 1) (w.alloc (.cells (knA k) 27)) 9 #[.string key] (by simp)
  have q2 := q_new (w.alloc (.cells (knA k) 27)) #[.string key] 9
  have b1 := b1.q q2
  have hq := Q.trans q1 q2
  obtain ⟨w3, hw3⟩ : ∃ w3, w3 = (w.alloc (.cells (knA k) 27)).alloc (.cells #[.string key] 9) := ⟨_, rfl⟩
  rw [← hw3] at b1 b2 hq
  have hLk := Wd.load (P := Tryz.prog) (ty := 27) b1.lt (Blk.range b1) Tryz.underlying27 rfl (by kernel_rfl) ⟨w3, Q.refl w3⟩
  have hp := pickCl_any k (w.heap.size + 1) key w3 (hT.q hq) (hK.q hq) (b2.cell 0) b2.lt hn
  have HX := Lib.hid hw3
  have HQ := Lib.hid hq
  clear q1 q2 b1 b2 hq hw3
  go_enter Tryz.func31, Tryz.ntmps31
  go_upto_region 1 with (fail)
  refine (show Code.wp _ _ _ _ w3 → Code.wp _ _ _ _ _ from fun h => by rw [HX.out] at h; exact h) ?_
  go_wp2_with (first | (refine wpList_load_run 27 (.tmp 2) (.pointer (some ⟨w.heap.size, 0, none⟩)) (.agg (knA k)) ?_ ?_ ?_ ?_ ?_; rfl; rfl; rfl; exact hLk) | (go_at_call 96; refine hp.mono ?_; rintro e w' ⟨A, c, rfl, h1, h2, h3, hq4⟩))
  go_ret
  exact ⟨A, c, rfl, h1, h2, h3, Q.trans HQ.out hq4⟩
end Go.Proofs.YtpdalnojimgjbaaGreatDoor.Known

namespace Go.Proofs.YtpdalnojimgjbaaGreatDoor.Known
open Go.RowKit Grp Mem _root_.Go.Proofs.YtpdalnojimgjbaaGreatDoor.Code Sha Sign _root_.Go.Proofs.YtpdalnojimgjbaaGreatDoor.Item

instance : Inhabited DecR := ⟨dec0⟩
abbrev fdeC : Found DecR → List Value := Found.cells DecR.cells
theorem fde_len (x : Found DecR) : (fdeC x).length = 14 := rfl
theorem fde_one (x : Found DecR) : ∀ v ∈ fdeC x, v.oneCell' = true := by
  intro v hv
  simp only [fdeC, Found.cells, DecR.cells, List.mem_cons, List.not_mem_nil, or_false] at hv
  rcases hv with rfl | rfl | rfl | rfl | rfl | rfl | rfl | rfl | rfl | rfl | rfl | rfl | rfl | rfl <;> rfl

set_option maxRecDepth 100000 in
set_option maxHeartbeats 1000000 in
/-- pick's comparison, at ballots: it lays blocks of its own alone. -/
theorem cmpDe_any (x y : Found DecR) (W : World) : Calls Tryz.prog 177 #[.agg (fdeC x).toArray, .agg (fdeC y).toArray] W fun e w' => e = .returned (.int .i64 (cmpF x y)) ∧ ∃ q os', w' = Go.Sort.grow (W.drewN q) os' := by
  have hci := fun W' => Tryz.cmp_Compare_int x.rank y.rank W'
  have hcs := fun W' => compareS_any x.dig y.dig W'
  have HR : Hid (cmpF x y = orI (Lib.compareInt x.rank y.rank) (cmpS x.dig y.dig)) := Lib.hid rfl
  generalize cmpF x y = r at HR ⊢
  have b1 := Blk.new W 211 (fdeC x).toArray
  have b2 := Blk.new' (g := W.heap.size + 1) (W.alloc (.cells (fdeC x).toArray 211)) 211 (fdeC y).toArray (by simp)
  have b1 := b1.q (q_new (W.alloc (.cells (fdeC x).toArray 211)) (fdeC y).toArray 211)
  obtain ⟨W1, hW1⟩ : ∃ W1, W1 = (W.alloc (.cells (fdeC x).toArray 211)).alloc (.cells (fdeC y).toArray 211) := ⟨_, rfl⟩
  rw [← hW1] at b1 b2
  have c0 : ∀ n, (W1.drewN n).cell? ⟨W.heap.size, 0, none⟩ = some (.int .i64 x.rank) := fun n => b1.cell 0
  have c1 : ∀ n, (W1.drewN n).cell? ⟨W.heap.size, 1, none⟩ = some (.string x.dig) := fun n => b1.cell 1
  have c2 : ∀ n, (W1.drewN n).cell? ⟨W.heap.size + 1, 0, none⟩ = some (.int .i64 y.rank) := fun n => b2.cell 0
  have c3 : ∀ n, (W1.drewN n).cell? ⟨W.heap.size + 1, 1, none⟩ = some (.string y.dig) := fun n => b2.cell 1
  have HX := Lib.hid hW1
  clear hW1 b1 b2
  generalize Lib.compareInt x.rank y.rank = ri at *
  generalize cmpS x.dig y.dig = rs at *
  go_enter Tryz.func177, Tryz.ntmps177
  go_upto_region 1 with (fail)
  refine (show Code.wp _ _ _ _ W1 → Code.wp _ _ _ _ _ from fun h => by rw [HX.out] at h; exact h) ?_
  refine wp_region_open (C := fun w' => ∃ n, w' = W1.drewN n) 10 (by kernel_rfl) (by kernel_rfl) ⟨1, rfl⟩ ?_
  simp only [List.take_succ_cons, List.take_zero]
  repeat (quiet_step (first | (go_at_call 168; exact Calls.quiet_of_same (hci _)) | (go_at_call 169; exact Calls.quiet_of_same (hcs _))))
  refine wpQuiet_nil ?_
  rintro w' ⟨n, rfl⟩
  have hb := Blk.new (W1.drewN n) 3 #[.int .i64 ri, .int .i64 rs]
  have hor := or_any (W1.drewN n).heap.size 0 2 ri rs _ (hb.cell 0) (hb.cell 1)
  have HE : Hid (∃ q os', (W1.drewN n).alloc (.cells #[.int .i64 ri, .int .i64 rs] 3) = Go.Sort.grow (W.drewN q) os') := Lib.hid ⟨n, _, by rw [HX.out]; exact grow3 W n _ _ _⟩
  clear hb
  refine any_one 10 rfl (by kernel_rfl) rfl (fun K' hK' => ?_)
  go_simp
  refine hK' _ _ ?_
  clear hK' K'
  try simp only [Act.put, List.setIfInBounds_toArray, List.set_cons_succ, List.set_cons_zero]
  refine any_one 11 rfl (by kernel_rfl) rfl (fun K' hK' => ?_)
  go_simp
  refine hor.mono ?_
  rintro e w2 ⟨rfl, rfl⟩
  refine hK' _ _ ?_
  clear hK' K' hor
  try simp only [Act.put, List.setIfInBounds_toArray, List.set_cons_succ, List.set_cons_zero]
  rw [← HR.out]
  refine any_pure 12 (v := .int .i64 r) rfl (by kernel_rfl) (by kernel_rfl) (by kernel_rfl) (by intro c d v a w h; cases d <;> exact h) rfl (fun w => by rfl) ?_
  try simp only [Act.put, List.setIfInBounds_toArray, List.set_cons_succ, List.set_cons_zero]
  refine any_done (by kernel_rfl) ?_ _
  go_wp2_with fail
  go_ret
  exact ⟨rfl, HE.out⟩


set_option maxRecDepth 100000 in
set_option maxHeartbeats 1000000 in
theorem stableDe_any (g cap : Nat) (d : Array (Found DecR)) (w : World) (hH : Go.Sort.HoldsK fdeC 14 w g 0 d) (hg : g < w.heap.size) (hd : d.size < 20) :
    Calls Tryz.prog 176 #[.slice (some ⟨g, 0, none⟩) d.size cap, .func (.func 177) #[] #[]] w fun e w' => e = .returned (.tuple #[]) ∧ ∃ n os, w' = sortWorldK fdeC 14 w g 0 n (sortA d) os := by
  have hins : Calls Tryz.prog 294 #[.slice (some ⟨g, 0, none⟩) d.size cap, .int .i64 (0 : Nat), .int .i64 (d.size : Nat), .func (.func 177) #[] #[]] w fun e w' => e = .returned (.tuple #[]) ∧ ∃ n os, w' = sortWorldK fdeC 14 w g 0 n (sortA d) os :=
    AnyQ.insertionSortCmpFunc Tryz.insDecision 14 Tryz.isAgg211 Tryz.sizeOf211 fdeC fde_len fde_one cmpF 177 #[] g 0 cap 0 d.size d w (enters_of Tryz.func177 (by kernel_rfl) rfl) (fun _ _ _ _ x y => cmpDe_any x y _) hH hg (Nat.zero_le _) (Nat.le_refl _) (by omega)
  have hst : Calls Tryz.prog 236 #[.slice (some ⟨g, 0, none⟩) d.size cap, .int .i64 (d.size : Nat), .func (.func 177) #[] #[]] w fun e w' => e = .returned (.tuple #[]) ∧ ∃ n os, w' = sortWorldK fdeC 14 w g 0 n (sortA d) os := by
    clear hH
    generalize sortA d = r at hins ⊢
    go_enter Tryz.func236, Tryz.ntmps236
    go_wp2_with fail
    refine wp_loop_rounds 1 ?_
    rw [rounds_succ]
    go_wp2_with (go_at_call 294; refine hins.mono ?_; rintro e w' ⟨rfl, n, os, rfl⟩)
    refine wp_loop_rounds 1 ?_
    rw [rounds_succ]
    go_wp2_with fail
    go_end0
    exact ⟨rfl, n, os, rfl⟩
  clear hins hH
  generalize sortA d = r at hst ⊢
  go_enter Tryz.func176, Tryz.ntmps176
  go_wp2_with (go_at_call 236; refine hst.mono ?_; rintro e w' ⟨rfl, n, os, rfl⟩)
  go_end0
  exact ⟨rfl, n, os, rfl⟩

set_option maxRecDepth 100000 in
set_option maxHeartbeats 1000000 in
theorem stableDe_nil (w : World) :
    Calls Tryz.prog 176 #[.slice none 0 0, .func (.func 177) #[] #[]] w fun e w' => e = .returned (.tuple #[]) ∧ w' = w := by
  have hins : Calls Tryz.prog 294 #[.slice none 0 0, .int .i64 0, .int .i64 0, .func (.func 177) #[] #[]] w fun e w' => e = .returned (.tuple #[]) ∧ w' = w := by
    go_enter Tryz.func294, Tryz.ntmps294
    go_wp2_with fail
    refine wp_loop_rounds 1 ?_
    rw [rounds_succ]
    go_wp2_with fail
    go_end0
    exact ⟨rfl, rfl⟩
  have hst : Calls Tryz.prog 236 #[.slice none 0 0, .int .i64 0, .func (.func 177) #[] #[]] w fun e w' => e = .returned (.tuple #[]) ∧ w' = w := by
    go_enter Tryz.func236, Tryz.ntmps236
    go_wp2_with fail
    refine wp_loop_rounds 1 ?_
    rw [rounds_succ]
    go_wp2_with (go_at_call 294; refine hins.mono ?_; rintro e w' ⟨rfl, hw⟩; rw [hw])
    refine wp_loop_rounds 1 ?_
    rw [rounds_succ]
    go_wp2_with fail
    go_end0
    exact ⟨rfl, rfl⟩
  go_enter Tryz.func176, Tryz.ntmps176
  go_wp2_with (go_at_call 236; refine hst.mono ?_; rintro e w' ⟨rfl, hw⟩; rw [hw])
  go_end0
  exact ⟨rfl, rfl⟩

/-- Is an item wanted? -/
def wantDe (key : Int) (x : ItemR) : Bool := decide (x.kind = 3) && decide (x.dec.server = key)
structure WantFDe (w : World) (x : ItemR) (w' : World) : Prop where
  q : Q w w'
  it : Blk w' w.heap.size 49 x.cells.toArray
  b : Blk w' (w.heap.size + 1 + 1) 47 x.dec.cells.toArray
  r : ∃ cs : List Value, cs.length = 12 ∧ Blk w' (w.heap.size + 1) 47 cs.toArray
structure WantWDe (w0 : World) (x : ItemR) where
  w : World
  f : WantFDe w0 x w
set_option maxRecDepth 100000 in
set_option maxHeartbeats 2000000 in
theorem wantDe_any (p1 : Nat) (key : Int) (x : ItemR) (w : World) (h1 : w.cell? ⟨p1, 0, none⟩ = some (.int .i64 key)) (hp1 : p1 < w.heap.size) :
    Calls Tryz.prog 101 #[.agg (itA x), .pointer (some ⟨p1, 0, none⟩)] w fun e w' => e = .returned (.tuple #[.agg (decA x.dec), .int .i64 x.dec.number, .bool (wantDe key x)]) ∧ Q w w' := by
  have hbi := Blk.new w 49 (itA x)
  have hq1 := q_new w (itA x) 49
  have hbr := Blk.new' (g := w.heap.size + 1) (w.alloc (.cells (itA x) 49)) 47 (decA dec0) (by simp)
  have hq2 := q_new (w.alloc (.cells (itA x) 49)) (decA dec0) 47
  have hbi := hbi.q hq2
  have hq := Q.trans hq1 hq2
  clear hq1 hq2
  obtain ⟨w2, hw2⟩ : ∃ w2, w2 = (w.alloc (.cells (itA x) 49)).alloc (.cells (decA dec0) 47) := ⟨_, rfl⟩
  rw [← hw2] at hbi hbr hq
  have hw2s : w2.heap.size = w.heap.size + 1 + 1 := by rw [hw2]; simp
  have hLd : ∀ y : Wd w2, (Instr.loadAt 47 (.pointer (some ⟨w.heap.size, 37, none⟩))).run Tryz.prog y.w = .ok (.agg (decA x.dec)) y.w := item_dec hbi.lt (Blk.range hbi)
  have HX := Lib.hid hw2
  clear hw2
  have hbb := Blk.new' (g := w.heap.size + 1 + 1) w2 47 dec0.cells.toArray hw2s.symm
  go_enter Tryz.func101, Tryz.ntmps101
  go_upto_region 1 with (fail)
  refine (show Code.wp _ _ _ _ w2 → Code.wp _ _ _ _ _ from fun h => by rw [HX.out] at h; exact h) ?_
  go_wp2_with (first | (refine wpList_load_run 47 (.tmp 7) (.pointer (some ⟨w.heap.size, 37, none⟩)) (.agg (decA x.dec)) ?_ ?_ ?_ ?_ ?_; rfl; rfl; rfl; exact hLd ⟨_, Q.refl _⟩) | (refine wpList_store_blk hbb rfl 47 (.tmp 6) (.tmp 8) x.dec.cells rfl rfl rfl (by kernel_rfl) (dec_all _) (Nat.le_refl 12) ?_))
  intro W hW hbel
  rw [splice_all _ _ (by rfl)] at hW
  have hqW2 : Q w2 W := hbel _ _ (by omega) (q_new _ _ _)
  have hF : WantFDe w x W := ⟨Q.trans hq hqW2, hbi.q hqW2, hW, dec0.cells, rfl, hbr.q hqW2⟩
  clear hW hbel hqW2 hbb hLd hbr hq HX hw2s
  have hFd : ∃ y : WantWDe w x, ({ W with drawn := W.drawn + 1 } : World) = y.w := ⟨⟨_, ⟨hF.q.drew, hF.it, hF.b, hF.r⟩⟩, rfl⟩
  have cK : ∀ y : WantWDe w x, y.w.cell? ⟨w.heap.size, 0, none⟩ = some (.int .i64 x.kind) := fun y => y.f.it.cell 0
  have cA : ∀ y : WantWDe w x, y.w.cell? ⟨w.heap.size + 1 + 1, 0, none⟩ = some (.int .i64 x.dec.server) := fun y => y.f.b.cell 0
  have cR : ∀ y : WantWDe w x, y.w.cell? ⟨w.heap.size + 1 + 1, 1, none⟩ = some (.int .i64 x.dec.number) := fun y => y.f.b.cell 1
  have c1 : ∀ y : WantWDe w x, y.w.cell? ⟨p1, 0, none⟩ = some (.int .i64 key) := fun y => (y.f.q.cell (p := ⟨p1, 0, none⟩) hp1).trans h1
  have hLb : ∀ z, (∃ y : WantWDe w x, z = y.w) → (Instr.loadAt 47 (.pointer (some ⟨w.heap.size + 1 + 1, 0, none⟩))).run Tryz.prog z = .ok (.agg (decA x.dec)) z := by
    rintro z ⟨y, rfl⟩
    exact Wd.load (P := Tryz.prog) (w0 := y.w) y.f.b.lt (Blk.range y.f.b) Tryz.underlying47 rfl (by kernel_rfl) ⟨y.w, Q.refl _⟩
  have HR : Hid (wantDe key x = (decide (x.kind = 3) && decide (x.dec.server = key))) := Lib.hid rfl
  haveI hNE : Nonempty (WantWDe w x) := ⟨⟨W, hF⟩⟩
  clear hF h1 hbi
  by_cases hk : x.kind = 3
  · rw [decide_eq_true hk, Bool.true_and] at HR
    go_wp2_with fail
    refine wp_region_reads (S := fun w' => ∃ y : WantWDe w x, w' = y.w) 12 (by kernel_rfl) (by kernel_rfl) (by intro c a d v w h; cases d <;> exact h) hFd ?_
    simp only [List.take_succ_cons, List.take_zero]
    refine wpQuiet_load_S 47 (.tmp 6) (.pointer (some ⟨w.heap.size + 1 + 1, 0, none⟩)) (.agg (decA x.dec)) rfl rfl rfl hLb ?_
    dsimp only [Act.put]
    simp only [List.setIfInBounds_toArray, List.set_cons_succ, List.set_cons_zero]
    repeat (go_big_quiet_step (fail))
    refine wpQuiet_nil ?_
    rintro w' ⟨y, rfl⟩
    obtain ⟨cs, hcs, hbr⟩ := y.f.r
    refine held_one 12 rfl (by kernel_rfl) rfl (fun K' hK' => ?_)
    refine wp_store_mid 47 (.tmp 3) (.tmp 9) rfl (w.heap.size + 1) 0 (decA x.dec) rfl rfl (show y.w.there (w.heap.size + 1) 0 12 by simpa using hbr.there (n := 12) (Nat.le_of_eq hcs.symm)) (by kernel_rfl) (dec_all _) ?_
    have hsc : Blk (y.w.setCells (w.heap.size + 1) 0 x.dec.cells) (w.heap.size + 1) 47 x.dec.cells.toArray := by
      have := Blk.setCells x.dec.cells 0 _ y.w hbr (Nat.le_of_eq (by rw [hcs]; rfl))
      rwa [splice_all _ _ (by rw [hcs]; rfl)] at this
    have hfar := fun b (hne : b ≠ w.heap.size + 1) => setCells_far (g := w.heap.size + 1) hne x.dec.cells 0 y.w
    have hqs : Q w (y.w.setCells (w.heap.size + 1) 0 x.dec.cells) := below_setCells (Nat.le_succ _) x.dec.cells 0 w y.w y.f.q
    have hFN : WantFDe w x (y.w.setCells (w.heap.size + 1) 0 x.dec.cells) := ⟨hqs, (hfar _ (by omega)).trans y.f.it, (hfar _ (by omega)).trans y.f.b, x.dec.cells, rfl, hsc⟩
    refine hK' _ _ ⟨⟨_, hFN⟩, rfl⟩ ?_
    clear hK' K' hbr hfar
    have HZ := Lib.hid hsc
    have HQ := Lib.hid hqs
    clear hsc hqs
    simp only [Act.put, List.setIfInBounds_toArray, List.set_cons_succ, List.set_cons_zero]
    refine held_pure 13 (v := .int .i64 x.dec.number) rfl (by kernel_rfl) (by kernel_rfl) (by kernel_rfl) (by intro c a d v w h; cases d <;> exact h) rfl ⟨⟨_, hFN⟩, rfl⟩ (fun w => by rfl) ?_
    simp only [Act.put, List.setIfInBounds_toArray, List.set_cons_succ, List.set_cons_zero]
    refine held_pure 14 (v := .bool (x.dec.server == key)) rfl (by kernel_rfl) (by kernel_rfl) (by kernel_rfl) (by intro c a d v w h; cases d <;> exact h) rfl ⟨⟨_, hFN⟩, rfl⟩ (fun w => by rfl) ?_
    simp only [Act.put, List.setIfInBounds_toArray, List.set_cons_succ, List.set_cons_zero]
    refine wpAnyH_done (by kernel_rfl) ?_ _
    go_wp2_with fail
    exact bodyPost_ret (results_row_tmp2 rfl _ _ (w.heap.size + 1) 47 (decA x.dec) (0, 0) _ _ _ rfl rfl rfl HZ.out Tryz.underlying47 rfl (by kernel_rfl)) rfl ⟨by rw [HR.out, ← beq_int]; rfl, HQ.out⟩
  · rw [decide_eq_false hk, Bool.false_and] at HR
    have hkb : (x.kind == 3) = false := by simpa using hk
    go_wp2_with fail
    refine wp_region_reads (S := fun w' => ∃ y : WantWDe w x, w' = y.w) 12 (by kernel_rfl) (by kernel_rfl) (by intro c a d v w h; cases d <;> exact h) hFd ?_
    simp only [List.take_succ_cons, List.take_zero]
    refine wpQuiet_load_S 47 (.tmp 6) (.pointer (some ⟨w.heap.size + 1 + 1, 0, none⟩)) (.agg (decA x.dec)) rfl rfl rfl hLb ?_
    dsimp only [Act.put]
    simp only [List.setIfInBounds_toArray, List.set_cons_succ, List.set_cons_zero]
    repeat (go_big_quiet_step (fail))
    refine wpQuiet_nil ?_
    rintro w' ⟨y, rfl⟩
    obtain ⟨cs, hcs, hbr⟩ := y.f.r
    refine held_one 12 rfl (by kernel_rfl) rfl (fun K' hK' => ?_)
    refine wp_store_mid 47 (.tmp 3) (.tmp 9) rfl (w.heap.size + 1) 0 (decA x.dec) rfl rfl (show y.w.there (w.heap.size + 1) 0 12 by simpa using hbr.there (n := 12) (Nat.le_of_eq hcs.symm)) (by kernel_rfl) (dec_all _) ?_
    have hsc : Blk (y.w.setCells (w.heap.size + 1) 0 x.dec.cells) (w.heap.size + 1) 47 x.dec.cells.toArray := by
      have := Blk.setCells x.dec.cells 0 _ y.w hbr (Nat.le_of_eq (by rw [hcs]; rfl))
      rwa [splice_all _ _ (by rw [hcs]; rfl)] at this
    have hfar := fun b (hne : b ≠ w.heap.size + 1) => setCells_far (g := w.heap.size + 1) hne x.dec.cells 0 y.w
    have hqs : Q w (y.w.setCells (w.heap.size + 1) 0 x.dec.cells) := below_setCells (Nat.le_succ _) x.dec.cells 0 w y.w y.f.q
    have hFN : WantFDe w x (y.w.setCells (w.heap.size + 1) 0 x.dec.cells) := ⟨hqs, (hfar _ (by omega)).trans y.f.it, (hfar _ (by omega)).trans y.f.b, x.dec.cells, rfl, hsc⟩
    refine hK' _ _ ⟨⟨_, hFN⟩, rfl⟩ ?_
    clear hK' K' hbr hfar
    have HZ := Lib.hid hsc
    have HQ := Lib.hid hqs
    clear hsc hqs
    simp only [Act.put, List.setIfInBounds_toArray, List.set_cons_succ, List.set_cons_zero]
    refine held_pure 13 (v := .int .i64 x.dec.number) rfl (by kernel_rfl) (by kernel_rfl) (by kernel_rfl) (by intro c a d v w h; cases d <;> exact h) rfl ⟨⟨_, hFN⟩, rfl⟩ (fun w => by rfl) ?_
    simp only [Act.put, List.setIfInBounds_toArray, List.set_cons_succ, List.set_cons_zero]
    refine held_pure 14 (v := .bool false) rfl (by kernel_rfl) (by kernel_rfl) (by kernel_rfl) (by intro c a d v w h; cases d <;> exact h) rfl ⟨⟨_, hFN⟩, rfl⟩ (fun w => by rfl) ?_
    simp only [Act.put, List.setIfInBounds_toArray, List.set_cons_succ, List.set_cons_zero]
    refine wpAnyH_done (by kernel_rfl) ?_ _
    go_wp2_with fail
    exact bodyPost_ret (results_row_tmp2 rfl _ _ (w.heap.size + 1) 47 (decA x.dec) (0, 0) _ _ _ rfl rfl rfl HZ.out Tryz.underlying47 rfl (by kernel_rfl)) rfl ⟨by rw [HR.out]; rfl, HQ.out⟩

def foundDe (x : ItemR) : Found DecR := ⟨x.dec.number, digOf x, x.dec⟩
def takeDe (key : Int) (l : List ItemR) : List (Found DecR) := (l.filter fun x => wantDe key x && itemRight x).map foundDe
theorem takeDe_step (key : Int) (l : List ItemR) (j : Nat) (h : j < l.length) : takeDe key (l.take (j + 1)) = takeDe key (l.take j) ++ if wantDe key l[j] && itemRight l[j] then [foundDe l[j]] else [] := by
  unfold takeDe
  rw [List.take_succ_eq_append_getElem h, List.filter_append, List.map_append]
  congr 1
  cases hw : wantDe key l[j] && itemRight l[j] <;> simp [List.filter, hw]
theorem takeDe_le (key : Int) (l : List ItemR) (j : Nat) : (takeDe key (l.take j)).length ≤ j := by
  unfold takeDe
  rw [List.length_map]
  refine Nat.le_trans (List.length_filter_le _ _) ?_
  rw [List.length_take]
  omega
def sortDe (l : List (Found DecR)) : List (Found DecR) := (sortA l.toArray).toList
def listDe (key : Int) (l : List ItemR) : List DecR := (sortDe (takeDe key l)).map (·.val)
theorem sortDe_length (l : List (Found DecR)) : (sortDe l).length = l.length := by
  unfold sortDe sortA Go.Sort.insertionSort
  rw [Array.length_toList, size_insO _ _ _ _ _ _ rfl, List.size_toArray]

theorem sortDe_nil : sortDe [] = [] := List.length_eq_zero_iff.1 (sortDe_length [])
/-- The sort, of an own row. -/
theorem sortedDe_any (A : Option Addr) (c m base : Nat) (l : List (Found DecR)) (w : World) (hm : m = l.length) (h20 : m < 20) (h : Owns w base 211 14 (.slice A m c) m (l.flatMap fdeC)) (hB : base ≤ w.heap.size) :
    Calls Tryz.prog 176 #[.slice A m c, .func (.func 177) #[] #[]] w fun e w' => e = .returned (.tuple #[]) ∧ (RowsAt w' A 14 fdeC (sortDe l) ∧ Below base w w') := by
  rcases h.2 with ⟨e1, h0⟩ | ⟨g, cap, cur, fz, hv, hb, hg, _⟩
  · injection e1 with hA _ hc
    subst hA hc
    have hl : l = [] := List.length_eq_zero_iff.1 (by omega)
    subst hl
    subst hm
    refine (stableDe_nil w).mono ?_
    rintro e w' ⟨rfl, rfl⟩
    exact ⟨rfl, by rw [sortDe_nil]; exact RowsAt.nil _ _ _ _, Below.refl _ _⟩
  · injection hv with hA _ hc
    subst hA
    rcases Nat.eq_zero_or_pos m with h0 | h0
    · have hl : l = [] := List.length_eq_zero_iff.1 (by omega)
      subst hl
      have hH : Go.Sort.HoldsK fdeC 14 w g 0 (#[] : Array (Found DecR)) := fun t ht => by rw [Go.Sort.size_flatK] at ht; simp at ht
      have := stableDe_any g c #[] w hH (Array.getElem?_eq_some_iff.1 hg).1 (by simp)
      subst hm
      refine this.mono ?_
      rintro e w' ⟨rfl, n, os, rfl⟩
      exact ⟨rfl, by rw [sortDe_nil]; exact RowsAt.nil _ _ _ _, below_sort (Below.refl _ _) hb hB⟩
    · obtain ⟨hH, hb', hg'⟩ := holds_of fde_len h hm h0
      subst hm
      have hs : (l.toArray).size = l.length := by simp
      have hsa : (sortA l.toArray).size = l.toArray.size := by
        unfold sortA Go.Sort.insertionSort
        rw [size_insO _ _ _ _ _ _ rfl]
      have := stableDe_any g c l.toArray w hH hg' (by rw [hs]; exact h20)
      rw [hs] at this
      refine this.mono ?_
      rintro e w' ⟨rfl, n, os, rfl⟩
      refine ⟨rfl, rows_of fde_len (holdsK_sortWorldK_c fdeC 14 w g 0 l.toArray _ n os hH hg' hsa) ?_, below_sort (Below.refl _ _) hb hB⟩
      exact Nat.lt_of_lt_of_le hg' (size_sortWorldK_c fdeC 14 w g 0 n _ os)

theorem foundDe_info : (Tryz.prog.info? 211).map (fun i => (i.zero, i.size, i.bytes)) = some (some (.agg (fdeC default).toArray), 14, 160) := by kernel_rfl
theorem valDe_info : (Tryz.prog.info? 47).map (fun i => (i.zero, i.size, i.bytes)) = some (some (.agg (decA dec0)), 12, 136) := by kernel_rfl
theorem fde_all (x : Found DecR) : (fdeC x).toArray.all (·.oneCell') = true := by
  rw [Array.all_eq_true_iff_forall_mem]
  intro v hv
  exact fde_one x v (by simpa using hv)
theorem buildDe_found (n : Int) (d : ByteArray) (b : DecR) (w : World) : (Instr.build 211 #[(0, .int .i64 n), (1, .string d), (2, .agg (decA b))]).run Tryz.prog w = .ok (.agg (fdeC ⟨n, d, b⟩).toArray) w := by kernel_rfl
theorem bsDe_found (x : Found DecR) (w : World) : (Instr.buildSlice 208 1 #[(0, .agg (fdeC x).toArray)]).run Tryz.prog w = .ok (.slice (some ⟨w.heap.size, 0, none⟩) 1 1) (w.alloc (.cells (fdeC x).toArray 211)) := by kernel_rfl
theorem bsDe_val (x : DecR) (w : World) : (Instr.buildSlice 62 1 #[(0, .agg (decA x))]).run Tryz.prog w = .ok (.slice (some ⟨w.heap.size, 0, none⟩) 1 1) (w.alloc (.cells (decA x) 47)) := by kernel_rfl
theorem valDe_len (x : DecR) : x.cells.length = 12 := rfl
theorem valDe_one (x : DecR) : ∀ v ∈ x.cells, v.oneCell' = true := by
  have := dec_all x
  rw [Array.all_eq_true_iff_forall_mem] at this
  intro v hv
  exact this v (by simpa using hv)

/-- What hands back a list of ballots. -/
def ListDeAre (l : List DecR) (w : World) (e : Ending) (w' : World) : Prop := ∃ (A : Option Addr) (c : Nat), e = .returned (.slice A l.length c) ∧ l.length ≤ c ∧ c ≤ maxLen ∧ RowsAt w' A 12 DecR.cells l ∧ Q w w'
set_option maxRecDepth 100000 in
set_option maxHeartbeats 2000000 in
theorem pickDe_any (k : KR) (p1 : Nat) (key : Int) (w : World) (hT : Tab w) (hK : KIn w k) (h1 : w.cell? ⟨p1, 0, none⟩ = some (.int .i64 key)) (hp1 : p1 < w.heap.size) (hn : k.l.length < 20) :
    Calls Tryz.prog 100 #[.agg (knA k), .func (.func 101) #[] #[.pointer (some ⟨p1, 0, none⟩)]] w (ListDeAre (listDe key k.l) w) := by
  obtain ⟨w1, x, hx, hq1, hbk⟩ := boxedB w 27 k.cells
  have hx : w.alloc (.cells (knA k) 27) = x.w := hx
  have cI : ∀ y : Wd w1, y.w.cell? ⟨w.heap.size, 1, none⟩ = some (.slice k.iA k.l.length k.iC) := fun y => (y.blk hbk).cell 1
  have hKy : ∀ y : Wd w1, KIn y.w k := fun y => hK.q (Q.trans hq1 y.q)
  have hTy : ∀ y : Wd w1, Tab y.w := fun y => hT.q (Q.trans hq1 y.q)
  have hW1 : ∀ y : Wd w1, y.w.cell? ⟨p1, 0, none⟩ = some (.int .i64 key) := fun y => ((Q.trans hq1 y.q).cell (p := ⟨p1, 0, none⟩) hp1).trans h1
  have hP1 : ∀ y : Wd w1, p1 < y.w.heap.size := fun y => Nat.lt_of_lt_of_le hp1 (Q.trans hq1 y.q).size
  have HQ := Lib.hid hq1
  obtain ⟨i0, hi, hz0, hz1, hz2⟩ := info_parts foundDe_info
  obtain ⟨j0, hji, hy0, hy1, hy2⟩ := info_parts valDe_info
  have e99 : ∀ args w, (callFunc 101 args).run Tryz.prog w = .ok (.enter 101 args) w := enters_of Tryz.func101 (by kernel_rfl) rfl
  clear hbk hq1 h1 hp1
  go_enter Tryz.func100, Tryz.ntmps100
  go_wp2_with fail
  go_loopw [5, 17] (fun a i wr => ∃ (j c m : Nat) (A : Option Addr) (z : Wd w1), a = .slice A m c ∧ i = .int .i64 j ∧ wr = z.w ∧ j ≤ k.l.length ∧ m ≤ j ∧ m ≤ c ∧ c ≤ maxLen ∧ Hid (m = (takeDe key (k.l.take j)).length) ∧ Owns z.w w1.heap.size 211 14 (.slice A m c) m ((takeDe key (k.l.take j)).flatMap fdeC)) (fun _ i _ => k.l.length - (intOf i).toNat)
  case atStart => exact ⟨0, 0, 0, none, x, rfl, rfl, rfl, Nat.zero_le _, Nat.zero_le _, Nat.zero_le _, Nat.zero_le _, Lib.hid rfl, Owns.nil_ _ _ _ _⟩
  case round =>
    obtain ⟨j, c, m, A, z, rfl, rfl, rfl, hj, hmj, hmc, hcm, hm, hown⟩ := hrel
    by_cases hlt : j < k.l.length
    · obtain ⟨b, o, eA, hb, hld⟩ := (hKy z).items.load j hlt
      have hio := fun y : Wd z.w => ((hKy z).items.each _ (List.getElem_mem hlt)).q y.q
      rw [eA]
      have hTz : ∀ y : Wd z.w, Tab y.w := fun y => hTy ⟨y.w, Q.trans z.q y.q⟩
      have hzs := z.q.size
      have HTS := Lib.hid (takeDe_step key k.l j hlt)
      generalize k.l[j] = it at *
      go_wp2_with (first | (refine wpList_load_run 49 (.tmp 19) (.pointer (some ⟨b, o + j * 49, none⟩)) (.agg (itA it)) ?_ ?_ ?_ ?_ ?_; rfl; rfl; rfl; exact hld ⟨_, Q.refl _⟩) | (refine wpList_store_blk (Blk.new z.w 49 item0.cells.toArray) rfl 49 (.tmp 7) (.tmp 20) it.cells rfl rfl rfl (by kernel_rfl) (it_all _) (Nat.le_refl 49) ?_))
      intro W hW hbel
      rw [splice_all _ _ (by rfl)] at hW
      have hqz : Q z.w W := hbel _ _ (Nat.le_refl _) (q_new _ _ _)
      have hq3 : Q w1 W := Q.trans z.q hqz
      have hLi : ∀ y : Wd W, (Instr.loadAt 49 (.pointer (some ⟨z.w.heap.size, 0, none⟩))).run Tryz.prog y.w = .ok (.agg (itA it)) y.w := Wd.load hW.lt (Blk.range hW) Tryz.underlying49 rfl (by kernel_rfl)
      have hcl : ∀ y : Wd W, Calls Tryz.prog 101 #[.agg (itA it), .pointer (some ⟨p1, 0, none⟩)] y.w fun e w' => e = .returned (.tuple #[.agg (decA it.dec), .int .i64 it.dec.number, .bool (wantDe key it)]) ∧ Q y.w w' := fun y => wantDe_any p1 key it y.w (hW1 ⟨y.w, Q.trans hq3 y.q⟩) (hP1 ⟨y.w, Q.trans hq3 y.q⟩)
      have hWs := hq3.size
      obtain ⟨v, hv⟩ := Wd.first W
      rw [hv]
      clear hbel hld hv eA hb cI hW1 hP1
      generalize hwt : wantDe key it = wt at *
      go_wp2_with (first | (refine wpList_load_run 49 (.tmp 7) (.pointer (some ⟨z.w.heap.size, 0, none⟩)) (.agg (itA it)) ?_ ?_ ?_ ?_ ?_; rfl; rfl; rfl; exact hLi _) | (go_at_fn 101; refine (hcl _).mono ?_; rintro e w' ⟨rfl, hq2⟩; obtain ⟨y, rfl⟩ := Wd.next _ hq2; clear hq2) | (refine wpList_store_blk (Blk.new y.w 47 dec0.cells.toArray) rfl 47 (.tmp 8) (.tmp 25) it.dec.cells rfl rfl rfl (by kernel_rfl) (dec_all _) (Nat.le_refl 12) ?_))
      intro W2 hB2 hbel2
      rw [splice_all _ _ (by rfl)] at hB2
      have hqy : Q W W2 := hbel2 _ _ y.q.size (Q.trans y.q (q_new _ _ _))
      have hq4 : Q w1 W2 := Q.trans hq3 hqy
      have hLi2 : ∀ y : Wd W2, (Instr.loadAt 49 (.pointer (some ⟨z.w.heap.size, 0, none⟩))).run Tryz.prog y.w = .ok (.agg (itA it)) y.w := fun y => hLi ⟨y.w, Q.trans hqy y.q⟩
      have hLb2 : ∀ u : Wd W2, (Instr.loadAt 47 (.pointer (some ⟨y.w.heap.size, 0, none⟩))).run Tryz.prog u.w = .ok (.agg (decA it.dec)) u.w := Wd.load hB2.lt (Blk.range hB2) Tryz.underlying47 rfl (by kernel_rfl)
      have hIi : ∀ u : Wd W2, ItemIn u.w it := fun u => hio ⟨u.w, Q.trans (Q.trans hqz hqy) u.q⟩
      have hdg2 : ∀ u : Wd W2, Calls Tryz.prog 21 #[.agg (itA it)] u.w fun e w' => e = .returned (.string (digOf it)) ∧ Q u.w w' := fun u => digest_any it u.w (hTz ⟨u.w, Q.trans (Q.trans hqz hqy) u.q⟩) (hIi u)
      have hownW : ∀ u : Wd W2, Owns u.w w1.heap.size 211 14 (.slice A m c) m ((takeDe key (k.l.take j)).flatMap fdeC) := fun u => hown.q (Q.trans (Q.trans hqz hqy) u.q)
      have hrg : ∀ (r : Bool), itemRight it = r → ∀ u : Wd W2, Calls Tryz.prog 52 #[.agg (itA it)] u.w fun e w' => e = .returned (.bool r) ∧ Q u.w w' := fun r hr u => right_at it r u.w (hIi u) hr
      have HQ4 := Lib.hid hq4
      have hWs2 := hq4.size
      obtain ⟨u, hu⟩ := Wd.first W2
      rw [hu]
      clear hbel2 hu hqy hq4 hq3 hqz hLi hcl hio hTz hown hTy hW hB2
      cases wt
      · have HTE := Lib.hid (show takeDe key (k.l.take (j + 1)) = takeDe key (k.l.take j) by rw [HTS.out]; simp)
        go_wp2_with fail
        exact ⟨⟨j + 1, c, m, A, ⟨u.w, Q.trans HQ4.out u.q⟩, rfl, by go_num, rfl, by omega, by omega, hmc, hcm, Lib.hid (by rw [HTE.out]; exact hm.out), by rw [HTE.out]; exact hownW u⟩, by simp only [intOf]; omega⟩
      · cases hr : itemRight it
        · have HTE := Lib.hid (show takeDe key (k.l.take (j + 1)) = takeDe key (k.l.take j) by rw [HTS.out, hr]; simp)
          have hrg0 := hrg false hr
          clear hrg hr
          go_wp2_with (first | (refine wpList_load_run 49 (.tmp 7) (.pointer (some ⟨z.w.heap.size, 0, none⟩)) (.agg (itA it)) ?_ ?_ ?_ ?_ ?_; rfl; rfl; rfl; exact hLi2 _) | (go_at_call 52; refine (hrg0 _).mono ?_; rintro e w' ⟨rfl, hq2⟩; obtain ⟨t, rfl⟩ := Wd.next _ hq2; clear hq2))
          exact ⟨⟨j + 1, c, m, A, ⟨t.w, Q.trans HQ4.out t.q⟩, rfl, by go_num, rfl, by omega, by omega, hmc, hcm, Lib.hid (by rw [HTE.out]; exact hm.out), by rw [HTE.out]; exact hownW t⟩, by simp only [intOf]; omega⟩
        · have HTE := Lib.hid (show takeDe key (k.l.take (j + 1)) = takeDe key (k.l.take j) ++ [foundDe it] by rw [HTS.out, hr]; simp)
          have hrg0 := hrg true hr
          clear hrg hr
          go_wp2_with (first | (refine wpList_load_run 49 (.tmp 7) (.pointer (some ⟨z.w.heap.size, 0, none⟩)) (.agg (itA it)) ?_ ?_ ?_ ?_ ?_; rfl; rfl; rfl; exact hLi2 _) | (go_at_call 52; refine (hrg0 _).mono ?_; rintro e w' ⟨rfl, hq2⟩; obtain ⟨t, rfl⟩ := Wd.next _ hq2; clear hq2))
          refine wp_region_wd_parts t 2 6 (by kernel_rfl) (by kernel_rfl) (by intro c d v a w h; cases d <;> exact h) ?_
          simp only [List.take_succ_cons, List.take_zero, List.drop_succ_cons, List.drop_zero]
          refine wpPure_move (.tmp 5) (.slice A m c) rfl rfl rfl ?_
          dsimp only [Act.put]
          simp only [List.setIfInBounds_toArray, List.set_cons_succ, List.set_cons_zero]
          refine wpPure_move (.tmp 9) (.int .i64 it.dec.number) rfl rfl rfl ?_
          dsimp only [Act.put]
          simp only [List.setIfInBounds_toArray, List.set_cons_succ, List.set_cons_zero]
          refine wpPure_nil ?_
          refine wpQuiet_load_run 49 (.tmp 7) (.pointer (some ⟨z.w.heap.size, 0, none⟩)) (.agg (itA it)) rfl rfl rfl hLi2 ?_
          dsimp only [Act.put]
          simp only [List.setIfInBounds_toArray, List.set_cons_succ, List.set_cons_zero]
          go_big_quiet_step (first | (go_at_call 21; exact Wd.call _ (hdg2 _)))
          refine wpQuiet_load_run 47 (.tmp 8) (.pointer (some ⟨y.w.heap.size, 0, none⟩)) (.agg (decA it.dec)) rfl rfl rfl hLb2 ?_
          dsimp only [Act.put]
          simp only [List.setIfInBounds_toArray, List.set_cons_succ, List.set_cons_zero]
          refine wpQuiet_build_run 211 _ #[(0, .int .i64 it.dec.number), (1, .string (digOf it)), (2, .agg (decA it.dec))] _ rfl rfl (by simp only [List.map_toArray, List.map_cons, List.map_nil]; rfl) (buildDe_found (it.dec.number) (digOf it) it.dec) ?_
          dsimp only [Act.put]
          simp only [List.setIfInBounds_toArray, List.set_cons_succ, List.set_cons_zero]
          refine wpQuiet_nil ?_
          rintro w6 ⟨t2, rfl⟩
          refine wpList_buildSlice_run 208 1 _ #[(0, .agg (fdeC (foundDe it)).toArray)] _ rfl rfl (by simp only [List.map_toArray, List.map_cons, List.map_nil]; rfl) (bsDe_found (foundDe it) _) ?_
          dsimp only [Act.put]
          simp only [List.setIfInBounds_toArray, List.set_cons_succ, List.set_cons_zero]
          refine wpList_append_rows fde_len fde_one rfl (.tmp 33) (.tmp 39) 208 211 i0 _ 160 rfl Tryz.underlying208 hi hz0 hz1 hz2 rfl (by decide) (by decide) w1.heap.size (.slice A m c) m (takeDe key (k.l.take j)) rfl ((hownW t2).alloc (.cells (fdeC (foundDe it)).toArray 211)) (some ⟨t2.w.heap.size, 0, none⟩) 1 1 [foundDe it] rfl (RowsAt.one t2.w 211 (foundDe it) _ rfl) rfl (by omega) (by have := t2.q.size; simp; omega) ?_
          intro A5 c5 w5 hc5 hm5 hown5 hg5
          have hq5 : Q w1 w5 := q_grown (Q.trans (Q.trans HQ4.out t2.q) (q_new _ _ _)) (Nat.le_refl _) ((hownW t2).alloc _) hg5
          obtain ⟨y5, rfl⟩ : ∃ y5 : Wd w1, w5 = y5.w := ⟨⟨w5, hq5⟩, rfl⟩
          rw [← HTE.out] at hown5
          have HM5 : Hid (m + 1 = (takeDe key (k.l.take (j + 1))).length) := Lib.hid (by rw [HTE.out, List.length_append, ← hm.out]; rfl)
          clear hownW hg5 hq5 hdg2 hLi2 hLb2 hIi hrg0
          go_wp2_with fail
          exact ⟨⟨j + 1, c5, m + 1, A5, y5, rfl, by go_num, rfl, by omega, by omega, hc5, hm5, HM5, hown5⟩, by simp only [intOf]; omega⟩
    · have hjn : j = k.l.length := by omega
      have hm := hm.out
      rw [hjn, List.take_length] at hown hm
      have hm20 : m < 20 := by omega
      have hso := sortedDe_any A c m w1.heap.size (takeDe key k.l) z.w hm hm20 hown z.q.size
      have hlen : (sortDe (takeDe key k.l)).length = m := by rw [sortDe_length]; exact hm.symm
      have HB := Lib.hid (show listDe key k.l = (sortDe (takeDe key k.l)).map (·.val) from rfl)
      have HZ := Lib.hid z.q
      generalize sortDe (takeDe key k.l) = L at hso hlen HB
      clear hown hm hjn cI hW1 hP1 hKy hTy
      go_wp2_with (first | (go_at_call 176; refine hso.mono ?_; rintro e w6 ⟨rfl, hR6, hb6⟩; have HQ6 := Lib.hid (Below.trans HZ.out hb6); clear hb6 hso; obtain ⟨y6, hy6⟩ := Wd.first w6; rw [hy6]; clear hy6) | (refine wpList_make_own _ rfl _ _ 62 rfl w6.heap.size 47 j0 _ 12 Tryz.underlying62 hji hy0 hy1 .i64 .i64 (m : Int) m rfl rfl rfl (by rw [hy2]; omega) (by simp only [maxLen]; omega) y6.q.size ?_))
      intro w7 hown0 hg0
      have hown : Owns w7 w6.heap.size 47 12 (.slice (some ⟨y6.w.heap.size, 0, none⟩) 0 m) 0 (([] : List DecR).flatMap DecR.cells) := Owns.of hown0
      have hq7 : Q w6 w7 := Below.grown y6.q hg0 y6.q.size (fun _ h => by cases h)
      obtain ⟨y7, rfl⟩ : ∃ y7 : Wd w6, w7 = y7.w := ⟨⟨w7, hq7⟩, rfl⟩
      have hRy : ∀ y : Wd w6, RowsAt y.w A 14 fdeC L := fun y => hR6.q y.q
      clear hown0 hg0 hq7 hR6
      go_wp2_with fail
      go_loopw [11, 49] (fun a i wr => ∃ (j c : Nat) (A : Option Addr) (z : Wd w6), a = .slice A j c ∧ i = .int .i64 j ∧ wr = z.w ∧ j ≤ m ∧ j ≤ c ∧ c ≤ maxLen ∧ Owns z.w w6.heap.size 47 12 (.slice A j c) j (((L.take j).map (·.val)).flatMap DecR.cells)) (fun _ i _ => m - (intOf i).toNat)
      case atStart => exact ⟨0, m, _, y7, rfl, rfl, rfl, Nat.zero_le _, Nat.zero_le _, by simp only [maxLen]; omega, hown⟩
      case round =>
        clear hown
        obtain ⟨j2, c2, A2, z2, rfl, rfl, rfl, hj2, hjc2, hcm2, hown⟩ := hrel
        by_cases hlt2 : j2 < m
        · obtain ⟨b, o, eA, hb, hcs⟩ := hRy z2 (by omega)
          have hld : ∀ y : Wd z2.w, (Instr.loadAt 211 (.pointer (some ⟨b, o + j2 * 14, none⟩))).run Tryz.prog y.w = .ok (.agg (fdeC (L[j2]'(by omega))).toArray) y.w := Wd.load hb (hcs j2 (by omega)) Tryz.underlying211 rfl (by kernel_rfl)
          have HLS := Lib.hid (show (L.take (j2 + 1)).map (·.val) = (L.take j2).map (·.val) ++ [(L[j2]'(by omega)).val] by rw [List.take_succ_eq_append_getElem (by omega), List.map_append]; rfl)
          rw [eA]
          have hzs2 := z2.q.size
          clear hcs
          generalize L[j2]'(by omega) = e2 at *
          have hbf := Blk.new z2.w 211 (fdeC default).toArray
          go_wp2_with (first | (refine wpList_load_run 211 (.tmp 51) (.pointer (some ⟨b, o + j2 * 14, none⟩)) (.agg (fdeC e2).toArray) ?_ ?_ ?_ ?_ ?_; rfl; rfl; rfl; exact hld ⟨_, Q.trans (Q.refl _) (Q.refl _)⟩) | (refine wpList_store_blk hbf rfl 211 (.tmp 13) (.tmp 52) (fdeC e2) rfl rfl rfl (by kernel_rfl) (fde_all _) (Nat.le_refl 14) ?_))
          intro W hW hbel
          rw [splice_all _ _ (by rfl)] at hW
          have hqz : Q z2.w W := hbel _ _ (Nat.le_refl _) (q_new _ _ _)
          have hq3 : Q w6 W := Q.trans z2.q hqz
          have hrv : W.rangeAt z2.w.heap.size 2 e2.val.cells := by
            have := range_sub (Blk.range hW) 2 12
            rw [Nat.zero_add] at this
            exact this
          have hLv : ∀ y : Wd W, (Instr.loadAt 47 (.pointer (some ⟨z2.w.heap.size, 2, none⟩))).run Tryz.prog y.w = .ok (.agg (decA e2.val)) y.w := Wd.load hW.lt hrv Tryz.underlying47 rfl (by kernel_rfl)
          have hownW : ∀ y : Wd W, Owns y.w w6.heap.size 47 12 (.slice A2 j2 c2) j2 (((L.take j2).map (·.val)).flatMap DecR.cells) := fun y => hown.q (Q.trans hqz y.q)
          have HQ3 := Lib.hid hq3
          have hWs := hq3.size
          obtain ⟨v, hv⟩ := Wd.first W
          rw [hv]
          clear hW hbel hld hv hqz hq3 hown hrv hbf
          go_wp2_with (first | (refine wpList_load_run 47 (.tmp 54) (.pointer (some ⟨z2.w.heap.size, 2, none⟩)) (.agg (decA e2.val)) ?_ ?_ ?_ ?_ ?_; rfl; rfl; rfl; exact hLv _) | (refine wpList_buildSlice_run 62 1 _ #[(0, .agg (decA e2.val))] _ rfl rfl (by simp only [List.map_toArray, List.map_cons, List.map_nil]; rfl) (bsDe_val e2.val _) ?_) | (at_builtin; refine wpList_append_rows valDe_len valDe_one rfl (.tmp 53) (.tmp 56) 62 47 j0 _ 136 rfl Tryz.underlying62 hji hy0 hy1 hy2 rfl (by decide) (by decide) w6.heap.size (.slice A2 j2 c2) j2 ((L.take j2).map (·.val)) rfl ((hownW v).alloc (.cells (decA e2.val) 47)) (some ⟨v.w.heap.size, 0, none⟩) 1 1 [e2.val] rfl (RowsAt.one v.w 47 e2.val _ rfl) rfl (by omega) (by have := v.q.size; simp; omega) ?_))
          intro A5 c5 w5 hc5 hm5 hown5 hg5
          have hq5 : Q w6 w5 := q_grown (Q.trans (Q.trans HQ3.out v.q) (q_new _ _ _)) (Nat.le_refl _) ((hownW v).alloc _) hg5
          obtain ⟨y5, rfl⟩ : ∃ y5 : Wd w6, w5 = y5.w := ⟨⟨w5, hq5⟩, rfl⟩
          have e5 : List.flatMap DecR.cells (List.take j2 (List.map (fun x => x.val) L)) ++ e2.val.cells = ((L.take (j2 + 1)).map (·.val)).flatMap DecR.cells := by
            rw [HLS.out, List.flatMap_append, List.map_take]
            simp
          rw [e5] at hown5
          clear hownW hg5 hq5 hLv e5
          go_wp2_with fail
          exact ⟨⟨j2 + 1, c5, A5, y5, rfl, by go_num, rfl, by omega, hc5, hm5, hown5⟩, by simp only [intOf]; omega⟩
        · have hjn : j2 = m := by omega
          have hall : L.take j2 = L := List.take_of_length_le (by omega)
          rw [hall, ← HB.out] at hown
          have hl : (listDe key k.l).length = j2 := by rw [HB.out, List.length_map, hlen, hjn]
          have hfin : ListDeAre (listDe key k.l) w (.returned (.slice A2 j2 c2)) z2.w := ⟨A2, c2, by rw [hl], by omega, hcm2, Owns.rows valDe_len hown hl.symm, Q.trans HQ.out (Below.trans HQ6.out (Below.mono z2.q (by have := HQ6.out.size; omega)))⟩
          have HF := Lib.hid hfin
          clear hfin hl hall hown
          go_wp2_with fail
          go_ret
          exact HF.out

set_option maxRecDepth 100000 in
set_option maxHeartbeats 2000000 in
theorem allDe_any (k : KR) (key : Int) (w : World) (hT : Tab w) (hK : KIn w k) (hn : k.l.length < 20) :
    Calls Tryz.prog 35 #[.agg (knA k), .int .i64 key] w (ListDeAre (listDe key k.l) w) := by
  have b1 := Blk.new w 27 (knA k)
  have q1 := q_new w (knA k) 27
  have b2 := Blk.new' (g := w.heap.size + 1) (w.alloc (.cells (knA k) 27)) 3 #[.int .i64 key] (by simp)
  have q2 := q_new (w.alloc (.cells (knA k) 27)) #[.int .i64 key] 3
  have b1 := b1.q q2
  have hq := Q.trans q1 q2
  obtain ⟨w3, hw3⟩ : ∃ w3, w3 = (w.alloc (.cells (knA k) 27)).alloc (.cells #[.int .i64 key] 3) := ⟨_, rfl⟩
  rw [← hw3] at b1 b2 hq
  have hLk := Wd.load (P := Tryz.prog) (ty := 27) b1.lt (Blk.range b1) Tryz.underlying27 rfl (by kernel_rfl) ⟨w3, Q.refl w3⟩
  have hp := pickDe_any k (w.heap.size + 1) key w3 (hT.q hq) (hK.q hq) (b2.cell 0) b2.lt hn
  have HX := Lib.hid hw3
  have HQ := Lib.hid hq
  clear q1 q2 b1 b2 hq hw3
  go_enter Tryz.func35, Tryz.ntmps35
  go_upto_region 1 with (fail)
  refine (show Code.wp _ _ _ _ w3 → Code.wp _ _ _ _ _ from fun h => by rw [HX.out] at h; exact h) ?_
  go_wp2_with (first | (refine wpList_load_run 27 (.tmp 2) (.pointer (some ⟨w.heap.size, 0, none⟩)) (.agg (knA k)) ?_ ?_ ?_ ?_ ?_; rfl; rfl; rfl; exact hLk) | (go_at_call 100; refine hp.mono ?_; rintro e w' ⟨A, c, rfl, h1, h2, h3, hq4⟩))
  go_ret
  exact ⟨A, c, rfl, h1, h2, h3, Q.trans HQ.out hq4⟩
end Go.Proofs.YtpdalnojimgjbaaGreatDoor.Known
