/-
  What pick lays down, and how it is sorted: cmp.Or, cmp.Compare at strings, pick's comparison at ballots. The stable sort of fewer than twenty ballots, as pick calls it. What known.Ballots wants of an item: its closure. known.pick at ballots: what is wanted of the items, sorted. known.Ballots. What a right key signs is accepted; the key of the seed "a". No walk in this text. The small example of the laws about known sets, as plain data: a signed ballot in a set of its own. No walk in this text. What the walk of the laws' small example asks of the program's functions. The walk of agoralaw14.small.
  known.pick at claims.
  slices.SortStableFunc over what pick lays down, where it is sorted already: nothing is written (printed by gen_stab.py).
  known.pick and its callers over known sets whose wanted items are sorted already, at any number of items up to 1000 (printed by gen_picks.py).
  A region that draws its order inside a round of a range over a function: reads first, then a tail in the text's order. From the plain laws of regions.
  package ballot: the iterator over a known set's ballots, for a caller that collects.
  package ballot as plain data: voters, quorum, the claim that has won, the claim that a server votes for. No walk in this text.
-/
import Derived.Test.YtflgkplneekpfaaGreatDoorIdent2
import Derived.Test.YtflgkplneekpfaaGreatDoorBld2
import Derived.Test.YtflgkplneekpfaaGreatDoorMgTa
import Derived.Deep.Cut
import Derived.Test.YtflgkplneekpfaaGreatDoorItemZ
import Derived.Test.YtflgkplneekpfaaGreatDoorItemD
import Derived.Test.YtflgkplneekpfaaGreatDoorSignWalk
import Derived.StillTailTactics
import Derived.RangeFuncNested
import Derived.RangeFuncCalls
import Derived.OrdersIn
import Derived.OrdersHeld
import Derived.RegionTactic
import Derived.RangeFuncBound
import Derived.RangeFuncLeaves
import Derived.RangeFuncFrom
import Derived.RangeFuncBox
import Derived.Shelf.Abstract
import Derived.Shelf.RegionOpen
import Derived.WalkKit
import Derived.OwnWalkIn
import Derived.TacticsInMore
import Derived.LoopNIn
import Derived.LoopIn
import Derived.Lib.SlicesCompact
set_option linter.unusedVariables false
set_option linter.unusedSimpArgs false
namespace Go.Proofs.YtflgkplneekpfaaGreatDoor.Known
open Go.RowKit Grp Mem _root_.Go.Proofs.YtflgkplneekpfaaGreatDoor.Code Sha Sign _root_.Go.Proofs.YtflgkplneekpfaaGreatDoor.Item

/-- What pick lays down of a statement. -/
structure Found (α : Type) where
  rank : Int
  dig : ByteArray
  val : α
instance {α : Type} [Inhabited α] : Inhabited (Found α) := ⟨⟨0, emptyT, default⟩⟩
instance : Inhabited BallotV := ⟨ballot0⟩
def Found.cells {α : Type} (c : α → List Value) (x : Found α) : List Value := .int .i64 x.rank :: .string x.dig :: c x.val
abbrev fbC : Found BallotV → List Value := Found.cells BallotV.cells
theorem fb_len (x : Found BallotV) : (fbC x).length = 9 := rfl
theorem fb_one (x : Found BallotV) : ∀ v ∈ fbC x, v.oneCell' = true := by
  intro v hv
  simp only [fbC, Found.cells, BallotV.cells, List.mem_cons, List.not_mem_nil, or_false] at hv
  rcases hv with rfl | rfl | rfl | rfl | rfl | rfl | rfl | rfl | rfl <;> rfl
def cmpS (a b : ByteArray) : Int := if lessB a b then -1 else if lessB b a then 1 else 0
def orI (x y : Int) : Int := if x = 0 then y else x
def cmpF {α : Type} (x y : Found α) : Int := orI (Lib.compareInt x.rank y.rank) (cmpS x.dig y.dig)

theorem isNaNs_any (s : ByteArray) (w : World) : Calls Tryz.prog 190 #[.string s] w fun e w' => e = .returned (.bool false) ∧ w' = w := by
  go_enter Tryz.func190, Tryz.ntmps190
  go_wp2_with fail
  all_goals (go_ret; exact ⟨by simp, rfl⟩)

set_option maxHeartbeats 1000000 in
theorem compareS_any (a b : ByteArray) (w : World) : Calls Tryz.prog 119 #[.string a, .string b] w fun e w' => e = .returned (.int .i64 (cmpS a b)) ∧ w' = w := by
  have hle := leqB_eq a b
  have HR : Hid (cmpS a b = if lessB a b then -1 else if lessB b a then 1 else 0) := Lib.hid rfl
  have h3 := lessB_asymm (a := a) (b := b)
  cases h1 : lessB a b
  all_goals cases h2 : lessB b a
  all_goals
    rw [h1, h2] at HR
    have hls : Op.bytesLess a.toList b.toList = _ := h1
    rw [h2] at hle
  case true.true => rw [h3 h1] at h2; cases h2
  all_goals
    clear h1 h2 h3
    generalize cmpS a b = r at HR ⊢
    go_enter Tryz.func119, Tryz.ntmps119
    go_wp2_with (go_at_call 190; refine (isNaNs_any _ _).mono ?_; rintro e w' ⟨rfl, hw⟩; rw [hw])
    all_goals first
      | (go_ret; exact ⟨by rw [HR.out]; rfl, rfl⟩)
      | (simp_all)

theorem or_any (b o c : Nat) (x y : Int) (w : World) (h0 : w.cell? ⟨b, o, none⟩ = some (.int .i64 x)) (h1 : w.cell? ⟨b, o + 1, none⟩ = some (.int .i64 y)) : Calls Tryz.prog 117 #[.slice (some ⟨b, o, none⟩) 2 c] w fun e w' => e = .returned (.int .i64 (orI x y)) ∧ w' = w := by
  have h0' : w.cell? ⟨b, o + 0, none⟩ = some (.int .i64 x) := h0
  have HR : Hid (orI x y = if x = 0 then y else x) := Lib.hid rfl
  generalize orI x y = r at HR ⊢
  by_cases hx : x = 0
  · rw [if_pos hx] at HR
    by_cases hy : y = 0
    · go_enter Tryz.func117, Tryz.ntmps117
      go_wp2_with fail
      refine wp_loop_rounds 3 ?_
      rw [rounds_succ]
      go_wp2_with fail
      rw [rounds_succ]
      go_wp2_with fail
      rw [rounds_succ]
      go_wp2_with fail
      go_ret
      exact ⟨by rw [HR.out, hy]; rfl, rfl⟩
    · go_enter Tryz.func117, Tryz.ntmps117
      go_wp2_with fail
      refine wp_loop_rounds 2 ?_
      rw [rounds_succ]
      go_wp2_with fail
      rw [rounds_succ]
      go_wp2_with fail
      go_ret
      exact ⟨by rw [HR.out]; rfl, rfl⟩
  · rw [if_neg hx] at HR
    go_enter Tryz.func117, Tryz.ntmps117
    go_wp2_with fail
    refine wp_loop_rounds 1 ?_
    rw [rounds_succ]
    go_wp2_with fail
    go_ret
    exact ⟨by rw [HR.out]; rfl, rfl⟩

theorem grow3 (W : World) (n : Nat) (a b c : Obj) : (((W.alloc a).alloc b).drewN n).alloc c = Go.Sort.grow (W.drewN n) #[a, b, c] := by
  rw [Go.Sort.alloc_eq_grow, Go.Sort.alloc_eq_grow, Go.Sort.alloc_eq_grow]
  show Go.Sort.grow (Go.Sort.grow (Go.Sort.grow (W.drewN n) #[a]) #[b]) #[c] = _
  rw [Go.Sort.grow_grow, Go.Sort.grow_grow]
  rfl
set_option maxRecDepth 100000 in
set_option maxHeartbeats 1000000 in
/-- pick's comparison, at ballots: it lays blocks of its own alone. -/
theorem cmpB_any (x y : Found BallotV) (W : World) : Calls Tryz.prog 213 #[.agg (fbC x).toArray, .agg (fbC y).toArray] W fun e w' => e = .returned (.int .i64 (cmpF x y)) ∧ ∃ q os', w' = Go.Sort.grow (W.drewN q) os' := by
  have hci := fun W' => Tryz.cmp_Compare_int x.rank y.rank W'
  have hcs := fun W' => compareS_any x.dig y.dig W'
  have HR : Hid (cmpF x y = orI (Lib.compareInt x.rank y.rank) (cmpS x.dig y.dig)) := Lib.hid rfl
  generalize cmpF x y = r at HR ⊢
  have b1 := Blk.new W 234 (fbC x).toArray
  have b2 := Blk.new' (g := W.heap.size + 1) (W.alloc (.cells (fbC x).toArray 234)) 234 (fbC y).toArray (by simp)
  have b1 := b1.q (q_new (W.alloc (.cells (fbC x).toArray 234)) (fbC y).toArray 234)
  obtain ⟨W1, hW1⟩ : ∃ W1, W1 = (W.alloc (.cells (fbC x).toArray 234)).alloc (.cells (fbC y).toArray 234) := ⟨_, rfl⟩
  rw [← hW1] at b1 b2
  have c0 : ∀ n, (W1.drewN n).cell? ⟨W.heap.size, 0, none⟩ = some (.int .i64 x.rank) := fun n => b1.cell 0
  have c1 : ∀ n, (W1.drewN n).cell? ⟨W.heap.size, 1, none⟩ = some (.string x.dig) := fun n => b1.cell 1
  have c2 : ∀ n, (W1.drewN n).cell? ⟨W.heap.size + 1, 0, none⟩ = some (.int .i64 y.rank) := fun n => b2.cell 0
  have c3 : ∀ n, (W1.drewN n).cell? ⟨W.heap.size + 1, 1, none⟩ = some (.string y.dig) := fun n => b2.cell 1
  have HX := Lib.hid hW1
  clear hW1 b1 b2
  generalize Lib.compareInt x.rank y.rank = ri at *
  generalize cmpS x.dig y.dig = rs at *
  go_enter Tryz.func213, Tryz.ntmps213
  go_upto_region 1 with (fail)
  refine (show Code.wp _ _ _ _ W1 → Code.wp _ _ _ _ _ from fun h => by rw [HX.out] at h; exact h) ?_
  refine wp_region_open (C := fun w' => ∃ n, w' = W1.drewN n) 10 (by kernel_rfl) (by kernel_rfl) ⟨1, rfl⟩ ?_
  simp only [List.take_succ_cons, List.take_zero]
  repeat (quiet_step (first | (go_at_call 118; exact Calls.quiet_of_same (hci _)) | (go_at_call 119; exact Calls.quiet_of_same (hcs _))))
  refine wpQuiet_nil ?_
  rintro w' ⟨n, rfl⟩
  have hb := Blk.new (W1.drewN n) 3 #[.int .i64 ri, .int .i64 rs]
  have hor := or_any (W1.drewN n).heap.size 0 2 ri rs _ (hb.cell 0) (hb.cell 1)
  have HE : Hid (∃ q os', (W1.drewN n).alloc (.cells #[.int .i64 ri, .int .i64 rs] 3) = Go.Sort.grow (W.drewN q) os') := Lib.hid ⟨n, _, by rw [HX.out]; exact grow3 W n _ _ _⟩
  clear hb
  refine any_one 10 rfl (by kernel_rfl) rfl (fun K' hK' => ?_)
  go_simp
  refine hK' _ _ ?_
  clear hK' K'
  try simp only [Act.put, List.setIfInBounds_toArray, List.set_cons_succ, List.set_cons_zero]
  refine any_one 11 rfl (by kernel_rfl) rfl (fun K' hK' => ?_)
  go_simp
  refine hor.mono ?_
  rintro e w2 ⟨rfl, rfl⟩
  refine hK' _ _ ?_
  clear hK' K' hor
  try simp only [Act.put, List.setIfInBounds_toArray, List.set_cons_succ, List.set_cons_zero]
  rw [← HR.out]
  refine any_pure 12 (v := .int .i64 r) rfl (by kernel_rfl) (by kernel_rfl) (by kernel_rfl) (by intro c d v a w h; cases d <;> exact h) rfl (fun w => by rfl) ?_
  try simp only [Act.put, List.setIfInBounds_toArray, List.set_cons_succ, List.set_cons_zero]
  refine any_done (by kernel_rfl) ?_ _
  go_wp2_with fail
  go_ret
  exact ⟨rfl, HE.out⟩

end Go.Proofs.YtflgkplneekpfaaGreatDoor.Known

namespace Go.Proofs.YtflgkplneekpfaaGreatDoor.Known
open Go.RowKit Grp Mem _root_.Go.Proofs.YtflgkplneekpfaaGreatDoor.Code Sha Sign _root_.Go.Proofs.YtflgkplneekpfaaGreatDoor.Item

/-! ### Rows as the shelf's sort knows them -/
set_option maxRecDepth 100000 in
set_option maxHeartbeats 1000000 in
theorem stableB_nil (w : World) :
    Calls Tryz.prog 212 #[.slice none 0 0, .func (.func 213) #[] #[]] w fun e w' => e = .returned (.tuple #[]) ∧ w' = w := by
  have hins : Calls Tryz.prog 265 #[.slice none 0 0, .int .i64 0, .int .i64 0, .func (.func 213) #[] #[]] w fun e w' => e = .returned (.tuple #[]) ∧ w' = w := by
    go_enter Tryz.func265, Tryz.ntmps265
    go_wp2_with fail
    refine wp_loop_rounds 1 ?_
    rw [rounds_succ]
    go_wp2_with fail
    go_end0
    exact ⟨rfl, rfl⟩
  have hst : Calls Tryz.prog 241 #[.slice none 0 0, .int .i64 0, .func (.func 213) #[] #[]] w fun e w' => e = .returned (.tuple #[]) ∧ w' = w := by
    go_enter Tryz.func241, Tryz.ntmps241
    go_wp2_with fail
    refine wp_loop_rounds 1 ?_
    rw [rounds_succ]
    go_wp2_with (go_at_call 265; refine hins.mono ?_; rintro e w' ⟨rfl, hw⟩; rw [hw])
    refine wp_loop_rounds 1 ?_
    rw [rounds_succ]
    go_wp2_with fail
    go_end0
    exact ⟨rfl, rfl⟩
  go_enter Tryz.func212, Tryz.ntmps212
  go_wp2_with (go_at_call 241; refine hst.mono ?_; rintro e w' ⟨rfl, hw⟩; rw [hw])
  go_end0
  exact ⟨rfl, rfl⟩
end Go.Proofs.YtflgkplneekpfaaGreatDoor.Known

namespace Go.Proofs.YtflgkplneekpfaaGreatDoor.Known
open Go.RowKit Grp Mem _root_.Go.Proofs.YtflgkplneekpfaaGreatDoor.Code Sha Sign _root_.Go.Proofs.YtflgkplneekpfaaGreatDoor.Item

theorem results_row_tmp2 {P : Program} {fn : Func} {p u r : Tmp} {ty : TypeId} (h : fn.results = #[.cell p ty, .tmp u, .tmp r]) (tmps : Array Value) (w : World) (g : Nat) (t : TypeId) (cs : Array Value) (fr : Nat × Nat) (d : TypeDesc) (v v2 : Value)
    (hp : tmps.getD p undef = .pointer (some ⟨g, 0, none⟩)) (hv : tmps.getD u undef = v) (hv2 : tmps.getD r undef = v2) (hg : w.heap[g]? = some (.cells cs t fr))
    (hu : P.underlying ty = some d) (hd : (match d with | .struct _ | .array _ _ => true | _ => false) = true) (hi : (P.info? ty).map (·.size) = some cs.size) :
    (results fn tmps).run P w = .ok (.tuple #[.agg cs, v, v2]) w := by
  have hp' : tmps[p]?.getD undef = .pointer (some ⟨g, 0, none⟩) := by simpa using hp
  have hv' : tmps[u]?.getD undef = v := by simpa using hv
  have hv2' : tmps[r]?.getD undef = v2 := by simpa using hv2
  simp [results, h, hp', hv', hv2', asAddr, run_loadVar_row w g t ty cs fr d hg hu hd hi]

/-- Does an item bear a ballot for an actor and a generation? -/
def wantB (actor : ByteArray) (gen : Int) (x : ItemR) : Bool := decide (x.kind = 2) && (decide (x.ballot.actor = actor) && decide (x.ballot.gen = gen))

/-- The worlds of the closure's last region. -/
structure WantF (w : World) (x : ItemR) (w' : World) : Prop where
  q : Q w w'
  it : Blk w' w.heap.size 50 x.cells.toArray
  b : Blk w' (w.heap.size + 1 + 1) 46 x.ballot.cells.toArray
  r : ∃ cs : List Value, cs.length = 7 ∧ Blk w' (w.heap.size + 1) 46 cs.toArray
structure WantW (w0 : World) (x : ItemR) where
  w : World
  f : WantF w0 x w
theorem wpQuiet_load_S {P : Program} {C : World → Prop} {ops : Array Oper} {rest : List Oper} {o : Oper} {a : Act} {K : Act → Prop} (ty : TypeId) (y : Operand) (p v : Value) (ho : o.op = .load ty y) (hw : Region.wanted o (yielded ops a.tmps) = true)
    (hy : a.eval y = p) (hr : ∀ w, C w → (Instr.loadAt ty p).run P w = .ok v w) (h : wpQuiet P ops C K rest (a.put o.dst v)) : wpQuiet P ops C K (o :: rest) a := by
  unfold wpQuiet
  rw [if_pos hw]
  refine ⟨v, fun w hC => ?_, h⟩
  unfold Oper.quietAt execOp
  simp only [ho, hy, Sem.run_bind, hr w hC, Result.andThen_ok, Sem.run_pure, Oper.quietUpon]
  exact ⟨trivial, trivial⟩

set_option maxRecDepth 100000 in
set_option maxHeartbeats 2000000 in
theorem wantB_any (p1 p2 : Nat) (actor : ByteArray) (gen : Int) (x : ItemR) (w : World) (h1 : w.cell? ⟨p1, 0, none⟩ = some (.string actor)) (hp1 : p1 < w.heap.size) (h2 : w.cell? ⟨p2, 0, none⟩ = some (.int .i64 gen)) (hp2 : p2 < w.heap.size) :
    Calls Tryz.prog 164 #[.agg (itA x), .pointer (some ⟨p1, 0, none⟩), .pointer (some ⟨p2, 0, none⟩)] w fun e w' => e = .returned (.tuple #[.agg (ballotA x.ballot), .int .i64 0, .bool (wantB actor gen x)]) ∧ Q w w' := by
  have hbi := Blk.new w 50 (itA x)
  have hq1 := q_new w (itA x) 50
  have hbr := Blk.new' (g := w.heap.size + 1) (w.alloc (.cells (itA x) 50)) 46 (ballotA ballot0) (by simp)
  have hq2 := q_new (w.alloc (.cells (itA x) 50)) (ballotA ballot0) 46
  have hbi := hbi.q hq2
  have hq := Q.trans hq1 hq2
  clear hq1 hq2
  obtain ⟨w2, hw2⟩ : ∃ w2, w2 = (w.alloc (.cells (itA x) 50)).alloc (.cells (ballotA ballot0) 46) := ⟨_, rfl⟩
  rw [← hw2] at hbi hbr hq
  have hw2s : w2.heap.size = w.heap.size + 1 + 1 := by rw [hw2]; simp
  have hLd : ∀ y : Wd w2, (Instr.loadAt 46 (.pointer (some ⟨w.heap.size, 30, none⟩))).run Tryz.prog y.w = .ok (.agg (ballotA x.ballot)) y.w := item_ballot hbi.lt (Blk.range hbi)
  have HX := Lib.hid hw2
  clear hw2
  have hbb := Blk.new' (g := w.heap.size + 1 + 1) w2 46 ballot0.cells.toArray hw2s.symm
  go_enter Tryz.func164, Tryz.ntmps164
  go_upto_region 1 with (fail)
  refine (show Code.wp _ _ _ _ w2 → Code.wp _ _ _ _ _ from fun h => by rw [HX.out] at h; exact h) ?_
  go_wp2_with (first | (refine wpList_load_run 46 (.tmp 8) (.pointer (some ⟨w.heap.size, 30, none⟩)) (.agg (ballotA x.ballot)) ?_ ?_ ?_ ?_ ?_; rfl; rfl; rfl; exact hLd ⟨_, Q.refl _⟩) | (refine wpList_store_blk hbb rfl 46 (.tmp 7) (.tmp 9) x.ballot.cells rfl rfl rfl (by kernel_rfl) (ballot_all _) (Nat.le_refl 7) ?_))
  intro W hW hbel
  rw [splice_all _ _ (by rfl)] at hW
  have hqW2 : Q w2 W := hbel _ _ (by omega) (q_new _ _ _)
  have hF : WantF w x W := ⟨Q.trans hq hqW2, hbi.q hqW2, hW, ballot0.cells, rfl, hbr.q hqW2⟩
  clear hW hbel hqW2 hbb hLd hbr hq HX hw2s
  have hFd : ∃ y : WantW w x, ({ W with drawn := W.drawn + 1 } : World) = y.w := ⟨⟨_, ⟨hF.q.drew, hF.it, hF.b, hF.r⟩⟩, rfl⟩
  have cK : ∀ y : WantW w x, y.w.cell? ⟨w.heap.size, 0, none⟩ = some (.int .i64 x.kind) := fun y => y.f.it.cell 0
  have cA : ∀ y : WantW w x, y.w.cell? ⟨w.heap.size + 1 + 1, 1, none⟩ = some (.string x.ballot.actor) := fun y => y.f.b.cell 1
  have cG : ∀ y : WantW w x, y.w.cell? ⟨w.heap.size + 1 + 1, 2, none⟩ = some (.int .i64 x.ballot.gen) := fun y => y.f.b.cell 2
  have c1 : ∀ y : WantW w x, y.w.cell? ⟨p1, 0, none⟩ = some (.string actor) := fun y => (y.f.q.cell (p := ⟨p1, 0, none⟩) hp1).trans h1
  have c2 : ∀ y : WantW w x, y.w.cell? ⟨p2, 0, none⟩ = some (.int .i64 gen) := fun y => (y.f.q.cell (p := ⟨p2, 0, none⟩) hp2).trans h2
  have hLb : ∀ z, (∃ y : WantW w x, z = y.w) → (Instr.loadAt 46 (.pointer (some ⟨w.heap.size + 1 + 1, 0, none⟩))).run Tryz.prog z = .ok (.agg (ballotA x.ballot)) z := by
    rintro z ⟨y, rfl⟩
    exact Wd.load (P := Tryz.prog) (w0 := y.w) y.f.b.lt (Blk.range y.f.b) Tryz.underlying46 rfl (by kernel_rfl) ⟨y.w, Q.refl _⟩
  have HR : Hid (wantB actor gen x = (decide (x.kind = 2) && (decide (x.ballot.actor = actor) && decide (x.ballot.gen = gen)))) := Lib.hid rfl
  have HF := Lib.hid hF
  haveI hNE : Nonempty (WantW w x) := ⟨⟨W, hF⟩⟩
  clear hF h1 h2 hbi
  by_cases hk : x.kind = 2
  · rw [decide_eq_true hk, Bool.true_and] at HR
    by_cases ha : x.ballot.actor = actor
    · rw [decide_eq_true ha, Bool.true_and] at HR
      go_wp2_with fail
      refine wp_region_reads (S := fun w' => ∃ y : WantW w x, w' = y.w) 16 (by kernel_rfl) (by kernel_rfl) (by intro c a d v w h; cases d <;> exact h) hFd ?_
      simp only [List.take_succ_cons, List.take_zero]
      refine wpQuiet_load_S 46 (.tmp 7) (.pointer (some ⟨w.heap.size + 1 + 1, 0, none⟩)) (.agg (ballotA x.ballot)) rfl rfl rfl hLb ?_
      dsimp only [Act.put]
      simp only [List.setIfInBounds_toArray, List.set_cons_succ, List.set_cons_zero]
      repeat (go_big_quiet_step (fail))
      refine wpQuiet_nil ?_
      rintro w' ⟨y, rfl⟩
      obtain ⟨cs, hcs, hbr⟩ := y.f.r
      refine held_one 16 rfl (by kernel_rfl) rfl (fun K' hK' => ?_)
      refine wp_store_mid 46 (.tmp 4) (.tmp 10) rfl (w.heap.size + 1) 0 (ballotA x.ballot) rfl rfl (show y.w.there (w.heap.size + 1) 0 7 by simpa using hbr.there (n := 7) (Nat.le_of_eq hcs.symm)) (by kernel_rfl) (ballot_all _) ?_
      have hsc : Blk (y.w.setCells (w.heap.size + 1) 0 x.ballot.cells) (w.heap.size + 1) 46 x.ballot.cells.toArray := by
        have := Blk.setCells x.ballot.cells 0 _ y.w hbr (Nat.le_of_eq (by rw [hcs]; rfl))
        rwa [splice_all _ _ (by rw [hcs]; rfl)] at this
      have hfar := fun b (hne : b ≠ w.heap.size + 1) => setCells_far (g := w.heap.size + 1) hne x.ballot.cells 0 y.w
      have hqs : Q w (y.w.setCells (w.heap.size + 1) 0 x.ballot.cells) := below_setCells (Nat.le_succ _) x.ballot.cells 0 w y.w y.f.q
      have hFN : WantF w x (y.w.setCells (w.heap.size + 1) 0 x.ballot.cells) := ⟨hqs, (hfar _ (by omega)).trans y.f.it, (hfar _ (by omega)).trans y.f.b, x.ballot.cells, rfl, hsc⟩
      refine hK' _ _ ⟨⟨_, hFN⟩, rfl⟩ ?_
      clear hK' K' hbr hfar
      have HZ := Lib.hid hsc
      have HQ := Lib.hid hqs
      clear hsc hqs
      simp only [Act.put, List.setIfInBounds_toArray, List.set_cons_succ, List.set_cons_zero]
      refine held_pure 17 (v := .int .i64 0) rfl (by kernel_rfl) (by kernel_rfl) (by kernel_rfl) (by intro c a d v w h; cases d <;> exact h) rfl ⟨⟨_, hFN⟩, rfl⟩ (fun w => by rfl) ?_
      simp only [Act.put, List.setIfInBounds_toArray, List.set_cons_succ, List.set_cons_zero]
      refine held_pure 18 (v := .bool (x.ballot.gen == gen)) rfl (by kernel_rfl) (by kernel_rfl) (by kernel_rfl) (by intro c a d v w h; cases d <;> exact h) rfl ⟨⟨_, hFN⟩, rfl⟩ (fun w => by rfl) ?_
      simp only [Act.put, List.setIfInBounds_toArray, List.set_cons_succ, List.set_cons_zero]
      refine wpAnyH_done (by kernel_rfl) ?_ _
      go_wp2_with fail
      exact bodyPost_ret (results_row_tmp2 rfl _ _ (w.heap.size + 1) 46 (ballotA x.ballot) (0, 0) _ _ _ rfl rfl rfl HZ.out Tryz.underlying46 rfl (by kernel_rfl)) rfl ⟨by rw [HR.out, ← beq_int]; rfl, HQ.out⟩
    · rw [decide_eq_false ha, Bool.false_and] at HR
      have hab : (x.ballot.actor.toList == actor.toList) = false := by rw [beq_str, decide_eq_false ha]
      go_wp2_with fail
      refine wp_region_reads (S := fun w' => ∃ y : WantW w x, w' = y.w) 16 (by kernel_rfl) (by kernel_rfl) (by intro c a d v w h; cases d <;> exact h) hFd ?_
      simp only [List.take_succ_cons, List.take_zero]
      refine wpQuiet_load_S 46 (.tmp 7) (.pointer (some ⟨w.heap.size + 1 + 1, 0, none⟩)) (.agg (ballotA x.ballot)) rfl rfl rfl hLb ?_
      dsimp only [Act.put]
      simp only [List.setIfInBounds_toArray, List.set_cons_succ, List.set_cons_zero]
      repeat (go_big_quiet_step (fail))
      refine wpQuiet_nil ?_
      rintro w' ⟨y, rfl⟩
      obtain ⟨cs, hcs, hbr⟩ := y.f.r
      refine held_one 16 rfl (by kernel_rfl) rfl (fun K' hK' => ?_)
      refine wp_store_mid 46 (.tmp 4) (.tmp 10) rfl (w.heap.size + 1) 0 (ballotA x.ballot) rfl rfl (show y.w.there (w.heap.size + 1) 0 7 by simpa using hbr.there (n := 7) (Nat.le_of_eq hcs.symm)) (by kernel_rfl) (ballot_all _) ?_
      have hsc : Blk (y.w.setCells (w.heap.size + 1) 0 x.ballot.cells) (w.heap.size + 1) 46 x.ballot.cells.toArray := by
        have := Blk.setCells x.ballot.cells 0 _ y.w hbr (Nat.le_of_eq (by rw [hcs]; rfl))
        rwa [splice_all _ _ (by rw [hcs]; rfl)] at this
      have hfar := fun b (hne : b ≠ w.heap.size + 1) => setCells_far (g := w.heap.size + 1) hne x.ballot.cells 0 y.w
      have hqs : Q w (y.w.setCells (w.heap.size + 1) 0 x.ballot.cells) := below_setCells (Nat.le_succ _) x.ballot.cells 0 w y.w y.f.q
      have hFN : WantF w x (y.w.setCells (w.heap.size + 1) 0 x.ballot.cells) := ⟨hqs, (hfar _ (by omega)).trans y.f.it, (hfar _ (by omega)).trans y.f.b, x.ballot.cells, rfl, hsc⟩
      refine hK' _ _ ⟨⟨_, hFN⟩, rfl⟩ ?_
      clear hK' K' hbr hfar
      have HZ := Lib.hid hsc
      have HQ := Lib.hid hqs
      clear hsc hqs
      simp only [Act.put, List.setIfInBounds_toArray, List.set_cons_succ, List.set_cons_zero]
      refine held_pure 17 (v := .int .i64 0) rfl (by kernel_rfl) (by kernel_rfl) (by kernel_rfl) (by intro c a d v w h; cases d <;> exact h) rfl ⟨⟨_, hFN⟩, rfl⟩ (fun w => by rfl) ?_
      simp only [Act.put, List.setIfInBounds_toArray, List.set_cons_succ, List.set_cons_zero]
      refine held_pure 18 (v := .bool false) rfl (by kernel_rfl) (by kernel_rfl) (by kernel_rfl) (by intro c a d v w h; cases d <;> exact h) rfl ⟨⟨_, hFN⟩, rfl⟩ (fun w => by rfl) ?_
      simp only [Act.put, List.setIfInBounds_toArray, List.set_cons_succ, List.set_cons_zero]
      refine wpAnyH_done (by kernel_rfl) ?_ _
      go_wp2_with fail
      exact bodyPost_ret (results_row_tmp2 rfl _ _ (w.heap.size + 1) 46 (ballotA x.ballot) (0, 0) _ _ _ rfl rfl rfl HZ.out Tryz.underlying46 rfl (by kernel_rfl)) rfl ⟨by rw [HR.out]; rfl, HQ.out⟩
  · rw [decide_eq_false hk, Bool.false_and] at HR
    have hkb : (x.kind == 2) = false := by simpa using hk
    go_wp2_with fail
    refine wp_region_reads (S := fun w' => ∃ y : WantW w x, w' = y.w) 16 (by kernel_rfl) (by kernel_rfl) (by intro c a d v w h; cases d <;> exact h) hFd ?_
    simp only [List.take_succ_cons, List.take_zero]
    refine wpQuiet_load_S 46 (.tmp 7) (.pointer (some ⟨w.heap.size + 1 + 1, 0, none⟩)) (.agg (ballotA x.ballot)) rfl rfl rfl hLb ?_
    dsimp only [Act.put]
    simp only [List.setIfInBounds_toArray, List.set_cons_succ, List.set_cons_zero]
    repeat (go_big_quiet_step (fail))
    refine wpQuiet_nil ?_
    rintro w' ⟨y, rfl⟩
    obtain ⟨cs, hcs, hbr⟩ := y.f.r
    refine held_one 16 rfl (by kernel_rfl) rfl (fun K' hK' => ?_)
    refine wp_store_mid 46 (.tmp 4) (.tmp 10) rfl (w.heap.size + 1) 0 (ballotA x.ballot) rfl rfl (show y.w.there (w.heap.size + 1) 0 7 by simpa using hbr.there (n := 7) (Nat.le_of_eq hcs.symm)) (by kernel_rfl) (ballot_all _) ?_
    have hsc : Blk (y.w.setCells (w.heap.size + 1) 0 x.ballot.cells) (w.heap.size + 1) 46 x.ballot.cells.toArray := by
      have := Blk.setCells x.ballot.cells 0 _ y.w hbr (Nat.le_of_eq (by rw [hcs]; rfl))
      rwa [splice_all _ _ (by rw [hcs]; rfl)] at this
    have hfar := fun b (hne : b ≠ w.heap.size + 1) => setCells_far (g := w.heap.size + 1) hne x.ballot.cells 0 y.w
    have hqs : Q w (y.w.setCells (w.heap.size + 1) 0 x.ballot.cells) := below_setCells (Nat.le_succ _) x.ballot.cells 0 w y.w y.f.q
    have hFN : WantF w x (y.w.setCells (w.heap.size + 1) 0 x.ballot.cells) := ⟨hqs, (hfar _ (by omega)).trans y.f.it, (hfar _ (by omega)).trans y.f.b, x.ballot.cells, rfl, hsc⟩
    refine hK' _ _ ⟨⟨_, hFN⟩, rfl⟩ ?_
    clear hK' K' hbr hfar
    have HZ := Lib.hid hsc
    have HQ := Lib.hid hqs
    clear hsc hqs
    simp only [Act.put, List.setIfInBounds_toArray, List.set_cons_succ, List.set_cons_zero]
    refine held_pure 17 (v := .int .i64 0) rfl (by kernel_rfl) (by kernel_rfl) (by kernel_rfl) (by intro c a d v w h; cases d <;> exact h) rfl ⟨⟨_, hFN⟩, rfl⟩ (fun w => by rfl) ?_
    simp only [Act.put, List.setIfInBounds_toArray, List.set_cons_succ, List.set_cons_zero]
    refine held_pure 18 (v := .bool false) rfl (by kernel_rfl) (by kernel_rfl) (by kernel_rfl) (by intro c a d v w h; cases d <;> exact h) rfl ⟨⟨_, hFN⟩, rfl⟩ (fun w => by rfl) ?_
    simp only [Act.put, List.setIfInBounds_toArray, List.set_cons_succ, List.set_cons_zero]
    refine wpAnyH_done (by kernel_rfl) ?_ _
    go_wp2_with fail
    exact bodyPost_ret (results_row_tmp2 rfl _ _ (w.heap.size + 1) 46 (ballotA x.ballot) (0, 0) _ _ _ rfl rfl rfl HZ.out Tryz.underlying46 rfl (by kernel_rfl)) rfl ⟨by rw [HR.out]; rfl, HQ.out⟩
end Go.Proofs.YtflgkplneekpfaaGreatDoor.Known

namespace Go.Proofs.YtflgkplneekpfaaGreatDoor.Known
open Go.RowKit Grp Mem _root_.Go.Proofs.YtflgkplneekpfaaGreatDoor.Code Sha Sign _root_.Go.Proofs.YtflgkplneekpfaaGreatDoor.Item

def foundB (x : ItemR) : Found BallotV := ⟨0, digOf x, x.ballot⟩
def takeB (actor : ByteArray) (gen : Int) (l : List ItemR) : List (Found BallotV) := (l.filter fun x => wantB actor gen x && itemRight x).map foundB
theorem takeB_step (actor : ByteArray) (gen : Int) (l : List ItemR) (j : Nat) (h : j < l.length) : takeB actor gen (l.take (j + 1)) = takeB actor gen (l.take j) ++ if wantB actor gen l[j] && itemRight l[j] then [foundB l[j]] else [] := by
  unfold takeB
  rw [List.take_succ_eq_append_getElem h, List.filter_append, List.map_append]
  congr 1
  cases hw : wantB actor gen l[j] && itemRight l[j] <;> simp [List.filter, hw]
theorem takeB_le (actor : ByteArray) (gen : Int) (l : List ItemR) (j : Nat) : (takeB actor gen (l.take j)).length ≤ j := by
  unfold takeB
  rw [List.length_map]
  refine Nat.le_trans (List.length_filter_le _ _) ?_
  rw [List.length_take]
  omega
theorem found_info : (Tryz.prog.info? 234).map (fun i => (i.zero, i.size, i.bytes)) = some (some (.agg (fbC default).toArray), 9, 96) := by kernel_rfl
theorem bal_info : (Tryz.prog.info? 46).map (fun i => (i.zero, i.size, i.bytes)) = some (some (.agg (ballotA ballot0)), 7, 72) := by kernel_rfl
theorem wpQuiet_build_run {P : Program} {C : World → Prop} {ops : Array Oper} {rest : List Oper} {o : Oper} {a : Act} {K : Act → Prop} (ty : TypeId) (parts : Array (Nat × Operand)) (vs : Array (Nat × Value)) (v : Value) (ho : o.op = .build ty parts) (hw : Region.wanted o (yielded ops a.tmps) = true)
    (hp : (parts.map fun x => (x.1, a.eval x.2)) = vs) (hr : ∀ w, (Instr.build ty vs).run P w = .ok v w) (h : wpQuiet P ops C K rest (a.put o.dst v)) : wpQuiet P ops C K (o :: rest) a := by
  unfold wpQuiet
  rw [if_pos hw]
  refine ⟨v, fun w hC => ?_, h⟩
  subst hp
  unfold Oper.quietAt execOp
  simp only [ho, Sem.run_bind, hr w, Result.andThen_ok, Sem.run_pure, Oper.quietUpon]
  exact ⟨trivial, trivial⟩
theorem fb_all (x : Found BallotV) : (fbC x).toArray.all (·.oneCell') = true := by
  rw [Array.all_eq_true_iff_forall_mem]
  intro v hv
  exact fb_one x v (by simpa using hv)
theorem build_found (d : ByteArray) (b : BallotV) (w : World) : (Instr.build 234 #[(0, .int .i64 0), (1, .string d), (2, .agg (ballotA b))]).run Tryz.prog w = .ok (.agg (fbC ⟨0, d, b⟩).toArray) w := by kernel_rfl
theorem bs_found (x : Found BallotV) (w : World) : (Instr.buildSlice 231 1 #[(0, .agg (fbC x).toArray)]).run Tryz.prog w = .ok (.slice (some ⟨w.heap.size, 0, none⟩) 1 1) (w.alloc (.cells (fbC x).toArray 234)) := by kernel_rfl
theorem bs_ballot (x : BallotV) (w : World) : (Instr.buildSlice 149 1 #[(0, .agg (ballotA x))]).run Tryz.prog w = .ok (.slice (some ⟨w.heap.size, 0, none⟩) 1 1) (w.alloc (.cells (ballotA x) 46)) := by kernel_rfl
theorem bal_len (x : BallotV) : x.cells.length = 7 := rfl
theorem bal_one (x : BallotV) : ∀ v ∈ x.cells, v.oneCell' = true := by
  have := ballot_all x
  rw [Array.all_eq_true_iff_forall_mem] at this
  intro v hv
  exact this v (by simpa using hv)

end Go.Proofs.YtflgkplneekpfaaGreatDoor.Known

namespace Go.Proofs.YtflgkplneekpfaaGreatDoor.Known
open Go.RowKit Grp Mem _root_.Go.Proofs.YtflgkplneekpfaaGreatDoor.Code Sha Sign _root_.Go.Proofs.YtflgkplneekpfaaGreatDoor.Item

end Go.Proofs.YtflgkplneekpfaaGreatDoor.Known

namespace Go.Proofs.YtflgkplneekpfaaGreatDoor.Sign
open Go.RowKit Grp Mem _root_.Go.Proofs.YtflgkplneekpfaaGreatDoor.Code Sha

theorem gpub (x : Int) (h : x ≤ 9223372036854775807) : 1 ≤ gexp 37 x ∧ gexp 37 x < 2305843009213693951 := by
  have h1 := gexp_bd 37 x
  have h2 := gexp_ne 37 x h (by decide)
  omega
abbrev aT : ByteArray := ⟨#[97]⟩
set_option maxRecDepth 100000
theorem f1 : seedKey aT = 361080046605472372 := by decide +kernel
theorem f2 : keyOf 361080046605472372 = (361080046605472372, 2287805972299522828) := by decide +kernel
end Go.Proofs.YtflgkplneekpfaaGreatDoor.Sign

namespace Go.Proofs.YtflgkplneekpfaaGreatDoor.Known
open Go.RowKit Grp Mem _root_.Go.Proofs.YtflgkplneekpfaaGreatDoor.Code Sha Sign _root_.Go.Proofs.YtflgkplneekpfaaGreatDoor.Item

theorem sm_dig : setDig [] [] = sha ⟨#[0, 0]⟩ := by
  unfold setDig
  congr 1
end Go.Proofs.YtflgkplneekpfaaGreatDoor.Known

namespace Go.Proofs.YtflgkplneekpfaaGreatDoor.Known
open Go.RowKit Grp Mem _root_.Go.Proofs.YtflgkplneekpfaaGreatDoor.Code Sha Sign _root_.Go.Proofs.YtflgkplneekpfaaGreatDoor.Item

end Go.Proofs.YtflgkplneekpfaaGreatDoor.Known

namespace Go.Proofs.YtflgkplneekpfaaGreatDoor.Known
open Go.RowKit Grp Mem _root_.Go.Proofs.YtflgkplneekpfaaGreatDoor.Code Sha Sign _root_.Go.Proofs.YtflgkplneekpfaaGreatDoor.Item

theorem ints_one (w : World) (n : Int) : Ints (w.alloc (.cells #[.int .i64 n] 3)) (some ⟨w.heap.size, 0, none⟩) [n] := ints_of (RowsAt.one (k := 1) (f := fun n : Int => [Value.int .i64 n]) w 3 n _ rfl)

end Go.Proofs.YtflgkplneekpfaaGreatDoor.Known

namespace Go.Proofs.YtflgkplneekpfaaGreatDoor.Known
open Go.RowKit Grp Mem _root_.Go.Proofs.YtflgkplneekpfaaGreatDoor.Code Sha Sign _root_.Go.Proofs.YtflgkplneekpfaaGreatDoor.Item

instance : Inhabited ClaimV := ⟨claim0⟩
abbrev fclC : Found ClaimV → List Value := Found.cells ClaimV.cells
theorem fcl_len (x : Found ClaimV) : (fclC x).length = 11 := rfl
theorem fcl_one (x : Found ClaimV) : ∀ v ∈ fclC x, v.oneCell' = true := by
  intro v hv
  simp only [fclC, Found.cells, ClaimV.cells, List.mem_cons, List.not_mem_nil, or_false] at hv
  rcases hv with rfl | rfl | rfl | rfl | rfl | rfl | rfl | rfl | rfl | rfl | rfl <;> rfl

set_option maxRecDepth 100000 in
set_option maxHeartbeats 1000000 in
/-- pick's comparison, at ballots: it lays blocks of its own alone. -/
theorem cmpCl_any (x y : Found ClaimV) (W : World) : Calls Tryz.prog 177 #[.agg (fclC x).toArray, .agg (fclC y).toArray] W fun e w' => e = .returned (.int .i64 (cmpF x y)) ∧ ∃ q os', w' = Go.Sort.grow (W.drewN q) os' := by
  have hci := fun W' => Tryz.cmp_Compare_int x.rank y.rank W'
  have hcs := fun W' => compareS_any x.dig y.dig W'
  have HR : Hid (cmpF x y = orI (Lib.compareInt x.rank y.rank) (cmpS x.dig y.dig)) := Lib.hid rfl
  generalize cmpF x y = r at HR ⊢
  have b1 := Blk.new W 208 (fclC x).toArray
  have b2 := Blk.new' (g := W.heap.size + 1) (W.alloc (.cells (fclC x).toArray 208)) 208 (fclC y).toArray (by simp)
  have b1 := b1.q (q_new (W.alloc (.cells (fclC x).toArray 208)) (fclC y).toArray 208)
  obtain ⟨W1, hW1⟩ : ∃ W1, W1 = (W.alloc (.cells (fclC x).toArray 208)).alloc (.cells (fclC y).toArray 208) := ⟨_, rfl⟩
  rw [← hW1] at b1 b2
  have c0 : ∀ n, (W1.drewN n).cell? ⟨W.heap.size, 0, none⟩ = some (.int .i64 x.rank) := fun n => b1.cell 0
  have c1 : ∀ n, (W1.drewN n).cell? ⟨W.heap.size, 1, none⟩ = some (.string x.dig) := fun n => b1.cell 1
  have c2 : ∀ n, (W1.drewN n).cell? ⟨W.heap.size + 1, 0, none⟩ = some (.int .i64 y.rank) := fun n => b2.cell 0
  have c3 : ∀ n, (W1.drewN n).cell? ⟨W.heap.size + 1, 1, none⟩ = some (.string y.dig) := fun n => b2.cell 1
  have HX := Lib.hid hW1
  clear hW1 b1 b2
  generalize Lib.compareInt x.rank y.rank = ri at *
  generalize cmpS x.dig y.dig = rs at *
  go_enter Tryz.func177, Tryz.ntmps177
  go_upto_region 1 with (fail)
  refine (show Code.wp _ _ _ _ W1 → Code.wp _ _ _ _ _ from fun h => by rw [HX.out] at h; exact h) ?_
  refine wp_region_open (C := fun w' => ∃ n, w' = W1.drewN n) 10 (by kernel_rfl) (by kernel_rfl) ⟨1, rfl⟩ ?_
  simp only [List.take_succ_cons, List.take_zero]
  repeat (quiet_step (first | (go_at_call 118; exact Calls.quiet_of_same (hci _)) | (go_at_call 119; exact Calls.quiet_of_same (hcs _))))
  refine wpQuiet_nil ?_
  rintro w' ⟨n, rfl⟩
  have hb := Blk.new (W1.drewN n) 3 #[.int .i64 ri, .int .i64 rs]
  have hor := or_any (W1.drewN n).heap.size 0 2 ri rs _ (hb.cell 0) (hb.cell 1)
  have HE : Hid (∃ q os', (W1.drewN n).alloc (.cells #[.int .i64 ri, .int .i64 rs] 3) = Go.Sort.grow (W.drewN q) os') := Lib.hid ⟨n, _, by rw [HX.out]; exact grow3 W n _ _ _⟩
  clear hb
  refine any_one 10 rfl (by kernel_rfl) rfl (fun K' hK' => ?_)
  go_simp
  refine hK' _ _ ?_
  clear hK' K'
  try simp only [Act.put, List.setIfInBounds_toArray, List.set_cons_succ, List.set_cons_zero]
  refine any_one 11 rfl (by kernel_rfl) rfl (fun K' hK' => ?_)
  go_simp
  refine hor.mono ?_
  rintro e w2 ⟨rfl, rfl⟩
  refine hK' _ _ ?_
  clear hK' K' hor
  try simp only [Act.put, List.setIfInBounds_toArray, List.set_cons_succ, List.set_cons_zero]
  rw [← HR.out]
  refine any_pure 12 (v := .int .i64 r) rfl (by kernel_rfl) (by kernel_rfl) (by kernel_rfl) (by intro c d v a w h; cases d <;> exact h) rfl (fun w => by rfl) ?_
  try simp only [Act.put, List.setIfInBounds_toArray, List.set_cons_succ, List.set_cons_zero]
  refine any_done (by kernel_rfl) ?_ _
  go_wp2_with fail
  go_ret
  exact ⟨rfl, HE.out⟩


set_option maxRecDepth 100000 in
set_option maxHeartbeats 1000000 in
theorem stableCl_nil (w : World) :
    Calls Tryz.prog 176 #[.slice none 0 0, .func (.func 177) #[] #[]] w fun e w' => e = .returned (.tuple #[]) ∧ w' = w := by
  have hins : Calls Tryz.prog 243 #[.slice none 0 0, .int .i64 0, .int .i64 0, .func (.func 177) #[] #[]] w fun e w' => e = .returned (.tuple #[]) ∧ w' = w := by
    go_enter Tryz.func243, Tryz.ntmps243
    go_wp2_with fail
    refine wp_loop_rounds 1 ?_
    rw [rounds_succ]
    go_wp2_with fail
    go_end0
    exact ⟨rfl, rfl⟩
  have hst : Calls Tryz.prog 219 #[.slice none 0 0, .int .i64 0, .func (.func 177) #[] #[]] w fun e w' => e = .returned (.tuple #[]) ∧ w' = w := by
    go_enter Tryz.func219, Tryz.ntmps219
    go_wp2_with fail
    refine wp_loop_rounds 1 ?_
    rw [rounds_succ]
    go_wp2_with (go_at_call 243; refine hins.mono ?_; rintro e w' ⟨rfl, hw⟩; rw [hw])
    refine wp_loop_rounds 1 ?_
    rw [rounds_succ]
    go_wp2_with fail
    go_end0
    exact ⟨rfl, rfl⟩
  go_enter Tryz.func176, Tryz.ntmps176
  go_wp2_with (go_at_call 219; refine hst.mono ?_; rintro e w' ⟨rfl, hw⟩; rw [hw])
  go_end0
  exact ⟨rfl, rfl⟩

/-- Is an item wanted? -/
def wantCl (key : ByteArray) (x : ItemR) : Bool := decide (x.kind = 1) && decide (x.claim.actor = key)
structure WantFCl (w : World) (x : ItemR) (w' : World) : Prop where
  q : Q w w'
  it : Blk w' w.heap.size 50 x.cells.toArray
  r : ∃ cs : List Value, cs.length = 9 ∧ Blk w' (w.heap.size + 1) 37 cs.toArray
structure WantWCl (w0 : World) (x : ItemR) where
  w : World
  f : WantFCl w0 x w
set_option maxRecDepth 100000 in
set_option maxHeartbeats 2000000 in
theorem wantCl_any (p1 : Nat) (key : ByteArray) (x : ItemR) (w : World) (h1 : w.cell? ⟨p1, 0, none⟩ = some (.string key)) (hp1 : p1 < w.heap.size) :
    Calls Tryz.prog 106 #[.agg (itA x), .pointer (some ⟨p1, 0, none⟩)] w fun e w' => e = .returned (.tuple #[.agg (claimA x.claim), .int .i64 0, .bool (wantCl key x)]) ∧ Q w w' := by
  have hbi := Blk.new w 50 (itA x)
  have hq1 := q_new w (itA x) 50
  have hbr := Blk.new' (g := w.heap.size + 1) (w.alloc (.cells (itA x) 50)) 37 (claimA claim0) (by simp)
  have hq2 := q_new (w.alloc (.cells (itA x) 50)) (claimA claim0) 37
  have hbi := hbi.q hq2
  have hq := Q.trans hq1 hq2
  clear hq1 hq2
  obtain ⟨w2, hw2⟩ : ∃ w2, w2 = (w.alloc (.cells (itA x) 50)).alloc (.cells (claimA claim0) 37) := ⟨_, rfl⟩
  rw [← hw2] at hbi hbr hq
  have hw2s : w2.heap.size = w.heap.size + 1 + 1 := by rw [hw2]; simp
  have hLd : ∀ y : Wd w2, (Instr.loadAt 37 (.pointer (some ⟨w.heap.size, 21, none⟩))).run Tryz.prog y.w = .ok (.agg (claimA x.claim)) y.w := item_claim hbi.lt (Blk.range hbi)
  have HX := Lib.hid hw2
  clear hw2
  go_enter Tryz.func106, Tryz.ntmps106
  go_upto_region 1 with (fail)
  refine (show Code.wp _ _ _ _ w2 → Code.wp _ _ _ _ _ from fun h => by rw [HX.out] at h; exact h) ?_
  have hF : WantFCl w x w2 := ⟨hq, hbi, claim0.cells, rfl, hbr⟩
  clear hbr hq HX hw2s hLd
  have hFd : ∃ y : WantWCl w x, ({ w2 with drawn := w2.drawn + 1 } : World) = y.w := ⟨⟨_, ⟨hF.q.drew, hF.it, hF.r⟩⟩, rfl⟩
  have cK : ∀ y : WantWCl w x, y.w.cell? ⟨w.heap.size, 0, none⟩ = some (.int .i64 x.kind) := fun y => y.f.it.cell 0
  have cA : ∀ y : WantWCl w x, y.w.cell? ⟨w.heap.size, 21, none⟩ = some (.string x.claim.actor) := fun y => y.f.it.cell 21
  have c1 : ∀ y : WantWCl w x, y.w.cell? ⟨p1, 0, none⟩ = some (.string key) := fun y => (y.f.q.cell (p := ⟨p1, 0, none⟩) hp1).trans h1
  have hLb : ∀ z, (∃ y : WantWCl w x, z = y.w) → (Instr.loadAt 37 (.pointer (some ⟨w.heap.size, 21, none⟩))).run Tryz.prog z = .ok (.agg (claimA x.claim)) z := by
    rintro z ⟨y, rfl⟩
    exact item_claim (w1 := y.w) y.f.it.lt (Blk.range y.f.it) ⟨y.w, Q.refl _⟩
  have HR : Hid (wantCl key x = (decide (x.kind = 1) && decide (x.claim.actor = key))) := Lib.hid rfl
  haveI hNE : Nonempty (WantWCl w x) := ⟨⟨w2, hF⟩⟩
  clear hF h1 hbi
  by_cases hk : x.kind = 1
  · rw [decide_eq_true hk, Bool.true_and] at HR
    refine wp_region_reads (S := fun w' => ∃ y : WantWCl w x, w' = y.w) 12 (by kernel_rfl) (by kernel_rfl) (by intro c a d v w h; cases d <;> exact h) hFd ?_
    simp only [List.take_succ_cons, List.take_zero]
    go_big_quiet_step (fail)
    refine wpQuiet_load_S 37 (.tmp 6) (.pointer (some ⟨w.heap.size, 21, none⟩)) (.agg (claimA x.claim)) rfl rfl rfl hLb ?_
    dsimp only [Act.put]
    simp only [List.setIfInBounds_toArray, List.set_cons_succ, List.set_cons_zero]
    repeat (go_big_quiet_step (fail))
    refine wpQuiet_nil ?_
    rintro w' ⟨y, rfl⟩
    obtain ⟨cs, hcs, hbr⟩ := y.f.r
    refine held_one 12 rfl (by kernel_rfl) rfl (fun K' hK' => ?_)
    refine wp_store_mid 37 (.tmp 3) (.tmp 7) rfl (w.heap.size + 1) 0 (claimA x.claim) rfl rfl (show y.w.there (w.heap.size + 1) 0 9 by simpa using hbr.there (n := 9) (Nat.le_of_eq hcs.symm)) (by kernel_rfl) (claim_all _) ?_
    have hsc : Blk (y.w.setCells (w.heap.size + 1) 0 x.claim.cells) (w.heap.size + 1) 37 x.claim.cells.toArray := by
      have := Blk.setCells x.claim.cells 0 _ y.w hbr (Nat.le_of_eq (by rw [hcs]; rfl))
      rwa [splice_all _ _ (by rw [hcs]; rfl)] at this
    have hfar := fun b (hne : b ≠ w.heap.size + 1) => setCells_far (g := w.heap.size + 1) hne x.claim.cells 0 y.w
    have hqs : Q w (y.w.setCells (w.heap.size + 1) 0 x.claim.cells) := below_setCells (Nat.le_succ _) x.claim.cells 0 w y.w y.f.q
    have hFN : WantFCl w x (y.w.setCells (w.heap.size + 1) 0 x.claim.cells) := ⟨hqs, (hfar _ (by omega)).trans y.f.it, x.claim.cells, rfl, hsc⟩
    refine hK' _ _ ⟨⟨_, hFN⟩, rfl⟩ ?_
    clear hK' K' hbr hfar
    have HZ := Lib.hid hsc
    have HQ := Lib.hid hqs
    clear hsc hqs
    simp only [Act.put, List.setIfInBounds_toArray, List.set_cons_succ, List.set_cons_zero]
    refine held_pure 13 (v := .int .i64 0) rfl (by kernel_rfl) (by kernel_rfl) (by kernel_rfl) (by intro c a d v w h; cases d <;> exact h) rfl ⟨⟨_, hFN⟩, rfl⟩ (fun w => by rfl) ?_
    simp only [Act.put, List.setIfInBounds_toArray, List.set_cons_succ, List.set_cons_zero]
    refine held_pure 14 (v := .bool (x.claim.actor.toList == key.toList)) rfl (by kernel_rfl) (by kernel_rfl) (by kernel_rfl) (by intro c a d v w h; cases d <;> exact h) rfl ⟨⟨_, hFN⟩, rfl⟩ (fun w => by rfl) ?_
    simp only [Act.put, List.setIfInBounds_toArray, List.set_cons_succ, List.set_cons_zero]
    refine wpAnyH_done (by kernel_rfl) ?_ _
    go_wp2_with fail
    exact bodyPost_ret (results_row_tmp2 rfl _ _ (w.heap.size + 1) 37 (claimA x.claim) (0, 0) _ _ _ rfl rfl rfl HZ.out Tryz.underlying37 rfl (by kernel_rfl)) rfl ⟨by rw [HR.out, ← beq_str]; rfl, HQ.out⟩
  · rw [decide_eq_false hk, Bool.false_and] at HR
    have hkb : (x.kind == 1) = false := by simpa using hk
    refine wp_region_reads (S := fun w' => ∃ y : WantWCl w x, w' = y.w) 12 (by kernel_rfl) (by kernel_rfl) (by intro c a d v w h; cases d <;> exact h) hFd ?_
    simp only [List.take_succ_cons, List.take_zero]
    go_big_quiet_step (fail)
    refine wpQuiet_load_S 37 (.tmp 6) (.pointer (some ⟨w.heap.size, 21, none⟩)) (.agg (claimA x.claim)) rfl rfl rfl hLb ?_
    dsimp only [Act.put]
    simp only [List.setIfInBounds_toArray, List.set_cons_succ, List.set_cons_zero]
    repeat (go_big_quiet_step (fail))
    refine wpQuiet_nil ?_
    rintro w' ⟨y, rfl⟩
    obtain ⟨cs, hcs, hbr⟩ := y.f.r
    refine held_one 12 rfl (by kernel_rfl) rfl (fun K' hK' => ?_)
    refine wp_store_mid 37 (.tmp 3) (.tmp 7) rfl (w.heap.size + 1) 0 (claimA x.claim) rfl rfl (show y.w.there (w.heap.size + 1) 0 9 by simpa using hbr.there (n := 9) (Nat.le_of_eq hcs.symm)) (by kernel_rfl) (claim_all _) ?_
    have hsc : Blk (y.w.setCells (w.heap.size + 1) 0 x.claim.cells) (w.heap.size + 1) 37 x.claim.cells.toArray := by
      have := Blk.setCells x.claim.cells 0 _ y.w hbr (Nat.le_of_eq (by rw [hcs]; rfl))
      rwa [splice_all _ _ (by rw [hcs]; rfl)] at this
    have hfar := fun b (hne : b ≠ w.heap.size + 1) => setCells_far (g := w.heap.size + 1) hne x.claim.cells 0 y.w
    have hqs : Q w (y.w.setCells (w.heap.size + 1) 0 x.claim.cells) := below_setCells (Nat.le_succ _) x.claim.cells 0 w y.w y.f.q
    have hFN : WantFCl w x (y.w.setCells (w.heap.size + 1) 0 x.claim.cells) := ⟨hqs, (hfar _ (by omega)).trans y.f.it, x.claim.cells, rfl, hsc⟩
    refine hK' _ _ ⟨⟨_, hFN⟩, rfl⟩ ?_
    clear hK' K' hbr hfar
    have HZ := Lib.hid hsc
    have HQ := Lib.hid hqs
    clear hsc hqs
    simp only [Act.put, List.setIfInBounds_toArray, List.set_cons_succ, List.set_cons_zero]
    refine held_pure 13 (v := .int .i64 0) rfl (by kernel_rfl) (by kernel_rfl) (by kernel_rfl) (by intro c a d v w h; cases d <;> exact h) rfl ⟨⟨_, hFN⟩, rfl⟩ (fun w => by rfl) ?_
    simp only [Act.put, List.setIfInBounds_toArray, List.set_cons_succ, List.set_cons_zero]
    refine held_pure 14 (v := .bool false) rfl (by kernel_rfl) (by kernel_rfl) (by kernel_rfl) (by intro c a d v w h; cases d <;> exact h) rfl ⟨⟨_, hFN⟩, rfl⟩ (fun w => by rfl) ?_
    simp only [Act.put, List.setIfInBounds_toArray, List.set_cons_succ, List.set_cons_zero]
    refine wpAnyH_done (by kernel_rfl) ?_ _
    go_wp2_with fail
    exact bodyPost_ret (results_row_tmp2 rfl _ _ (w.heap.size + 1) 37 (claimA x.claim) (0, 0) _ _ _ rfl rfl rfl HZ.out Tryz.underlying37 rfl (by kernel_rfl)) rfl ⟨by rw [HR.out]; rfl, HQ.out⟩

def foundCl (x : ItemR) : Found ClaimV := ⟨0, digOf x, x.claim⟩
def takeCl (key : ByteArray) (l : List ItemR) : List (Found ClaimV) := (l.filter fun x => wantCl key x && itemRight x).map foundCl
theorem takeCl_step (key : ByteArray) (l : List ItemR) (j : Nat) (h : j < l.length) : takeCl key (l.take (j + 1)) = takeCl key (l.take j) ++ if wantCl key l[j] && itemRight l[j] then [foundCl l[j]] else [] := by
  unfold takeCl
  rw [List.take_succ_eq_append_getElem h, List.filter_append, List.map_append]
  congr 1
  cases hw : wantCl key l[j] && itemRight l[j] <;> simp [List.filter, hw]
theorem takeCl_le (key : ByteArray) (l : List ItemR) (j : Nat) : (takeCl key (l.take j)).length ≤ j := by
  unfold takeCl
  rw [List.length_map]
  refine Nat.le_trans (List.length_filter_le _ _) ?_
  rw [List.length_take]
  omega
theorem foundCl_info : (Tryz.prog.info? 208).map (fun i => (i.zero, i.size, i.bytes)) = some (some (.agg (fclC default).toArray), 11, 112) := by kernel_rfl
theorem valCl_info : (Tryz.prog.info? 37).map (fun i => (i.zero, i.size, i.bytes)) = some (some (.agg (claimA claim0)), 9, 88) := by kernel_rfl
theorem fcl_all (x : Found ClaimV) : (fclC x).toArray.all (·.oneCell') = true := by
  rw [Array.all_eq_true_iff_forall_mem]
  intro v hv
  exact fcl_one x v (by simpa using hv)
theorem buildCl_found (n : Int) (d : ByteArray) (b : ClaimV) (w : World) : (Instr.build 208 #[(0, .int .i64 n), (1, .string d), (2, .agg (claimA b))]).run Tryz.prog w = .ok (.agg (fclC ⟨n, d, b⟩).toArray) w := by kernel_rfl
theorem bsCl_found (x : Found ClaimV) (w : World) : (Instr.buildSlice 205 1 #[(0, .agg (fclC x).toArray)]).run Tryz.prog w = .ok (.slice (some ⟨w.heap.size, 0, none⟩) 1 1) (w.alloc (.cells (fclC x).toArray 208)) := by kernel_rfl
theorem bsCl_val (x : ClaimV) (w : World) : (Instr.buildSlice 22 1 #[(0, .agg (claimA x))]).run Tryz.prog w = .ok (.slice (some ⟨w.heap.size, 0, none⟩) 1 1) (w.alloc (.cells (claimA x) 37)) := by kernel_rfl
theorem valCl_len (x : ClaimV) : x.cells.length = 9 := rfl
theorem valCl_one (x : ClaimV) : ∀ v ∈ x.cells, v.oneCell' = true := by
  have := claim_all x
  rw [Array.all_eq_true_iff_forall_mem] at this
  intro v hv
  exact this v (by simpa using hv)

/-- What hands back a list of ballots. -/
def ListClAre (l : List ClaimV) (w : World) (e : Ending) (w' : World) : Prop := ∃ (A : Option Addr) (c : Nat), e = .returned (.slice A l.length c) ∧ l.length ≤ c ∧ c ≤ maxLen ∧ RowsAt w' A 9 ClaimV.cells l ∧ Q w w'
end Go.Proofs.YtflgkplneekpfaaGreatDoor.Known

namespace Go.Proofs.YtflgkplneekpfaaGreatDoor.Known
open Go.RowKit Grp Mem _root_.Go.Proofs.YtflgkplneekpfaaGreatDoor.Code Sha Sign _root_.Go.Proofs.YtflgkplneekpfaaGreatDoor.Item

theorem q_growd (W : World) (n : Nat) (os : Array Obj) : Q W (Go.Sort.grow (W.drewN n) os) := by
  refine ⟨rfl, rfl, rfl, ?_, fun i hi => ?_⟩
  · rw [Go.Sort.size_grow]
    exact Nat.le_add_right _ _
  · unfold Go.Sort.grow
    show (W.heap ++ os)[i]? = _
    rw [Array.getElem?_append_left hi]
/-- No element is less than one ahead of it. -/
def SortedF {α : Type} (l : List (Found α)) : Prop := ∀ i j (hi : i < l.length) (hj : j < l.length), i ≤ j → 0 ≤ cmpF l[j] l[i]
/-! ### Ballot -/
theorem cmpQB (x y : Found BallotV) (W : World) : Calls Tryz.prog 213 #[.agg (fbC x).toArray, .agg (fbC y).toArray] W fun e w' => e = .returned (.int .i64 (cmpF x y)) ∧ Q W w' :=
  (cmpB_any x y W).mono fun e w' ⟨h1, q, os, h2⟩ => ⟨h1, by rw [h2]; exact q_growd W q os⟩
theorem cmpEB : ∀ args w, (callFunc 213 args).run Tryz.prog w = .ok (.enter 213 args) w := fun args w => enter_run (fn := Tryz.f213) Tryz.func213 (by kernel_rfl) rfl args w
theorem foundLdB {g o : Nat} {l : List (Found BallotV)} {w : World} (hR : RowsAt w (some ⟨g, o, none⟩) 9 fbC l) (j : Nat) (hj : j < l.length) : ∀ y : Wd w, (Instr.loadAt 234 (.pointer (some ⟨g, o + j * 9, none⟩))).run Tryz.prog y.w = .ok (.agg (fbC l[j]).toArray) y.w := by
  obtain ⟨b, o2, e, hb, hc⟩ := hR (by omega)
  injection e with e
  injection e with e1 e2
  subst e1
  subst e2
  exact Wd.load hb (hc j hj) Tryz.underlying234 rfl (by kernel_rfl)
set_option maxRecDepth 100000 in
set_option maxHeartbeats 4000000 in
theorem insSB (g o cap : Nat) (l : List (Found BallotV)) (hs : SortedF l) (hn : l.length ≤ 1000) (a m : Nat) (w : World) (hR : RowsAt w (some ⟨g, o, none⟩) 9 fbC l) (hm : m ≤ l.length) (ham : a ≤ 1000) :
    Calls Tryz.prog 265 #[.slice (some ⟨g, o, none⟩) l.length cap, .int .i64 (a : Int), .int .i64 (m : Int), .func (.func 213) #[] #[]] w fun e w' => e = .returned (.tuple #[]) ∧ Q w w' := by
  obtain ⟨x, hx⟩ := Wd.first w
  have hLd := foundLdB hR
  have hC := fun (p q : Found BallotV) (y : Wd w) => cmpQB p q y.w
  have eg := cmpEB
  refine (show Calls Tryz.prog 265 #[.slice (some ⟨g, o, none⟩) l.length cap, .int .i64 (a : Int), .int .i64 (m : Int), .func (.func 213) #[] #[]] x.w (fun e w' => e = .returned (.tuple #[]) ∧ Q w w') → _ from fun h => by rwa [← hx] at h) ?_
  clear hx hR
  go_enter Tryz.func265, Tryz.ntmps265
  go_wp2_with fail
  go_loopw [8] (fun i wr => ∃ (p : Nat) (z : Wd w), i = .int .i64 ((p : Int) + 1) ∧ wr = z.w ∧ a ≤ p ∧ p ≤ 1000) (fun i _ => m - (intOf i).toNat)
  case atStart => exact ⟨a, x, rfl, rfl, Nat.le_refl _, ham⟩
  case round =>
    obtain ⟨p, z, rfl, rfl, hap, hp⟩ := hrel
    by_cases hlt : p + 1 < m
    · have hlI : (p : Int) + 1 < (m : Int) := by omega
      have hp1 : p + 1 < l.length := by omega
      have hpI : (p : Int) + 1 < (l.length : Int) := by omega
      have hpJ : (p : Int) < (l.length : Int) := by omega
      have haI : (a : Int) < (p : Int) + 1 := by omega
      have hl1 := hLd (p + 1) hp1
      have hl2 := hLd p (by omega)
      have hcmp := hC l[p + 1] l[p]
      have hge := hs p (p + 1) (by omega) hp1 (by omega)
      generalize cmpF l[p + 1] l[p] = cv at *
      generalize l[p + 1] = e1 at *
      generalize l[p] = e2 at *
      have htn : ((p : Int) + 1).toNat = p + 1 := by omega
      have hcv : ¬ cv < 0 := by omega
      clear hs hC hLd hge
      go_wp2_with fail
      refine wp_loop_rounds 1 ?_
      rw [rounds_succ]
      go_upto_region 4 with (fail)
      refine wp_region_wd z (by kernel_rfl) (by kernel_rfl) ?_
      repeat (first | (refine wpQuiet_load_run 234 (.tmp 25) (.pointer (some ⟨g, o + (p + 1) * 9, none⟩)) (.agg (fbC e1).toArray) ?_ ?_ ?_ ?_ ?_; rfl; rfl; rfl; exact hl1; dsimp only [Act.put]; simp only [List.setIfInBounds_toArray, List.set_cons_succ, List.set_cons_zero]) | (refine wpQuiet_load_run 234 (.tmp 30) (.pointer (some ⟨g, o + p * 9, none⟩)) (.agg (fbC e2).toArray) ?_ ?_ ?_ ?_ ?_; rfl; rfl; rfl; exact hl2; dsimp only [Act.put]; simp only [List.setIfInBounds_toArray, List.set_cons_succ, List.set_cons_zero]) | go_big_quiet_step ((go_at_fn 213; with_reducible exact Wd.call _ (hcmp _))))
      refine wpQuiet_nil ?_
      rintro w'' ⟨y, rfl⟩
      go_wp2_with fail
      exact ⟨⟨p + 1, y, by go_num, rfl, by omega, by omega⟩, by simp only [intOf]; omega⟩
    · have hlI : ¬ ((p : Int) + 1 < (m : Int)) := by omega
      go_wp2_with fail
      go_end0
      exact ⟨rfl, z.q⟩
set_option maxRecDepth 100000 in
set_option maxHeartbeats 8000000 in
theorem symAB (g o cap : Nat) (l : List (Found BallotV)) (hs : SortedF l) (hn : l.length ≤ 1000) (a m b : Nat) (w : World) (hR : RowsAt w (some ⟨g, o, none⟩) 9 fbC l) (hm1 : m = a + 1) (hmb : m < b) (hb : b ≤ l.length) :
    Calls Tryz.prog 266 #[.slice (some ⟨g, o, none⟩) l.length cap, .int .i64 (a : Int), .int .i64 (m : Int), .int .i64 (b : Int), .func (.func 213) #[] #[]] w fun e w' => e = .returned (.tuple #[]) ∧ Q w w' := by
  obtain ⟨x, hx⟩ := Wd.first w
  have hLd := foundLdB hR
  have hC := fun (p q : Found BallotV) (y : Wd w) => cmpQB p q y.w
  have eg := cmpEB
  refine (show Calls Tryz.prog 266 #[.slice (some ⟨g, o, none⟩) l.length cap, .int .i64 (a : Int), .int .i64 (m : Int), .int .i64 (b : Int), .func (.func 213) #[] #[]] x.w (fun e w' => e = .returned (.tuple #[]) ∧ Q w w') → _ from fun h => by rwa [← hx] at h) ?_
  clear hx hR
  have h1 : (m : Int) - (a : Int) = 1 := by omega
  have haN : ¬ ((a : Int) < (m : Int) - 1) := by omega
  have HM := Lib.hid hm1
  clear hm1
  go_enter Tryz.func266, Tryz.ntmps266
  go_wp2_with fail
  go_loopw [10, 11] (fun i j wr => ∃ (q : Nat) (z : Wd w), i = .int .i64 (m : Int) ∧ j = .int .i64 (q : Int) ∧ wr = z.w ∧ m ≤ q ∧ q ≤ b) (fun _ j _ => (intOf j).toNat - m)
  case atStart => exact ⟨b, x, rfl, rfl, rfl, by omega, Nat.le_refl _⟩
  case round =>
    obtain ⟨q, z, rfl, rfl, rfl, hmq, hqb⟩ := hrel
    by_cases hlt : m < q
    · have hlI : (m : Int) < (q : Int) := by omega
      obtain ⟨c, hc⟩ : ∃ c, (m + q) / 2 = c := ⟨_, rfl⟩
      have hcb : m ≤ c ∧ c < q := by omega
      have hcI : ((m : Int) + (q : Int)) / 2 = (c : Int) := by omega
      clear hc
      go_upto_region 5 with (fail)
      have hcl : c < l.length := by omega
      have hal : a < l.length := by have := HM.out; omega
      have hac : a ≤ c := by have := HM.out; omega
      have hclI : (c : Int) < (l.length : Int) := by omega
      have halI : (a : Int) < (l.length : Int) := by omega
      have hl1 := hLd c hcl
      have hl2 := hLd a hal
      have hcmp := hC l[c] l[a]
      have hge := hs a c hal hcl (by omega)
      generalize cmpF l[c] l[a] = cv at *
      generalize l[c] = e1 at *
      generalize l[a] = e2 at *
      have hcv : ¬ cv < 0 := by omega
      clear hs hC hLd hge hcI
      refine wp_region_wd z (by kernel_rfl) (by kernel_rfl) ?_
      repeat (first | (refine wpQuiet_load_run 234 (.tmp 43) (.pointer (some ⟨g, o + c * 9, none⟩)) (.agg (fbC e1).toArray) ?_ ?_ ?_ ?_ ?_; rfl; rfl; rfl; exact hl1; dsimp only [Act.put]; simp only [List.setIfInBounds_toArray, List.set_cons_succ, List.set_cons_zero]) | (refine wpQuiet_load_run 234 (.tmp 47) (.pointer (some ⟨g, o + a * 9, none⟩)) (.agg (fbC e2).toArray) ?_ ?_ ?_ ?_ ?_; rfl; rfl; rfl; exact hl2; dsimp only [Act.put]; simp only [List.setIfInBounds_toArray, List.set_cons_succ, List.set_cons_zero]) | go_big_quiet_step ((go_at_fn 213; with_reducible exact Wd.call _ (hcmp _))))
      refine wpQuiet_nil ?_
      rintro w'' ⟨y, rfl⟩
      go_wp2_with fail
      exact ⟨⟨c, y, rfl, rfl, rfl, by omega, by omega⟩, by simp only [intOf]; omega⟩
    · have hlI : ¬ ((m : Int) < (q : Int)) := by omega
      clear hs hC hLd
      go_wp2_with fail
      refine wp_loop_rounds 1 ?_
      rw [rounds_succ]
      go_wp2_with fail
      (try simp only [Exit.inBlock, Exit.then])
      refine bodyPost_ret (results_none rfl _ _ _) rfl ?_
      exact ⟨rfl, z.q⟩
set_option maxRecDepth 100000 in
set_option maxHeartbeats 8000000 in
theorem symBB (g o cap : Nat) (l : List (Found BallotV)) (hs : SortedF l) (hn : l.length ≤ 1000) (a m b : Nat) (w : World) (hR : RowsAt w (some ⟨g, o, none⟩) 9 fbC l) (hm1 : m ≠ a + 1) (ham : a < m) (hmb : b = m + 1) (hb : b ≤ l.length) :
    Calls Tryz.prog 266 #[.slice (some ⟨g, o, none⟩) l.length cap, .int .i64 (a : Int), .int .i64 (m : Int), .int .i64 (b : Int), .func (.func 213) #[] #[]] w fun e w' => e = .returned (.tuple #[]) ∧ Q w w' := by
  obtain ⟨x, hx⟩ := Wd.first w
  have hLd := foundLdB hR
  have hC := fun (p q : Found BallotV) (y : Wd w) => cmpQB p q y.w
  have eg := cmpEB
  refine (show Calls Tryz.prog 266 #[.slice (some ⟨g, o, none⟩) l.length cap, .int .i64 (a : Int), .int .i64 (m : Int), .int .i64 (b : Int), .func (.func 213) #[] #[]] x.w (fun e w' => e = .returned (.tuple #[]) ∧ Q w w') → _ from fun h => by rwa [← hx] at h) ?_
  clear hx hR
  have h1 : ¬ ((m : Int) - (a : Int) = 1) := by omega
  have h2 : (b : Int) - (m : Int) = 1 := by omega
  have HM := Lib.hid hmb
  have hml : m < l.length := by omega
  clear hm1 hmb
  go_enter Tryz.func266, Tryz.ntmps266
  go_wp2_with fail
  go_loopw [14, 15] (fun i j wr => ∃ (q : Nat) (z : Wd w), i = .int .i64 (q : Int) ∧ j = .int .i64 (m : Int) ∧ wr = z.w ∧ a ≤ q ∧ q ≤ m) (fun i _ _ => m - (intOf i).toNat)
  case atStart => exact ⟨a, x, rfl, rfl, rfl, Nat.le_refl _, by omega⟩
  case round =>
    obtain ⟨q, z, rfl, rfl, rfl, hmq, hqb⟩ := hrel
    by_cases hlt : q < m
    · have hlI : (q : Int) < (m : Int) := by omega
      obtain ⟨c, hc⟩ : ∃ c, (q + m) / 2 = c := ⟨_, rfl⟩
      have hcb : q ≤ c ∧ c < m := by omega
      have hcI : ((q : Int) + (m : Int)) / 2 = (c : Int) := by omega
      clear hc
      go_upto_region 17 with (fail)
      have hcl : c < l.length := by omega
      have hclI : (c : Int) < (l.length : Int) := by omega
      have hmlI : (m : Int) < (l.length : Int) := by omega
      have hl1 := hLd m hml
      have hl2 := hLd c hcl
      have hcmp := hC l[m] l[c]
      have hge := hs c m hcl hml (by omega)
      generalize cmpF l[m] l[c] = cv at *
      generalize l[m] = e1 at *
      generalize l[c] = e2 at *
      have hcv : ¬ cv < 0 := by omega
      clear hs hC hLd hge hcI
      refine wp_region_wd z (by kernel_rfl) (by kernel_rfl) ?_
      repeat (first | (refine wpQuiet_load_run 234 (.tmp 95) (.pointer (some ⟨g, o + m * 9, none⟩)) (.agg (fbC e1).toArray) ?_ ?_ ?_ ?_ ?_; rfl; rfl; rfl; exact hl1; dsimp only [Act.put]; simp only [List.setIfInBounds_toArray, List.set_cons_succ, List.set_cons_zero]) | (refine wpQuiet_load_run 234 (.tmp 99) (.pointer (some ⟨g, o + c * 9, none⟩)) (.agg (fbC e2).toArray) ?_ ?_ ?_ ?_ ?_; rfl; rfl; rfl; exact hl2; dsimp only [Act.put]; simp only [List.setIfInBounds_toArray, List.set_cons_succ, List.set_cons_zero]) | go_big_quiet_step ((go_at_fn 213; with_reducible exact Wd.call _ (hcmp _))))
      refine wpQuiet_nil ?_
      rintro w'' ⟨y, rfl⟩
      go_wp2_with fail
      exact ⟨⟨c + 1, y, by go_num, rfl, rfl, by omega, by omega⟩, by simp only [intOf]; omega⟩
    · have hqm : q = m := by omega
      clear hs hC hLd
      subst hqm
      go_wp2_with fail
      refine wp_loop_rounds 1 ?_
      rw [rounds_succ]
      go_wp2_with fail
      (try simp only [Exit.inBlock, Exit.then])
      refine bodyPost_ret (results_none rfl _ _ _) rfl ?_
      exact ⟨rfl, z.q⟩
set_option maxRecDepth 100000 in
set_option maxHeartbeats 8000000 in
theorem symCB (g o cap : Nat) (l : List (Found BallotV)) (hs : SortedF l) (hn : l.length ≤ 1000) (a m b d : Nat) (w : World) (hR : RowsAt w (some ⟨g, o, none⟩) 9 fbC l) (hm1 : m ≠ a + 1) (hm2 : b ≠ m + 1) (ham : a < m) (hmb : m < b) (hb : b ≤ l.length) (hd : (a + b) / 2 = d) (hmd : d < m)
    (ih : ∀ a' m' b' w', a' < m' → m' < b' → b' ≤ l.length → b' - a' < b - a → RowsAt w' (some ⟨g, o, none⟩) 9 fbC l → Calls Tryz.prog 266 #[.slice (some ⟨g, o, none⟩) l.length cap, .int .i64 (a' : Int), .int .i64 (m' : Int), .int .i64 (b' : Int), .func (.func 213) #[] #[]] w' fun e w2 => e = .returned (.tuple #[]) ∧ Q w' w2) :
    Calls Tryz.prog 266 #[.slice (some ⟨g, o, none⟩) l.length cap, .int .i64 (a : Int), .int .i64 (m : Int), .int .i64 (b : Int), .func (.func 213) #[] #[]] w fun e w' => e = .returned (.tuple #[]) ∧ Q w w' := by
  obtain ⟨x, hx⟩ := Wd.first w
  have hLd := foundLdB hR
  have hC := fun (p q : Found BallotV) (y : Wd w) => cmpQB p q y.w
  have eg := cmpEB
  refine (show Calls Tryz.prog 266 #[.slice (some ⟨g, o, none⟩) l.length cap, .int .i64 (a : Int), .int .i64 (m : Int), .int .i64 (b : Int), .func (.func 213) #[] #[]] x.w (fun e w' => e = .returned (.tuple #[]) ∧ Q w w') → _ from fun h => by rwa [← hx] at h) ?_
  have hRw := fun y : Wd w => hR.q y.q
  clear hx hR
  have h1 : ¬ ((m : Int) - (a : Int) = 1) := by omega
  have h2 : ¬ ((b : Int) - (m : Int) = 1) := by omega
  have hdI : ((a : Int) + (b : Int)) / 2 = (d : Int) := by omega
  have hmdI : (d : Int) < (m : Int) := by omega
  obtain ⟨s0, hs0⟩ : ∃ s0, d + m - b = s0 := ⟨_, rfl⟩
  have hs0I : (d : Int) + (m : Int) - (b : Int) = (s0 : Int) := by omega
  have hB : s0 ≤ d ∧ d < b ∧ a ≤ d ∧ a ≤ s0 ∧ d + m - 1 - s0 < b := by omega
  have HD := Lib.hid (And.intro hd (And.intro hm1 hm2))
  clear hd hm1 hm2
  go_enter Tryz.func266, Tryz.ntmps266
  go_upto_region 25 with (fail)
  go_upto_region 32 with (fail)
  try rw [hs0I]
  go_wp2_with fail
  go_loopw [20, 21] (fun i j wr => ∃ (q : Nat) (z : Wd w), i = .int .i64 (q : Int) ∧ j = .int .i64 (d : Int) ∧ wr = z.w ∧ s0 ≤ q ∧ q ≤ d) (fun i _ _ => d - (intOf i).toNat)
  case atStart => exact ⟨s0, x, rfl, rfl, rfl, Nat.le_refl _, by omega⟩
  case round =>
    obtain ⟨q, z, rfl, rfl, rfl, hmq, hqb⟩ := hrel
    by_cases hlt : q < d
    · have hlI : (q : Int) < (d : Int) := by omega
      obtain ⟨c, hc⟩ : ∃ c, (q + d) / 2 = c := ⟨_, rfl⟩
      have hcb : q ≤ c ∧ c < d := by omega
      have hcI : ((q : Int) + (d : Int)) / 2 = (c : Int) := by omega
      obtain ⟨e, he⟩ : ∃ e, d + m - 1 - c = e := ⟨_, rfl⟩
      have heI : (d : Int) + (m : Int) - 1 - (c : Int) = (e : Int) := by omega
      have hel : e < l.length := by omega
      have hce : c ≤ e := by omega
      clear hc he
      go_upto_region 35 with (fail)
      have hcl : c < l.length := by omega
      have hclI : (c : Int) < (l.length : Int) := by omega
      have helI : (e : Int) < (l.length : Int) := by omega
      have hl1 := hLd e hel
      have hl2 := hLd c hcl
      have hcmp := hC l[e] l[c]
      have hge := hs c e hcl hel (by omega)
      generalize cmpF l[e] l[c] = cv at *
      generalize l[e] = e1 at *
      generalize l[c] = e2 at *
      have hcv : ¬ cv < 0 := by omega
      clear hs hC hLd hge hcI ih hRw
      refine wp_region_wd z (by kernel_rfl) (by kernel_rfl) ?_
      repeat (first | (refine wpQuiet_load_run 234 (.tmp 163) (.pointer (some ⟨g, o + e * 9, none⟩)) (.agg (fbC e1).toArray) ?_ ?_ ?_ ?_ ?_; rfl; rfl; rfl; exact hl1; dsimp only [Act.put]; simp only [List.setIfInBounds_toArray, List.set_cons_succ, List.set_cons_zero]) | (refine wpQuiet_load_run 234 (.tmp 167) (.pointer (some ⟨g, o + c * 9, none⟩)) (.agg (fbC e2).toArray) ?_ ?_ ?_ ?_ ?_; rfl; rfl; rfl; exact hl2; dsimp only [Act.put]; simp only [List.setIfInBounds_toArray, List.set_cons_succ, List.set_cons_zero]) | go_big_quiet_step ((go_at_fn 213; with_reducible exact Wd.call _ (hcmp _))))
      refine wpQuiet_nil ?_
      rintro w'' ⟨y, rfl⟩
      go_wp2_with fail
      exact ⟨⟨c + 1, y, by go_num, rfl, rfl, by omega, by omega⟩, by simp only [intOf]; omega⟩
    · have hqm : d = q := by omega
      have hadI : (a : Int) < (d : Int) := by obtain ⟨g1, g2, g3⟩ := HD.out; omega
      clear hs hC hLd
      subst hqm
      have hend : (d : Int) + (m : Int) - (d : Int) = (m : Int) := by omega
      have hmm : ¬ ((m : Int) < (m : Int)) := by omega
      have hdd : ¬ ((d : Int) < (d : Int)) := by omega
      have hmbI : (m : Int) < (b : Int) := by omega
      have hrec := fun y : Wd w => ih d m b y.w hmd hmb hb (by omega) (hRw y)
      clear ih hRw
      go_wp2_with (go_at_call 266; refine (hrec _).mono ?_; rintro e w' ⟨rfl, hq2⟩; obtain ⟨y, rfl⟩ := Wd.next _ hq2; clear hq2)
      go_end0
      exact ⟨rfl, y.q⟩
set_option maxRecDepth 100000 in
set_option maxHeartbeats 8000000 in
theorem symDB (g o cap : Nat) (l : List (Found BallotV)) (hs : SortedF l) (hn : l.length ≤ 1000) (a m b d : Nat) (w : World) (hR : RowsAt w (some ⟨g, o, none⟩) 9 fbC l) (hm1 : m ≠ a + 1) (hm2 : b ≠ m + 1) (ham : a < m) (hmb : m < b) (hb : b ≤ l.length) (hd : (a + b) / 2 = d) (hmd : m ≤ d)
    (ih : ∀ a' m' b' w', a' < m' → m' < b' → b' ≤ l.length → b' - a' < b - a → RowsAt w' (some ⟨g, o, none⟩) 9 fbC l → Calls Tryz.prog 266 #[.slice (some ⟨g, o, none⟩) l.length cap, .int .i64 (a' : Int), .int .i64 (m' : Int), .int .i64 (b' : Int), .func (.func 213) #[] #[]] w' fun e w2 => e = .returned (.tuple #[]) ∧ Q w' w2) :
    Calls Tryz.prog 266 #[.slice (some ⟨g, o, none⟩) l.length cap, .int .i64 (a : Int), .int .i64 (m : Int), .int .i64 (b : Int), .func (.func 213) #[] #[]] w fun e w' => e = .returned (.tuple #[]) ∧ Q w w' := by
  obtain ⟨x, hx⟩ := Wd.first w
  have hLd := foundLdB hR
  have hC := fun (p q : Found BallotV) (y : Wd w) => cmpQB p q y.w
  have eg := cmpEB
  refine (show Calls Tryz.prog 266 #[.slice (some ⟨g, o, none⟩) l.length cap, .int .i64 (a : Int), .int .i64 (m : Int), .int .i64 (b : Int), .func (.func 213) #[] #[]] x.w (fun e w' => e = .returned (.tuple #[]) ∧ Q w w') → _ from fun h => by rwa [← hx] at h) ?_
  have hRw := fun y : Wd w => hR.q y.q
  clear hx hR
  have h1 : ¬ ((m : Int) - (a : Int) = 1) := by omega
  have h2 : ¬ ((b : Int) - (m : Int) = 1) := by omega
  have hdI : ((a : Int) + (b : Int)) / 2 = (d : Int) := by omega
  have hmdI : ¬ ((d : Int) < (m : Int)) := by omega
  have hB : d < b ∧ a ≤ d ∧ d + m - 1 - a < b := by omega
  have HD := Lib.hid (And.intro hd (And.intro hm1 hm2))
  clear hd hm1 hm2
  go_enter Tryz.func266, Tryz.ntmps266
  go_upto_region 25 with (fail)
  go_upto_region 32 with (fail)
  go_wp2_with fail
  go_loopw [20, 21] (fun i j wr => ∃ (q : Nat) (z : Wd w), i = .int .i64 (q : Int) ∧ j = .int .i64 (m : Int) ∧ wr = z.w ∧ a ≤ q ∧ q ≤ m) (fun i _ _ => m - (intOf i).toNat)
  case atStart => exact ⟨a, x, rfl, rfl, rfl, Nat.le_refl _, by omega⟩
  case round =>
    obtain ⟨q, z, rfl, rfl, rfl, hmq, hqb⟩ := hrel
    by_cases hlt : q < m
    · have hlI : (q : Int) < (m : Int) := by omega
      obtain ⟨c, hc⟩ : ∃ c, (q + m) / 2 = c := ⟨_, rfl⟩
      have hcb : q ≤ c ∧ c < m := by omega
      have hcI : ((q : Int) + (m : Int)) / 2 = (c : Int) := by omega
      obtain ⟨e, he⟩ : ∃ e, d + m - 1 - c = e := ⟨_, rfl⟩
      have heI : (d : Int) + (m : Int) - 1 - (c : Int) = (e : Int) := by omega
      have hel : e < l.length := by omega
      have hce : c ≤ e := by omega
      clear hc he
      go_upto_region 35 with (fail)
      have hcl : c < l.length := by omega
      have hclI : (c : Int) < (l.length : Int) := by omega
      have helI : (e : Int) < (l.length : Int) := by omega
      have hl1 := hLd e hel
      have hl2 := hLd c hcl
      have hcmp := hC l[e] l[c]
      have hge := hs c e hcl hel (by omega)
      generalize cmpF l[e] l[c] = cv at *
      generalize l[e] = e1 at *
      generalize l[c] = e2 at *
      have hcv : ¬ cv < 0 := by omega
      clear hs hC hLd hge hcI ih hRw
      refine wp_region_wd z (by kernel_rfl) (by kernel_rfl) ?_
      repeat (first | (refine wpQuiet_load_run 234 (.tmp 163) (.pointer (some ⟨g, o + e * 9, none⟩)) (.agg (fbC e1).toArray) ?_ ?_ ?_ ?_ ?_; rfl; rfl; rfl; exact hl1; dsimp only [Act.put]; simp only [List.setIfInBounds_toArray, List.set_cons_succ, List.set_cons_zero]) | (refine wpQuiet_load_run 234 (.tmp 167) (.pointer (some ⟨g, o + c * 9, none⟩)) (.agg (fbC e2).toArray) ?_ ?_ ?_ ?_ ?_; rfl; rfl; rfl; exact hl2; dsimp only [Act.put]; simp only [List.setIfInBounds_toArray, List.set_cons_succ, List.set_cons_zero]) | go_big_quiet_step ((go_at_fn 213; with_reducible exact Wd.call _ (hcmp _))))
      refine wpQuiet_nil ?_
      rintro w'' ⟨y, rfl⟩
      go_wp2_with fail
      exact ⟨⟨c + 1, y, by go_num, rfl, rfl, by omega, by omega⟩, by simp only [intOf]; omega⟩
    · have hqm : q = m := by omega
      clear hs hC hLd
      subst hqm
      have hend : (d : Int) + (q : Int) - (q : Int) = (d : Int) := by omega
      have hmm : ¬ ((q : Int) < (q : Int)) := by omega
      have hdd : ¬ ((d : Int) < (d : Int)) := by omega
      have hamI : (a : Int) < (q : Int) := by omega
      rcases Nat.lt_or_ge q d with hqd | hqd
      · have hqdI : (q : Int) < (d : Int) := by omega
        have hrec := fun y : Wd w => ih a q d y.w ham hqd (by omega) (by omega) (hRw y)
        clear ih hRw
        go_wp2_with (go_at_call 266; refine (hrec _).mono ?_; rintro e w' ⟨rfl, hq2⟩; obtain ⟨y, rfl⟩ := Wd.next _ hq2; clear hq2)
        go_end0
        exact ⟨rfl, y.q⟩
      · have hqdI : ¬ ((q : Int) < (d : Int)) := by omega
        clear ih hRw
        go_wp2_with fail
        go_end0
        exact ⟨rfl, z.q⟩
theorem symSB (g o cap : Nat) (l : List (Found BallotV)) (hs : SortedF l) (hn : l.length ≤ 1000) : ∀ (sz a m b : Nat) (w : World), b - a < sz → a < m → m < b → b ≤ l.length → RowsAt w (some ⟨g, o, none⟩) 9 fbC l →
    Calls Tryz.prog 266 #[.slice (some ⟨g, o, none⟩) l.length cap, .int .i64 (a : Int), .int .i64 (m : Int), .int .i64 (b : Int), .func (.func 213) #[] #[]] w fun e w' => e = .returned (.tuple #[]) ∧ Q w w' := by
  intro sz
  induction sz with
  | zero => intro a m b w h; omega
  | succ sz ih =>
    intro a m b w hsz ham hmb hb hR
    by_cases h1 : m = a + 1
    · exact symAB g o cap l hs hn a m b w hR h1 hmb hb
    · by_cases h2 : b = m + 1
      · exact symBB g o cap l hs hn a m b w hR h1 ham h2 hb
      · rcases Nat.lt_or_ge ((a + b) / 2) m with h3 | h3
        · exact symCB g o cap l hs hn a m b _ w hR h1 h2 ham hmb hb rfl h3 fun a' m' b' w' g1 g2 g3 g4 g5 => ih a' m' b' w' (by omega) g1 g2 g3 g5
        · exact symDB g o cap l hs hn a m b _ w hR h1 h2 ham hmb hb rfl h3 fun a' m' b' w' g1 g2 g3 g4 g5 => ih a' m' b' w' (by omega) g1 g2 g3 g5
set_option maxRecDepth 100000 in
set_option maxHeartbeats 8000000 in
theorem stSB (g o cap : Nat) (l : List (Found BallotV)) (hs : SortedF l) (hn : l.length ≤ 1000) (w : World) (hR : RowsAt w (some ⟨g, o, none⟩) 9 fbC l) :
    Calls Tryz.prog 241 #[.slice (some ⟨g, o, none⟩) l.length cap, .int .i64 (l.length : Int), .func (.func 213) #[] #[]] w fun e w' => e = .returned (.tuple #[]) ∧ Q w w' := by
  obtain ⟨x, hx⟩ := Wd.first w
  have hIn := fun (a m : Nat) (h1 : m ≤ l.length) (h2 : a ≤ 1000) (y : Wd w) => insSB g o cap l hs hn a m y.w (hR.q y.q) h1 h2
  have hSy := fun (a m b : Nat) (h1 : a < m) (h2 : m < b) (h3 : b ≤ l.length) (y : Wd w) => symSB g o cap l hs hn (b - a + 1) a m b y.w (by omega) h1 h2 h3 (hR.q y.q)
  refine (show Calls Tryz.prog 241 #[.slice (some ⟨g, o, none⟩) l.length cap, .int .i64 (l.length : Int), .func (.func 213) #[] #[]] x.w (fun e w' => e = .returned (.tuple #[]) ∧ Q w w') → _ from fun h => by rwa [← hx] at h) ?_
  clear hx hR hs
  generalize l.length = n at *
  go_enter Tryz.func241, Tryz.ntmps241
  go_wp2_with fail
  go_loopw [7, 8] (fun a b wr => ∃ (q : Nat) (z : Wd w), a = .int .i64 (q : Int) ∧ b = .int .i64 ((q : Int) + 20) ∧ wr = z.w ∧ q ≤ n) (fun a _ _ => n - (intOf a).toNat)
  case atStart => exact ⟨0, x, rfl, rfl, rfl, Nat.zero_le _⟩
  case round =>
    obtain ⟨q, z, rfl, rfl, rfl, hq⟩ := hrel
    by_cases hlt : q + 20 ≤ n
    · have hlI : (q : Int) + 20 ≤ (n : Int) := by omega
      have h1 : ∀ y : Wd w, Calls Tryz.prog 265 #[.slice (some ⟨g, o, none⟩) n cap, .int .i64 (q : Int), .int .i64 ((q : Int) + 20), .func (.func 213) #[] #[]] y.w fun e w' => e = .returned (.tuple #[]) ∧ Q y.w w' := hIn q (q + 20) hlt (by omega)
      clear hIn hSy
      go_wp2_with (go_at_call 265; refine (h1 _).mono ?_; rintro e w' ⟨rfl, hq2⟩; obtain ⟨y, rfl⟩ := Wd.next _ hq2; clear hq2)
      exact ⟨⟨q + 20, y, by go_num, by go_num, rfl, by omega⟩, by simp only [intOf]; omega⟩
    · have hlI : ¬ ((q : Int) + 20 ≤ (n : Int)) := by omega
      have h1 := fun y : Wd w => hIn q n (Nat.le_refl _) (by omega) y
      clear hIn
      go_wp2_with (go_at_call 265; refine (h1 _).mono ?_; rintro e w' ⟨rfl, hq2⟩; obtain ⟨y, rfl⟩ := Wd.next _ hq2; clear hq2)
      clear h1
      go_loopw [6, 7, 8, 9] (fun s _ _ _ wr => ∃ (bs : Nat) (z : Wd w), s = .int .i64 (bs : Int) ∧ wr = z.w ∧ 20 ≤ bs ∧ bs ≤ 2000) (fun s _ _ _ _ => 2000 - (intOf s).toNat)
      case atStart => exact ⟨20, y, rfl, rfl, Nat.le_refl _, by omega⟩
      case round =>
        clear hlt hlI hq
        obtain ⟨bs, z2, rfl, rfl, hb1, hb2⟩ := hrel
        by_cases hlt2 : bs < n
        · have hlI2 : (bs : Int) < (n : Int) := by omega
          go_wp2_with fail
          go_loopw [7, 8] (fun a b wr => ∃ (q : Nat) (z : Wd w), a = .int .i64 (q : Int) ∧ b = .int .i64 ((q : Int) + 2 * (bs : Int)) ∧ wr = z.w ∧ q ≤ n) (fun a _ _ => n - (intOf a).toNat)
          case atStart => exact ⟨0, z2, rfl, by go_num, rfl, Nat.zero_le _⟩
          case round =>
            obtain ⟨q3, z3, rfl, rfl, rfl, hq3⟩ := hrel
            by_cases hlt3 : q3 + 2 * bs ≤ n
            · have hlI3 : (q3 : Int) + 2 * (bs : Int) ≤ (n : Int) := by omega
              have h1 : ∀ y : Wd w, Calls Tryz.prog 266 #[.slice (some ⟨g, o, none⟩) n cap, .int .i64 (q3 : Int), .int .i64 ((q3 : Int) + (bs : Int)), .int .i64 ((q3 : Int) + 2 * (bs : Int)), .func (.func 213) #[] #[]] y.w fun e w' => e = .returned (.tuple #[]) ∧ Q y.w w' := fun y => by
                have := hSy q3 (q3 + bs) (q3 + 2 * bs) (by omega) (by omega) hlt3 y
                simpa using this
              clear hSy
              go_wp2_with (go_at_call 266; refine (h1 _).mono ?_; rintro e w' ⟨rfl, hq2⟩; obtain ⟨y, rfl⟩ := Wd.next _ hq2; clear hq2)
              exact ⟨⟨q3 + 2 * bs, y, by go_num, by go_num, rfl, by omega⟩, by simp only [intOf]; omega⟩
            · have hlI3 : ¬ ((q3 : Int) + 2 * (bs : Int) ≤ (n : Int)) := by omega
              by_cases hlt4 : q3 + bs < n
              · have hlI4 : (q3 : Int) + (bs : Int) < (n : Int) := by omega
                have h1 : ∀ y : Wd w, Calls Tryz.prog 266 #[.slice (some ⟨g, o, none⟩) n cap, .int .i64 (q3 : Int), .int .i64 ((q3 : Int) + (bs : Int)), .int .i64 (n : Int), .func (.func 213) #[] #[]] y.w fun e w' => e = .returned (.tuple #[]) ∧ Q y.w w' := fun y => by
                  have := hSy q3 (q3 + bs) n (by omega) hlt4 (Nat.le_refl _) y
                  simpa using this
                clear hSy
                go_wp2_with (go_at_call 266; refine (h1 _).mono ?_; rintro e w' ⟨rfl, hq2⟩; obtain ⟨y, rfl⟩ := Wd.next _ hq2; clear hq2)
                exact ⟨⟨bs * 2, y, by go_num, rfl, by omega, by omega⟩, by simp only [intOf]; omega⟩
              · have hlI4 : ¬ ((q3 : Int) + (bs : Int) < (n : Int)) := by omega
                clear hSy
                go_wp2_with fail
                exact ⟨⟨bs * 2, z3, by go_num, rfl, by omega, by omega⟩, by simp only [intOf]; omega⟩
        · have hlI2 : ¬ ((bs : Int) < (n : Int)) := by omega
          go_wp2_with fail
          go_end0
          exact ⟨rfl, z2.q⟩
set_option maxRecDepth 100000 in
theorem srtSB (g o cap : Nat) (l : List (Found BallotV)) (hs : SortedF l) (hn : l.length ≤ 1000) (w : World) (hR : RowsAt w (some ⟨g, o, none⟩) 9 fbC l) :
    Calls Tryz.prog 212 #[.slice (some ⟨g, o, none⟩) l.length cap, .func (.func 213) #[] #[]] w fun e w' => e = .returned (.tuple #[]) ∧ Q w w' := by
  have hst := stSB g o cap l hs hn w hR
  clear hs hR
  generalize l.length = n at *
  go_enter Tryz.func212, Tryz.ntmps212
  go_wp2_with (go_at_call 241; refine hst.mono ?_; rintro e w' ⟨rfl, hq2⟩)
  go_end0
  exact ⟨rfl, hq2⟩

/-! ### Claim -/
theorem cmpQCl (x y : Found ClaimV) (W : World) : Calls Tryz.prog 177 #[.agg (fclC x).toArray, .agg (fclC y).toArray] W fun e w' => e = .returned (.int .i64 (cmpF x y)) ∧ Q W w' :=
  (cmpCl_any x y W).mono fun e w' ⟨h1, q, os, h2⟩ => ⟨h1, by rw [h2]; exact q_growd W q os⟩
theorem cmpECl : ∀ args w, (callFunc 177 args).run Tryz.prog w = .ok (.enter 177 args) w := fun args w => enter_run (fn := Tryz.f177) Tryz.func177 (by kernel_rfl) rfl args w
theorem foundLdCl {g o : Nat} {l : List (Found ClaimV)} {w : World} (hR : RowsAt w (some ⟨g, o, none⟩) 11 fclC l) (j : Nat) (hj : j < l.length) : ∀ y : Wd w, (Instr.loadAt 208 (.pointer (some ⟨g, o + j * 11, none⟩))).run Tryz.prog y.w = .ok (.agg (fclC l[j]).toArray) y.w := by
  obtain ⟨b, o2, e, hb, hc⟩ := hR (by omega)
  injection e with e
  injection e with e1 e2
  subst e1
  subst e2
  exact Wd.load hb (hc j hj) Tryz.underlying208 rfl (by kernel_rfl)
set_option maxRecDepth 100000 in
set_option maxHeartbeats 4000000 in
theorem insSCl (g o cap : Nat) (l : List (Found ClaimV)) (hs : SortedF l) (hn : l.length ≤ 1000) (a m : Nat) (w : World) (hR : RowsAt w (some ⟨g, o, none⟩) 11 fclC l) (hm : m ≤ l.length) (ham : a ≤ 1000) :
    Calls Tryz.prog 243 #[.slice (some ⟨g, o, none⟩) l.length cap, .int .i64 (a : Int), .int .i64 (m : Int), .func (.func 177) #[] #[]] w fun e w' => e = .returned (.tuple #[]) ∧ Q w w' := by
  obtain ⟨x, hx⟩ := Wd.first w
  have hLd := foundLdCl hR
  have hC := fun (p q : Found ClaimV) (y : Wd w) => cmpQCl p q y.w
  have eg := cmpECl
  refine (show Calls Tryz.prog 243 #[.slice (some ⟨g, o, none⟩) l.length cap, .int .i64 (a : Int), .int .i64 (m : Int), .func (.func 177) #[] #[]] x.w (fun e w' => e = .returned (.tuple #[]) ∧ Q w w') → _ from fun h => by rwa [← hx] at h) ?_
  clear hx hR
  go_enter Tryz.func243, Tryz.ntmps243
  go_wp2_with fail
  go_loopw [8] (fun i wr => ∃ (p : Nat) (z : Wd w), i = .int .i64 ((p : Int) + 1) ∧ wr = z.w ∧ a ≤ p ∧ p ≤ 1000) (fun i _ => m - (intOf i).toNat)
  case atStart => exact ⟨a, x, rfl, rfl, Nat.le_refl _, ham⟩
  case round =>
    obtain ⟨p, z, rfl, rfl, hap, hp⟩ := hrel
    by_cases hlt : p + 1 < m
    · have hlI : (p : Int) + 1 < (m : Int) := by omega
      have hp1 : p + 1 < l.length := by omega
      have hpI : (p : Int) + 1 < (l.length : Int) := by omega
      have hpJ : (p : Int) < (l.length : Int) := by omega
      have haI : (a : Int) < (p : Int) + 1 := by omega
      have hl1 := hLd (p + 1) hp1
      have hl2 := hLd p (by omega)
      have hcmp := hC l[p + 1] l[p]
      have hge := hs p (p + 1) (by omega) hp1 (by omega)
      generalize cmpF l[p + 1] l[p] = cv at *
      generalize l[p + 1] = e1 at *
      generalize l[p] = e2 at *
      have htn : ((p : Int) + 1).toNat = p + 1 := by omega
      have hcv : ¬ cv < 0 := by omega
      clear hs hC hLd hge
      go_wp2_with fail
      refine wp_loop_rounds 1 ?_
      rw [rounds_succ]
      go_upto_region 4 with (fail)
      refine wp_region_wd z (by kernel_rfl) (by kernel_rfl) ?_
      repeat (first | (refine wpQuiet_load_run 208 (.tmp 25) (.pointer (some ⟨g, o + (p + 1) * 11, none⟩)) (.agg (fclC e1).toArray) ?_ ?_ ?_ ?_ ?_; rfl; rfl; rfl; exact hl1; dsimp only [Act.put]; simp only [List.setIfInBounds_toArray, List.set_cons_succ, List.set_cons_zero]) | (refine wpQuiet_load_run 208 (.tmp 30) (.pointer (some ⟨g, o + p * 11, none⟩)) (.agg (fclC e2).toArray) ?_ ?_ ?_ ?_ ?_; rfl; rfl; rfl; exact hl2; dsimp only [Act.put]; simp only [List.setIfInBounds_toArray, List.set_cons_succ, List.set_cons_zero]) | go_big_quiet_step ((go_at_fn 177; with_reducible exact Wd.call _ (hcmp _))))
      refine wpQuiet_nil ?_
      rintro w'' ⟨y, rfl⟩
      go_wp2_with fail
      exact ⟨⟨p + 1, y, by go_num, rfl, by omega, by omega⟩, by simp only [intOf]; omega⟩
    · have hlI : ¬ ((p : Int) + 1 < (m : Int)) := by omega
      go_wp2_with fail
      go_end0
      exact ⟨rfl, z.q⟩
set_option maxRecDepth 100000 in
set_option maxHeartbeats 8000000 in
theorem symACl (g o cap : Nat) (l : List (Found ClaimV)) (hs : SortedF l) (hn : l.length ≤ 1000) (a m b : Nat) (w : World) (hR : RowsAt w (some ⟨g, o, none⟩) 11 fclC l) (hm1 : m = a + 1) (hmb : m < b) (hb : b ≤ l.length) :
    Calls Tryz.prog 244 #[.slice (some ⟨g, o, none⟩) l.length cap, .int .i64 (a : Int), .int .i64 (m : Int), .int .i64 (b : Int), .func (.func 177) #[] #[]] w fun e w' => e = .returned (.tuple #[]) ∧ Q w w' := by
  obtain ⟨x, hx⟩ := Wd.first w
  have hLd := foundLdCl hR
  have hC := fun (p q : Found ClaimV) (y : Wd w) => cmpQCl p q y.w
  have eg := cmpECl
  refine (show Calls Tryz.prog 244 #[.slice (some ⟨g, o, none⟩) l.length cap, .int .i64 (a : Int), .int .i64 (m : Int), .int .i64 (b : Int), .func (.func 177) #[] #[]] x.w (fun e w' => e = .returned (.tuple #[]) ∧ Q w w') → _ from fun h => by rwa [← hx] at h) ?_
  clear hx hR
  have h1 : (m : Int) - (a : Int) = 1 := by omega
  have haN : ¬ ((a : Int) < (m : Int) - 1) := by omega
  have HM := Lib.hid hm1
  clear hm1
  go_enter Tryz.func244, Tryz.ntmps244
  go_wp2_with fail
  go_loopw [10, 11] (fun i j wr => ∃ (q : Nat) (z : Wd w), i = .int .i64 (m : Int) ∧ j = .int .i64 (q : Int) ∧ wr = z.w ∧ m ≤ q ∧ q ≤ b) (fun _ j _ => (intOf j).toNat - m)
  case atStart => exact ⟨b, x, rfl, rfl, rfl, by omega, Nat.le_refl _⟩
  case round =>
    obtain ⟨q, z, rfl, rfl, rfl, hmq, hqb⟩ := hrel
    by_cases hlt : m < q
    · have hlI : (m : Int) < (q : Int) := by omega
      obtain ⟨c, hc⟩ : ∃ c, (m + q) / 2 = c := ⟨_, rfl⟩
      have hcb : m ≤ c ∧ c < q := by omega
      have hcI : ((m : Int) + (q : Int)) / 2 = (c : Int) := by omega
      clear hc
      go_upto_region 5 with (fail)
      have hcl : c < l.length := by omega
      have hal : a < l.length := by have := HM.out; omega
      have hac : a ≤ c := by have := HM.out; omega
      have hclI : (c : Int) < (l.length : Int) := by omega
      have halI : (a : Int) < (l.length : Int) := by omega
      have hl1 := hLd c hcl
      have hl2 := hLd a hal
      have hcmp := hC l[c] l[a]
      have hge := hs a c hal hcl (by omega)
      generalize cmpF l[c] l[a] = cv at *
      generalize l[c] = e1 at *
      generalize l[a] = e2 at *
      have hcv : ¬ cv < 0 := by omega
      clear hs hC hLd hge hcI
      refine wp_region_wd z (by kernel_rfl) (by kernel_rfl) ?_
      repeat (first | (refine wpQuiet_load_run 208 (.tmp 43) (.pointer (some ⟨g, o + c * 11, none⟩)) (.agg (fclC e1).toArray) ?_ ?_ ?_ ?_ ?_; rfl; rfl; rfl; exact hl1; dsimp only [Act.put]; simp only [List.setIfInBounds_toArray, List.set_cons_succ, List.set_cons_zero]) | (refine wpQuiet_load_run 208 (.tmp 47) (.pointer (some ⟨g, o + a * 11, none⟩)) (.agg (fclC e2).toArray) ?_ ?_ ?_ ?_ ?_; rfl; rfl; rfl; exact hl2; dsimp only [Act.put]; simp only [List.setIfInBounds_toArray, List.set_cons_succ, List.set_cons_zero]) | go_big_quiet_step ((go_at_fn 177; with_reducible exact Wd.call _ (hcmp _))))
      refine wpQuiet_nil ?_
      rintro w'' ⟨y, rfl⟩
      go_wp2_with fail
      exact ⟨⟨c, y, rfl, rfl, rfl, by omega, by omega⟩, by simp only [intOf]; omega⟩
    · have hlI : ¬ ((m : Int) < (q : Int)) := by omega
      clear hs hC hLd
      go_wp2_with fail
      refine wp_loop_rounds 1 ?_
      rw [rounds_succ]
      go_wp2_with fail
      (try simp only [Exit.inBlock, Exit.then])
      refine bodyPost_ret (results_none rfl _ _ _) rfl ?_
      exact ⟨rfl, z.q⟩
set_option maxRecDepth 100000 in
set_option maxHeartbeats 8000000 in
theorem symBCl (g o cap : Nat) (l : List (Found ClaimV)) (hs : SortedF l) (hn : l.length ≤ 1000) (a m b : Nat) (w : World) (hR : RowsAt w (some ⟨g, o, none⟩) 11 fclC l) (hm1 : m ≠ a + 1) (ham : a < m) (hmb : b = m + 1) (hb : b ≤ l.length) :
    Calls Tryz.prog 244 #[.slice (some ⟨g, o, none⟩) l.length cap, .int .i64 (a : Int), .int .i64 (m : Int), .int .i64 (b : Int), .func (.func 177) #[] #[]] w fun e w' => e = .returned (.tuple #[]) ∧ Q w w' := by
  obtain ⟨x, hx⟩ := Wd.first w
  have hLd := foundLdCl hR
  have hC := fun (p q : Found ClaimV) (y : Wd w) => cmpQCl p q y.w
  have eg := cmpECl
  refine (show Calls Tryz.prog 244 #[.slice (some ⟨g, o, none⟩) l.length cap, .int .i64 (a : Int), .int .i64 (m : Int), .int .i64 (b : Int), .func (.func 177) #[] #[]] x.w (fun e w' => e = .returned (.tuple #[]) ∧ Q w w') → _ from fun h => by rwa [← hx] at h) ?_
  clear hx hR
  have h1 : ¬ ((m : Int) - (a : Int) = 1) := by omega
  have h2 : (b : Int) - (m : Int) = 1 := by omega
  have HM := Lib.hid hmb
  have hml : m < l.length := by omega
  clear hm1 hmb
  go_enter Tryz.func244, Tryz.ntmps244
  go_wp2_with fail
  go_loopw [14, 15] (fun i j wr => ∃ (q : Nat) (z : Wd w), i = .int .i64 (q : Int) ∧ j = .int .i64 (m : Int) ∧ wr = z.w ∧ a ≤ q ∧ q ≤ m) (fun i _ _ => m - (intOf i).toNat)
  case atStart => exact ⟨a, x, rfl, rfl, rfl, Nat.le_refl _, by omega⟩
  case round =>
    obtain ⟨q, z, rfl, rfl, rfl, hmq, hqb⟩ := hrel
    by_cases hlt : q < m
    · have hlI : (q : Int) < (m : Int) := by omega
      obtain ⟨c, hc⟩ : ∃ c, (q + m) / 2 = c := ⟨_, rfl⟩
      have hcb : q ≤ c ∧ c < m := by omega
      have hcI : ((q : Int) + (m : Int)) / 2 = (c : Int) := by omega
      clear hc
      go_upto_region 17 with (fail)
      have hcl : c < l.length := by omega
      have hclI : (c : Int) < (l.length : Int) := by omega
      have hmlI : (m : Int) < (l.length : Int) := by omega
      have hl1 := hLd m hml
      have hl2 := hLd c hcl
      have hcmp := hC l[m] l[c]
      have hge := hs c m hcl hml (by omega)
      generalize cmpF l[m] l[c] = cv at *
      generalize l[m] = e1 at *
      generalize l[c] = e2 at *
      have hcv : ¬ cv < 0 := by omega
      clear hs hC hLd hge hcI
      refine wp_region_wd z (by kernel_rfl) (by kernel_rfl) ?_
      repeat (first | (refine wpQuiet_load_run 208 (.tmp 95) (.pointer (some ⟨g, o + m * 11, none⟩)) (.agg (fclC e1).toArray) ?_ ?_ ?_ ?_ ?_; rfl; rfl; rfl; exact hl1; dsimp only [Act.put]; simp only [List.setIfInBounds_toArray, List.set_cons_succ, List.set_cons_zero]) | (refine wpQuiet_load_run 208 (.tmp 99) (.pointer (some ⟨g, o + c * 11, none⟩)) (.agg (fclC e2).toArray) ?_ ?_ ?_ ?_ ?_; rfl; rfl; rfl; exact hl2; dsimp only [Act.put]; simp only [List.setIfInBounds_toArray, List.set_cons_succ, List.set_cons_zero]) | go_big_quiet_step ((go_at_fn 177; with_reducible exact Wd.call _ (hcmp _))))
      refine wpQuiet_nil ?_
      rintro w'' ⟨y, rfl⟩
      go_wp2_with fail
      exact ⟨⟨c + 1, y, by go_num, rfl, rfl, by omega, by omega⟩, by simp only [intOf]; omega⟩
    · have hqm : q = m := by omega
      clear hs hC hLd
      subst hqm
      go_wp2_with fail
      refine wp_loop_rounds 1 ?_
      rw [rounds_succ]
      go_wp2_with fail
      (try simp only [Exit.inBlock, Exit.then])
      refine bodyPost_ret (results_none rfl _ _ _) rfl ?_
      exact ⟨rfl, z.q⟩
set_option maxRecDepth 100000 in
set_option maxHeartbeats 8000000 in
theorem symCCl (g o cap : Nat) (l : List (Found ClaimV)) (hs : SortedF l) (hn : l.length ≤ 1000) (a m b d : Nat) (w : World) (hR : RowsAt w (some ⟨g, o, none⟩) 11 fclC l) (hm1 : m ≠ a + 1) (hm2 : b ≠ m + 1) (ham : a < m) (hmb : m < b) (hb : b ≤ l.length) (hd : (a + b) / 2 = d) (hmd : d < m)
    (ih : ∀ a' m' b' w', a' < m' → m' < b' → b' ≤ l.length → b' - a' < b - a → RowsAt w' (some ⟨g, o, none⟩) 11 fclC l → Calls Tryz.prog 244 #[.slice (some ⟨g, o, none⟩) l.length cap, .int .i64 (a' : Int), .int .i64 (m' : Int), .int .i64 (b' : Int), .func (.func 177) #[] #[]] w' fun e w2 => e = .returned (.tuple #[]) ∧ Q w' w2) :
    Calls Tryz.prog 244 #[.slice (some ⟨g, o, none⟩) l.length cap, .int .i64 (a : Int), .int .i64 (m : Int), .int .i64 (b : Int), .func (.func 177) #[] #[]] w fun e w' => e = .returned (.tuple #[]) ∧ Q w w' := by
  obtain ⟨x, hx⟩ := Wd.first w
  have hLd := foundLdCl hR
  have hC := fun (p q : Found ClaimV) (y : Wd w) => cmpQCl p q y.w
  have eg := cmpECl
  refine (show Calls Tryz.prog 244 #[.slice (some ⟨g, o, none⟩) l.length cap, .int .i64 (a : Int), .int .i64 (m : Int), .int .i64 (b : Int), .func (.func 177) #[] #[]] x.w (fun e w' => e = .returned (.tuple #[]) ∧ Q w w') → _ from fun h => by rwa [← hx] at h) ?_
  have hRw := fun y : Wd w => hR.q y.q
  clear hx hR
  have h1 : ¬ ((m : Int) - (a : Int) = 1) := by omega
  have h2 : ¬ ((b : Int) - (m : Int) = 1) := by omega
  have hdI : ((a : Int) + (b : Int)) / 2 = (d : Int) := by omega
  have hmdI : (d : Int) < (m : Int) := by omega
  obtain ⟨s0, hs0⟩ : ∃ s0, d + m - b = s0 := ⟨_, rfl⟩
  have hs0I : (d : Int) + (m : Int) - (b : Int) = (s0 : Int) := by omega
  have hB : s0 ≤ d ∧ d < b ∧ a ≤ d ∧ a ≤ s0 ∧ d + m - 1 - s0 < b := by omega
  have HD := Lib.hid (And.intro hd (And.intro hm1 hm2))
  clear hd hm1 hm2
  go_enter Tryz.func244, Tryz.ntmps244
  go_upto_region 25 with (fail)
  go_upto_region 32 with (fail)
  try rw [hs0I]
  go_wp2_with fail
  go_loopw [20, 21] (fun i j wr => ∃ (q : Nat) (z : Wd w), i = .int .i64 (q : Int) ∧ j = .int .i64 (d : Int) ∧ wr = z.w ∧ s0 ≤ q ∧ q ≤ d) (fun i _ _ => d - (intOf i).toNat)
  case atStart => exact ⟨s0, x, rfl, rfl, rfl, Nat.le_refl _, by omega⟩
  case round =>
    obtain ⟨q, z, rfl, rfl, rfl, hmq, hqb⟩ := hrel
    by_cases hlt : q < d
    · have hlI : (q : Int) < (d : Int) := by omega
      obtain ⟨c, hc⟩ : ∃ c, (q + d) / 2 = c := ⟨_, rfl⟩
      have hcb : q ≤ c ∧ c < d := by omega
      have hcI : ((q : Int) + (d : Int)) / 2 = (c : Int) := by omega
      obtain ⟨e, he⟩ : ∃ e, d + m - 1 - c = e := ⟨_, rfl⟩
      have heI : (d : Int) + (m : Int) - 1 - (c : Int) = (e : Int) := by omega
      have hel : e < l.length := by omega
      have hce : c ≤ e := by omega
      clear hc he
      go_upto_region 35 with (fail)
      have hcl : c < l.length := by omega
      have hclI : (c : Int) < (l.length : Int) := by omega
      have helI : (e : Int) < (l.length : Int) := by omega
      have hl1 := hLd e hel
      have hl2 := hLd c hcl
      have hcmp := hC l[e] l[c]
      have hge := hs c e hcl hel (by omega)
      generalize cmpF l[e] l[c] = cv at *
      generalize l[e] = e1 at *
      generalize l[c] = e2 at *
      have hcv : ¬ cv < 0 := by omega
      clear hs hC hLd hge hcI ih hRw
      refine wp_region_wd z (by kernel_rfl) (by kernel_rfl) ?_
      repeat (first | (refine wpQuiet_load_run 208 (.tmp 163) (.pointer (some ⟨g, o + e * 11, none⟩)) (.agg (fclC e1).toArray) ?_ ?_ ?_ ?_ ?_; rfl; rfl; rfl; exact hl1; dsimp only [Act.put]; simp only [List.setIfInBounds_toArray, List.set_cons_succ, List.set_cons_zero]) | (refine wpQuiet_load_run 208 (.tmp 167) (.pointer (some ⟨g, o + c * 11, none⟩)) (.agg (fclC e2).toArray) ?_ ?_ ?_ ?_ ?_; rfl; rfl; rfl; exact hl2; dsimp only [Act.put]; simp only [List.setIfInBounds_toArray, List.set_cons_succ, List.set_cons_zero]) | go_big_quiet_step ((go_at_fn 177; with_reducible exact Wd.call _ (hcmp _))))
      refine wpQuiet_nil ?_
      rintro w'' ⟨y, rfl⟩
      go_wp2_with fail
      exact ⟨⟨c + 1, y, by go_num, rfl, rfl, by omega, by omega⟩, by simp only [intOf]; omega⟩
    · have hqm : d = q := by omega
      have hadI : (a : Int) < (d : Int) := by obtain ⟨g1, g2, g3⟩ := HD.out; omega
      clear hs hC hLd
      subst hqm
      have hend : (d : Int) + (m : Int) - (d : Int) = (m : Int) := by omega
      have hmm : ¬ ((m : Int) < (m : Int)) := by omega
      have hdd : ¬ ((d : Int) < (d : Int)) := by omega
      have hmbI : (m : Int) < (b : Int) := by omega
      have hrec := fun y : Wd w => ih d m b y.w hmd hmb hb (by omega) (hRw y)
      clear ih hRw
      go_wp2_with (go_at_call 244; refine (hrec _).mono ?_; rintro e w' ⟨rfl, hq2⟩; obtain ⟨y, rfl⟩ := Wd.next _ hq2; clear hq2)
      go_end0
      exact ⟨rfl, y.q⟩
set_option maxRecDepth 100000 in
set_option maxHeartbeats 8000000 in
theorem symDCl (g o cap : Nat) (l : List (Found ClaimV)) (hs : SortedF l) (hn : l.length ≤ 1000) (a m b d : Nat) (w : World) (hR : RowsAt w (some ⟨g, o, none⟩) 11 fclC l) (hm1 : m ≠ a + 1) (hm2 : b ≠ m + 1) (ham : a < m) (hmb : m < b) (hb : b ≤ l.length) (hd : (a + b) / 2 = d) (hmd : m ≤ d)
    (ih : ∀ a' m' b' w', a' < m' → m' < b' → b' ≤ l.length → b' - a' < b - a → RowsAt w' (some ⟨g, o, none⟩) 11 fclC l → Calls Tryz.prog 244 #[.slice (some ⟨g, o, none⟩) l.length cap, .int .i64 (a' : Int), .int .i64 (m' : Int), .int .i64 (b' : Int), .func (.func 177) #[] #[]] w' fun e w2 => e = .returned (.tuple #[]) ∧ Q w' w2) :
    Calls Tryz.prog 244 #[.slice (some ⟨g, o, none⟩) l.length cap, .int .i64 (a : Int), .int .i64 (m : Int), .int .i64 (b : Int), .func (.func 177) #[] #[]] w fun e w' => e = .returned (.tuple #[]) ∧ Q w w' := by
  obtain ⟨x, hx⟩ := Wd.first w
  have hLd := foundLdCl hR
  have hC := fun (p q : Found ClaimV) (y : Wd w) => cmpQCl p q y.w
  have eg := cmpECl
  refine (show Calls Tryz.prog 244 #[.slice (some ⟨g, o, none⟩) l.length cap, .int .i64 (a : Int), .int .i64 (m : Int), .int .i64 (b : Int), .func (.func 177) #[] #[]] x.w (fun e w' => e = .returned (.tuple #[]) ∧ Q w w') → _ from fun h => by rwa [← hx] at h) ?_
  have hRw := fun y : Wd w => hR.q y.q
  clear hx hR
  have h1 : ¬ ((m : Int) - (a : Int) = 1) := by omega
  have h2 : ¬ ((b : Int) - (m : Int) = 1) := by omega
  have hdI : ((a : Int) + (b : Int)) / 2 = (d : Int) := by omega
  have hmdI : ¬ ((d : Int) < (m : Int)) := by omega
  have hB : d < b ∧ a ≤ d ∧ d + m - 1 - a < b := by omega
  have HD := Lib.hid (And.intro hd (And.intro hm1 hm2))
  clear hd hm1 hm2
  go_enter Tryz.func244, Tryz.ntmps244
  go_upto_region 25 with (fail)
  go_upto_region 32 with (fail)
  go_wp2_with fail
  go_loopw [20, 21] (fun i j wr => ∃ (q : Nat) (z : Wd w), i = .int .i64 (q : Int) ∧ j = .int .i64 (m : Int) ∧ wr = z.w ∧ a ≤ q ∧ q ≤ m) (fun i _ _ => m - (intOf i).toNat)
  case atStart => exact ⟨a, x, rfl, rfl, rfl, Nat.le_refl _, by omega⟩
  case round =>
    obtain ⟨q, z, rfl, rfl, rfl, hmq, hqb⟩ := hrel
    by_cases hlt : q < m
    · have hlI : (q : Int) < (m : Int) := by omega
      obtain ⟨c, hc⟩ : ∃ c, (q + m) / 2 = c := ⟨_, rfl⟩
      have hcb : q ≤ c ∧ c < m := by omega
      have hcI : ((q : Int) + (m : Int)) / 2 = (c : Int) := by omega
      obtain ⟨e, he⟩ : ∃ e, d + m - 1 - c = e := ⟨_, rfl⟩
      have heI : (d : Int) + (m : Int) - 1 - (c : Int) = (e : Int) := by omega
      have hel : e < l.length := by omega
      have hce : c ≤ e := by omega
      clear hc he
      go_upto_region 35 with (fail)
      have hcl : c < l.length := by omega
      have hclI : (c : Int) < (l.length : Int) := by omega
      have helI : (e : Int) < (l.length : Int) := by omega
      have hl1 := hLd e hel
      have hl2 := hLd c hcl
      have hcmp := hC l[e] l[c]
      have hge := hs c e hcl hel (by omega)
      generalize cmpF l[e] l[c] = cv at *
      generalize l[e] = e1 at *
      generalize l[c] = e2 at *
      have hcv : ¬ cv < 0 := by omega
      clear hs hC hLd hge hcI ih hRw
      refine wp_region_wd z (by kernel_rfl) (by kernel_rfl) ?_
      repeat (first | (refine wpQuiet_load_run 208 (.tmp 163) (.pointer (some ⟨g, o + e * 11, none⟩)) (.agg (fclC e1).toArray) ?_ ?_ ?_ ?_ ?_; rfl; rfl; rfl; exact hl1; dsimp only [Act.put]; simp only [List.setIfInBounds_toArray, List.set_cons_succ, List.set_cons_zero]) | (refine wpQuiet_load_run 208 (.tmp 167) (.pointer (some ⟨g, o + c * 11, none⟩)) (.agg (fclC e2).toArray) ?_ ?_ ?_ ?_ ?_; rfl; rfl; rfl; exact hl2; dsimp only [Act.put]; simp only [List.setIfInBounds_toArray, List.set_cons_succ, List.set_cons_zero]) | go_big_quiet_step ((go_at_fn 177; with_reducible exact Wd.call _ (hcmp _))))
      refine wpQuiet_nil ?_
      rintro w'' ⟨y, rfl⟩
      go_wp2_with fail
      exact ⟨⟨c + 1, y, by go_num, rfl, rfl, by omega, by omega⟩, by simp only [intOf]; omega⟩
    · have hqm : q = m := by omega
      clear hs hC hLd
      subst hqm
      have hend : (d : Int) + (q : Int) - (q : Int) = (d : Int) := by omega
      have hmm : ¬ ((q : Int) < (q : Int)) := by omega
      have hdd : ¬ ((d : Int) < (d : Int)) := by omega
      have hamI : (a : Int) < (q : Int) := by omega
      rcases Nat.lt_or_ge q d with hqd | hqd
      · have hqdI : (q : Int) < (d : Int) := by omega
        have hrec := fun y : Wd w => ih a q d y.w ham hqd (by omega) (by omega) (hRw y)
        clear ih hRw
        go_wp2_with (go_at_call 244; refine (hrec _).mono ?_; rintro e w' ⟨rfl, hq2⟩; obtain ⟨y, rfl⟩ := Wd.next _ hq2; clear hq2)
        go_end0
        exact ⟨rfl, y.q⟩
      · have hqdI : ¬ ((q : Int) < (d : Int)) := by omega
        clear ih hRw
        go_wp2_with fail
        go_end0
        exact ⟨rfl, z.q⟩
theorem symSCl (g o cap : Nat) (l : List (Found ClaimV)) (hs : SortedF l) (hn : l.length ≤ 1000) : ∀ (sz a m b : Nat) (w : World), b - a < sz → a < m → m < b → b ≤ l.length → RowsAt w (some ⟨g, o, none⟩) 11 fclC l →
    Calls Tryz.prog 244 #[.slice (some ⟨g, o, none⟩) l.length cap, .int .i64 (a : Int), .int .i64 (m : Int), .int .i64 (b : Int), .func (.func 177) #[] #[]] w fun e w' => e = .returned (.tuple #[]) ∧ Q w w' := by
  intro sz
  induction sz with
  | zero => intro a m b w h; omega
  | succ sz ih =>
    intro a m b w hsz ham hmb hb hR
    by_cases h1 : m = a + 1
    · exact symACl g o cap l hs hn a m b w hR h1 hmb hb
    · by_cases h2 : b = m + 1
      · exact symBCl g o cap l hs hn a m b w hR h1 ham h2 hb
      · rcases Nat.lt_or_ge ((a + b) / 2) m with h3 | h3
        · exact symCCl g o cap l hs hn a m b _ w hR h1 h2 ham hmb hb rfl h3 fun a' m' b' w' g1 g2 g3 g4 g5 => ih a' m' b' w' (by omega) g1 g2 g3 g5
        · exact symDCl g o cap l hs hn a m b _ w hR h1 h2 ham hmb hb rfl h3 fun a' m' b' w' g1 g2 g3 g4 g5 => ih a' m' b' w' (by omega) g1 g2 g3 g5
set_option maxRecDepth 100000 in
set_option maxHeartbeats 8000000 in
theorem stSCl (g o cap : Nat) (l : List (Found ClaimV)) (hs : SortedF l) (hn : l.length ≤ 1000) (w : World) (hR : RowsAt w (some ⟨g, o, none⟩) 11 fclC l) :
    Calls Tryz.prog 219 #[.slice (some ⟨g, o, none⟩) l.length cap, .int .i64 (l.length : Int), .func (.func 177) #[] #[]] w fun e w' => e = .returned (.tuple #[]) ∧ Q w w' := by
  obtain ⟨x, hx⟩ := Wd.first w
  have hIn := fun (a m : Nat) (h1 : m ≤ l.length) (h2 : a ≤ 1000) (y : Wd w) => insSCl g o cap l hs hn a m y.w (hR.q y.q) h1 h2
  have hSy := fun (a m b : Nat) (h1 : a < m) (h2 : m < b) (h3 : b ≤ l.length) (y : Wd w) => symSCl g o cap l hs hn (b - a + 1) a m b y.w (by omega) h1 h2 h3 (hR.q y.q)
  refine (show Calls Tryz.prog 219 #[.slice (some ⟨g, o, none⟩) l.length cap, .int .i64 (l.length : Int), .func (.func 177) #[] #[]] x.w (fun e w' => e = .returned (.tuple #[]) ∧ Q w w') → _ from fun h => by rwa [← hx] at h) ?_
  clear hx hR hs
  generalize l.length = n at *
  go_enter Tryz.func219, Tryz.ntmps219
  go_wp2_with fail
  go_loopw [7, 8] (fun a b wr => ∃ (q : Nat) (z : Wd w), a = .int .i64 (q : Int) ∧ b = .int .i64 ((q : Int) + 20) ∧ wr = z.w ∧ q ≤ n) (fun a _ _ => n - (intOf a).toNat)
  case atStart => exact ⟨0, x, rfl, rfl, rfl, Nat.zero_le _⟩
  case round =>
    obtain ⟨q, z, rfl, rfl, rfl, hq⟩ := hrel
    by_cases hlt : q + 20 ≤ n
    · have hlI : (q : Int) + 20 ≤ (n : Int) := by omega
      have h1 : ∀ y : Wd w, Calls Tryz.prog 243 #[.slice (some ⟨g, o, none⟩) n cap, .int .i64 (q : Int), .int .i64 ((q : Int) + 20), .func (.func 177) #[] #[]] y.w fun e w' => e = .returned (.tuple #[]) ∧ Q y.w w' := hIn q (q + 20) hlt (by omega)
      clear hIn hSy
      go_wp2_with (go_at_call 243; refine (h1 _).mono ?_; rintro e w' ⟨rfl, hq2⟩; obtain ⟨y, rfl⟩ := Wd.next _ hq2; clear hq2)
      exact ⟨⟨q + 20, y, by go_num, by go_num, rfl, by omega⟩, by simp only [intOf]; omega⟩
    · have hlI : ¬ ((q : Int) + 20 ≤ (n : Int)) := by omega
      have h1 := fun y : Wd w => hIn q n (Nat.le_refl _) (by omega) y
      clear hIn
      go_wp2_with (go_at_call 243; refine (h1 _).mono ?_; rintro e w' ⟨rfl, hq2⟩; obtain ⟨y, rfl⟩ := Wd.next _ hq2; clear hq2)
      clear h1
      go_loopw [6, 7, 8, 9] (fun s _ _ _ wr => ∃ (bs : Nat) (z : Wd w), s = .int .i64 (bs : Int) ∧ wr = z.w ∧ 20 ≤ bs ∧ bs ≤ 2000) (fun s _ _ _ _ => 2000 - (intOf s).toNat)
      case atStart => exact ⟨20, y, rfl, rfl, Nat.le_refl _, by omega⟩
      case round =>
        clear hlt hlI hq
        obtain ⟨bs, z2, rfl, rfl, hb1, hb2⟩ := hrel
        by_cases hlt2 : bs < n
        · have hlI2 : (bs : Int) < (n : Int) := by omega
          go_wp2_with fail
          go_loopw [7, 8] (fun a b wr => ∃ (q : Nat) (z : Wd w), a = .int .i64 (q : Int) ∧ b = .int .i64 ((q : Int) + 2 * (bs : Int)) ∧ wr = z.w ∧ q ≤ n) (fun a _ _ => n - (intOf a).toNat)
          case atStart => exact ⟨0, z2, rfl, by go_num, rfl, Nat.zero_le _⟩
          case round =>
            obtain ⟨q3, z3, rfl, rfl, rfl, hq3⟩ := hrel
            by_cases hlt3 : q3 + 2 * bs ≤ n
            · have hlI3 : (q3 : Int) + 2 * (bs : Int) ≤ (n : Int) := by omega
              have h1 : ∀ y : Wd w, Calls Tryz.prog 244 #[.slice (some ⟨g, o, none⟩) n cap, .int .i64 (q3 : Int), .int .i64 ((q3 : Int) + (bs : Int)), .int .i64 ((q3 : Int) + 2 * (bs : Int)), .func (.func 177) #[] #[]] y.w fun e w' => e = .returned (.tuple #[]) ∧ Q y.w w' := fun y => by
                have := hSy q3 (q3 + bs) (q3 + 2 * bs) (by omega) (by omega) hlt3 y
                simpa using this
              clear hSy
              go_wp2_with (go_at_call 244; refine (h1 _).mono ?_; rintro e w' ⟨rfl, hq2⟩; obtain ⟨y, rfl⟩ := Wd.next _ hq2; clear hq2)
              exact ⟨⟨q3 + 2 * bs, y, by go_num, by go_num, rfl, by omega⟩, by simp only [intOf]; omega⟩
            · have hlI3 : ¬ ((q3 : Int) + 2 * (bs : Int) ≤ (n : Int)) := by omega
              by_cases hlt4 : q3 + bs < n
              · have hlI4 : (q3 : Int) + (bs : Int) < (n : Int) := by omega
                have h1 : ∀ y : Wd w, Calls Tryz.prog 244 #[.slice (some ⟨g, o, none⟩) n cap, .int .i64 (q3 : Int), .int .i64 ((q3 : Int) + (bs : Int)), .int .i64 (n : Int), .func (.func 177) #[] #[]] y.w fun e w' => e = .returned (.tuple #[]) ∧ Q y.w w' := fun y => by
                  have := hSy q3 (q3 + bs) n (by omega) hlt4 (Nat.le_refl _) y
                  simpa using this
                clear hSy
                go_wp2_with (go_at_call 244; refine (h1 _).mono ?_; rintro e w' ⟨rfl, hq2⟩; obtain ⟨y, rfl⟩ := Wd.next _ hq2; clear hq2)
                exact ⟨⟨bs * 2, y, by go_num, rfl, by omega, by omega⟩, by simp only [intOf]; omega⟩
              · have hlI4 : ¬ ((q3 : Int) + (bs : Int) < (n : Int)) := by omega
                clear hSy
                go_wp2_with fail
                exact ⟨⟨bs * 2, z3, by go_num, rfl, by omega, by omega⟩, by simp only [intOf]; omega⟩
        · have hlI2 : ¬ ((bs : Int) < (n : Int)) := by omega
          go_wp2_with fail
          go_end0
          exact ⟨rfl, z2.q⟩
set_option maxRecDepth 100000 in
theorem srtSCl (g o cap : Nat) (l : List (Found ClaimV)) (hs : SortedF l) (hn : l.length ≤ 1000) (w : World) (hR : RowsAt w (some ⟨g, o, none⟩) 11 fclC l) :
    Calls Tryz.prog 176 #[.slice (some ⟨g, o, none⟩) l.length cap, .func (.func 177) #[] #[]] w fun e w' => e = .returned (.tuple #[]) ∧ Q w w' := by
  have hst := stSCl g o cap l hs hn w hR
  clear hs hR
  generalize l.length = n at *
  go_enter Tryz.func176, Tryz.ntmps176
  go_wp2_with (go_at_call 219; refine hst.mono ?_; rintro e w' ⟨rfl, hq2⟩)
  go_end0
  exact ⟨rfl, hq2⟩
end Go.Proofs.YtflgkplneekpfaaGreatDoor.Known

namespace Go.Proofs.YtflgkplneekpfaaGreatDoor.Known
open Go.RowKit Grp Mem _root_.Go.Proofs.YtflgkplneekpfaaGreatDoor.Code Sha Sign _root_.Go.Proofs.YtflgkplneekpfaaGreatDoor.Item

theorem sortedF_of {α : Type} (f : ItemR → Found α) (h0 : ∀ x, (f x).rank = 0) (hd : ∀ x, (f x).dig = digOf x) (p : ItemR → Bool) (l : List ItemR) (h : Asc (digs l)) : SortedF ((l.filter p).map f) := by
  have h1 : ((l.filter p).map f).Pairwise fun a b => 0 ≤ cmpF b a := by
    rw [List.pairwise_map]
    refine List.Pairwise.filter p ?_
    unfold Asc digs at h
    rw [List.pairwise_map] at h
    refine h.imp ?_
    intro a b hab
    unfold cmpF
    rw [h0, h0, hd, hd]
    unfold cmpS
    rw [lessB_asymm hab]
    simp only [Bool.false_eq_true, if_false, hab, if_true]
    decide
  intro i j hi hj hij
  rcases Nat.lt_or_ge i j with hlt | hge
  · exact List.pairwise_iff_getElem.1 h1 i j hi hj hlt
  · have : i = j := by omega
    subst this
    unfold cmpF cmpS
    rw [lessB_irrefl]
    simp [orI, Lib.compareInt]

/-- The sort, of an own row that is sorted already: nothing is written. -/
theorem sortedSB_any (A : Option Addr) (c m base : Nat) (l : List (Found BallotV)) (w : World) (hm : m = l.length) (hn : m ≤ 1000) (hs : SortedF l) (h : Owns w base 234 9 (.slice A m c) m (l.flatMap fbC)) (hB : base ≤ w.heap.size) :
    Calls Tryz.prog 212 #[.slice A m c, .func (.func 213) #[] #[]] w fun e w' => e = .returned (.tuple #[]) ∧ (RowsAt w' A 9 fbC l ∧ Below base w w') := by
  have hR : RowsAt w A 9 fbC l := Owns.rows fb_len h hm
  rcases h.2 with ⟨e1, h0⟩ | ⟨g, cap, cur, fz, hv, hb, hg, _⟩
  · injection e1 with hA _ hc
    subst hA hc
    have hl : l = [] := List.length_eq_zero_iff.1 (by omega)
    subst hl
    subst hm
    refine (stableB_nil w).mono ?_
    rintro e w' ⟨rfl, rfl⟩
    exact ⟨rfl, RowsAt.nil _ _ _ _, Below.refl _ _⟩
  · injection hv with hA _ hc
    subst hA
    subst hm
    refine (srtSB g 0 c l hs hn w hR).mono ?_
    rintro e w' ⟨rfl, hq⟩
    exact ⟨rfl, hR.q hq, hq.mono hB⟩
/-- What hands back a list of ballots, in a row of its own. -/
def BallotsOwn (l : List BallotV) (w : World) (e : Ending) (w' : World) : Prop := ∃ (A : Option Addr) (c : Nat), e = .returned (.slice A l.length c) ∧ l.length ≤ c ∧ c ≤ maxLen ∧ Owns w' w.heap.size 46 7 (.slice A l.length c) l.length (l.flatMap BallotV.cells) ∧ Q w w'
def ballotsS (actor : ByteArray) (gen : Int) (l : List ItemR) : List BallotV := (takeB actor gen l).map (·.val)
set_option maxRecDepth 100000 in
set_option maxHeartbeats 2000000 in
theorem pickSB_any (k : KR) (p1 p2 : Nat) (actor : ByteArray) (gen : Int) (w : World) (hT : Tab w) (hK : KIn w k) (h1 : w.cell? ⟨p1, 0, none⟩ = some (.string actor)) (hp1 : p1 < w.heap.size) (h2 : w.cell? ⟨p2, 0, none⟩ = some (.int .i64 gen)) (hp2 : p2 < w.heap.size) (hn : k.l.length ≤ 1000) (hs : SortedF (takeB actor gen k.l)) :
    Calls Tryz.prog 163 #[.agg (knA k), .func (.func 164) #[] #[.pointer (some ⟨p1, 0, none⟩), .pointer (some ⟨p2, 0, none⟩)]] w (BallotsOwn (ballotsS actor gen k.l) w) := by
  obtain ⟨w1, x, hx, hq1, hbk⟩ := boxedB w 31 k.cells
  have hx : w.alloc (.cells (knA k) 31) = x.w := hx
  have cI : ∀ y : Wd w1, y.w.cell? ⟨w.heap.size, 1, none⟩ = some (.slice k.iA k.l.length k.iC) := fun y => (y.blk hbk).cell 1
  have hKy : ∀ y : Wd w1, KIn y.w k := fun y => hK.q (Q.trans hq1 y.q)
  have hTy : ∀ y : Wd w1, Tab y.w := fun y => hT.q (Q.trans hq1 y.q)
  have hW1 : ∀ y : Wd w1, y.w.cell? ⟨p1, 0, none⟩ = some (.string actor) := fun y => ((Q.trans hq1 y.q).cell (p := ⟨p1, 0, none⟩) hp1).trans h1
  have hW2 : ∀ y : Wd w1, y.w.cell? ⟨p2, 0, none⟩ = some (.int .i64 gen) := fun y => ((Q.trans hq1 y.q).cell (p := ⟨p2, 0, none⟩) hp2).trans h2
  have hP1 : ∀ y : Wd w1, p1 < y.w.heap.size := fun y => Nat.lt_of_lt_of_le hp1 (Q.trans hq1 y.q).size
  have hP2 : ∀ y : Wd w1, p2 < y.w.heap.size := fun y => Nat.lt_of_lt_of_le hp2 (Q.trans hq1 y.q).size
  have HQ := Lib.hid hq1
  obtain ⟨i0, hi, hz0, hz1, hz2⟩ := info_parts found_info
  obtain ⟨j0, hji, hy0, hy1, hy2⟩ := info_parts bal_info
  have e99 : ∀ args w, (callFunc 164 args).run Tryz.prog w = .ok (.enter 164 args) w := enters_of Tryz.func164 (by kernel_rfl) rfl
  clear hbk hq1 h1 h2 hp1 hp2
  go_enter Tryz.func163, Tryz.ntmps163
  go_wp2_with fail
  go_loopw [5, 17] (fun a i wr => ∃ (j c m : Nat) (A : Option Addr) (z : Wd w1), a = .slice A m c ∧ i = .int .i64 j ∧ wr = z.w ∧ j ≤ k.l.length ∧ m ≤ j ∧ m ≤ c ∧ c ≤ maxLen ∧ Hid (m = (takeB actor gen (k.l.take j)).length) ∧ Owns z.w w1.heap.size 234 9 (.slice A m c) m ((takeB actor gen (k.l.take j)).flatMap fbC)) (fun _ i _ => k.l.length - (intOf i).toNat)
  case atStart => exact ⟨0, 0, 0, none, x, rfl, rfl, rfl, Nat.zero_le _, Nat.zero_le _, Nat.zero_le _, Nat.zero_le _, Lib.hid rfl, Owns.nil_ _ _ _ _⟩
  case round =>
    obtain ⟨j, c, m, A, z, rfl, rfl, rfl, hj, hmj, hmc, hcm, hm, hown⟩ := hrel
    by_cases hlt : j < k.l.length
    · obtain ⟨b, o, eA, hb, hld⟩ := (hKy z).items.load j hlt
      have hio := fun y : Wd z.w => ((hKy z).items.each _ (List.getElem_mem hlt)).q y.q
      rw [eA]
      have hTz : ∀ y : Wd z.w, Tab y.w := fun y => hTy ⟨y.w, Q.trans z.q y.q⟩
      have hzs := z.q.size
      have HTS := Lib.hid (takeB_step actor gen k.l j hlt)
      generalize k.l[j] = it at *
      go_wp2_with (first | (refine wpList_load_run 50 (.tmp 19) (.pointer (some ⟨b, o + j * 49, none⟩)) (.agg (itA it)) ?_ ?_ ?_ ?_ ?_; rfl; rfl; rfl; exact hld ⟨_, Q.refl _⟩) | (refine wpList_store_blk (Blk.new z.w 50 item0.cells.toArray) rfl 50 (.tmp 7) (.tmp 20) it.cells rfl rfl rfl (by kernel_rfl) (it_all _) (Nat.le_refl 49) ?_))
      intro W hW hbel
      rw [splice_all _ _ (by rfl)] at hW
      have hqz : Q z.w W := hbel _ _ (Nat.le_refl _) (q_new _ _ _)
      have hq3 : Q w1 W := Q.trans z.q hqz
      have hLi : ∀ y : Wd W, (Instr.loadAt 50 (.pointer (some ⟨z.w.heap.size, 0, none⟩))).run Tryz.prog y.w = .ok (.agg (itA it)) y.w := Wd.load hW.lt (Blk.range hW) Tryz.underlying50 rfl (by kernel_rfl)
      have hcl : ∀ y : Wd W, Calls Tryz.prog 164 #[.agg (itA it), .pointer (some ⟨p1, 0, none⟩), .pointer (some ⟨p2, 0, none⟩)] y.w fun e w' => e = .returned (.tuple #[.agg (ballotA it.ballot), .int .i64 0, .bool (wantB actor gen it)]) ∧ Q y.w w' := fun y => wantB_any p1 p2 actor gen it y.w (hW1 ⟨y.w, Q.trans hq3 y.q⟩) (hP1 ⟨y.w, Q.trans hq3 y.q⟩) (hW2 ⟨y.w, Q.trans hq3 y.q⟩) (hP2 ⟨y.w, Q.trans hq3 y.q⟩)
      have hWs := hq3.size
      obtain ⟨v, hv⟩ := Wd.first W
      rw [hv]
      clear hbel hld hv eA hb cI hW1 hW2 hP1 hP2
      generalize hwt : wantB actor gen it = wt at *
      go_wp2_with (first | (refine wpList_load_run 50 (.tmp 7) (.pointer (some ⟨z.w.heap.size, 0, none⟩)) (.agg (itA it)) ?_ ?_ ?_ ?_ ?_; rfl; rfl; rfl; exact hLi _) | (go_at_fn 164; refine (hcl _).mono ?_; rintro e w' ⟨rfl, hq2⟩; obtain ⟨y, rfl⟩ := Wd.next _ hq2; clear hq2) | (refine wpList_store_blk (Blk.new y.w 46 ballot0.cells.toArray) rfl 46 (.tmp 8) (.tmp 25) it.ballot.cells rfl rfl rfl (by kernel_rfl) (ballot_all _) (Nat.le_refl 7) ?_))
      intro W2 hB2 hbel2
      rw [splice_all _ _ (by rfl)] at hB2
      have hqy : Q W W2 := hbel2 _ _ y.q.size (Q.trans y.q (q_new _ _ _))
      have hq4 : Q w1 W2 := Q.trans hq3 hqy
      have hLi2 : ∀ y : Wd W2, (Instr.loadAt 50 (.pointer (some ⟨z.w.heap.size, 0, none⟩))).run Tryz.prog y.w = .ok (.agg (itA it)) y.w := fun y => hLi ⟨y.w, Q.trans hqy y.q⟩
      have hLb2 : ∀ u : Wd W2, (Instr.loadAt 46 (.pointer (some ⟨y.w.heap.size, 0, none⟩))).run Tryz.prog u.w = .ok (.agg (ballotA it.ballot)) u.w := Wd.load hB2.lt (Blk.range hB2) Tryz.underlying46 rfl (by kernel_rfl)
      have hIi : ∀ u : Wd W2, ItemIn u.w it := fun u => hio ⟨u.w, Q.trans (Q.trans hqz hqy) u.q⟩
      have hdg2 : ∀ u : Wd W2, Calls Tryz.prog 25 #[.agg (itA it)] u.w fun e w' => e = .returned (.string (digOf it)) ∧ Q u.w w' := fun u => digest_any it u.w (hTz ⟨u.w, Q.trans (Q.trans hqz hqy) u.q⟩) (hIi u)
      have hownW : ∀ u : Wd W2, Owns u.w w1.heap.size 234 9 (.slice A m c) m ((takeB actor gen (k.l.take j)).flatMap fbC) := fun u => hown.q (Q.trans (Q.trans hqz hqy) u.q)
      have hrg : ∀ (r : Bool), itemRight it = r → ∀ u : Wd W2, Calls Tryz.prog 12 #[.agg (itA it)] u.w fun e w' => e = .returned (.bool r) ∧ Q u.w w' := fun r hr u => right_at it r u.w (hIi u) hr
      have HQ4 := Lib.hid hq4
      have hWs2 := hq4.size
      obtain ⟨u, hu⟩ := Wd.first W2
      rw [hu]
      clear hbel2 hu hqy hq4 hq3 hqz hLi hcl hio hTz hown hTy hW hB2
      cases wt
      · have HTE := Lib.hid (show takeB actor gen (k.l.take (j + 1)) = takeB actor gen (k.l.take j) by rw [HTS.out]; simp)
        go_wp2_with fail
        exact ⟨⟨j + 1, c, m, A, ⟨u.w, Q.trans HQ4.out u.q⟩, rfl, by go_num, rfl, by omega, by omega, hmc, hcm, Lib.hid (by rw [HTE.out]; exact hm.out), by rw [HTE.out]; exact hownW u⟩, by simp only [intOf]; omega⟩
      · cases hr : itemRight it
        · have HTE := Lib.hid (show takeB actor gen (k.l.take (j + 1)) = takeB actor gen (k.l.take j) by rw [HTS.out, hr]; simp)
          have hrg0 := hrg false hr
          clear hrg hr
          go_wp2_with (first | (refine wpList_load_run 50 (.tmp 7) (.pointer (some ⟨z.w.heap.size, 0, none⟩)) (.agg (itA it)) ?_ ?_ ?_ ?_ ?_; rfl; rfl; rfl; exact hLi2 _) | (go_at_call 12; refine (hrg0 _).mono ?_; rintro e w' ⟨rfl, hq2⟩; obtain ⟨t, rfl⟩ := Wd.next _ hq2; clear hq2))
          exact ⟨⟨j + 1, c, m, A, ⟨t.w, Q.trans HQ4.out t.q⟩, rfl, by go_num, rfl, by omega, by omega, hmc, hcm, Lib.hid (by rw [HTE.out]; exact hm.out), by rw [HTE.out]; exact hownW t⟩, by simp only [intOf]; omega⟩
        · have HTE := Lib.hid (show takeB actor gen (k.l.take (j + 1)) = takeB actor gen (k.l.take j) ++ [foundB it] by rw [HTS.out, hr]; simp)
          have hrg0 := hrg true hr
          clear hrg hr
          go_wp2_with (first | (refine wpList_load_run 50 (.tmp 7) (.pointer (some ⟨z.w.heap.size, 0, none⟩)) (.agg (itA it)) ?_ ?_ ?_ ?_ ?_; rfl; rfl; rfl; exact hLi2 _) | (go_at_call 12; refine (hrg0 _).mono ?_; rintro e w' ⟨rfl, hq2⟩; obtain ⟨t, rfl⟩ := Wd.next _ hq2; clear hq2))
          refine wp_region_wd_parts t 2 6 (by kernel_rfl) (by kernel_rfl) (by intro c d v a w h; cases d <;> exact h) ?_
          simp only [List.take_succ_cons, List.take_zero, List.drop_succ_cons, List.drop_zero]
          refine wpPure_move (.tmp 5) (.slice A m c) rfl rfl rfl ?_
          dsimp only [Act.put]
          simp only [List.setIfInBounds_toArray, List.set_cons_succ, List.set_cons_zero]
          refine wpPure_move (.tmp 9) (.int .i64 0) rfl rfl rfl ?_
          dsimp only [Act.put]
          simp only [List.setIfInBounds_toArray, List.set_cons_succ, List.set_cons_zero]
          refine wpPure_nil ?_
          refine wpQuiet_load_run 50 (.tmp 7) (.pointer (some ⟨z.w.heap.size, 0, none⟩)) (.agg (itA it)) rfl rfl rfl hLi2 ?_
          dsimp only [Act.put]
          simp only [List.setIfInBounds_toArray, List.set_cons_succ, List.set_cons_zero]
          go_big_quiet_step (first | (go_at_call 25; exact Wd.call _ (hdg2 _)))
          refine wpQuiet_load_run 46 (.tmp 8) (.pointer (some ⟨y.w.heap.size, 0, none⟩)) (.agg (ballotA it.ballot)) rfl rfl rfl hLb2 ?_
          dsimp only [Act.put]
          simp only [List.setIfInBounds_toArray, List.set_cons_succ, List.set_cons_zero]
          refine wpQuiet_build_run 234 _ #[(0, .int .i64 0), (1, .string (digOf it)), (2, .agg (ballotA it.ballot))] _ rfl rfl (by simp only [List.map_toArray, List.map_cons, List.map_nil]; rfl) (build_found (digOf it) it.ballot) ?_
          dsimp only [Act.put]
          simp only [List.setIfInBounds_toArray, List.set_cons_succ, List.set_cons_zero]
          refine wpQuiet_nil ?_
          rintro w6 ⟨t2, rfl⟩
          refine wpList_buildSlice_run 231 1 _ #[(0, .agg (fbC (foundB it)).toArray)] _ rfl rfl (by simp only [List.map_toArray, List.map_cons, List.map_nil]; rfl) (bs_found (foundB it) _) ?_
          dsimp only [Act.put]
          simp only [List.setIfInBounds_toArray, List.set_cons_succ, List.set_cons_zero]
          refine wpList_append_rows fb_len fb_one rfl (.tmp 33) (.tmp 39) 231 234 i0 _ 96 rfl Tryz.underlying231 hi hz0 hz1 hz2 rfl (by decide) (by decide) w1.heap.size (.slice A m c) m (takeB actor gen (k.l.take j)) rfl ((hownW t2).alloc (.cells (fbC (foundB it)).toArray 234)) (some ⟨t2.w.heap.size, 0, none⟩) 1 1 [foundB it] rfl (RowsAt.one t2.w 234 (foundB it) _ rfl) rfl (by omega) (by have := t2.q.size; simp; omega) ?_
          intro A5 c5 w5 hc5 hm5 hown5 hg5
          have hq5 : Q w1 w5 := q_grown (Q.trans (Q.trans HQ4.out t2.q) (q_new _ _ _)) (Nat.le_refl _) ((hownW t2).alloc _) hg5
          obtain ⟨y5, rfl⟩ : ∃ y5 : Wd w1, w5 = y5.w := ⟨⟨w5, hq5⟩, rfl⟩
          rw [← HTE.out] at hown5
          have HM5 : Hid (m + 1 = (takeB actor gen (k.l.take (j + 1))).length) := Lib.hid (by rw [HTE.out, List.length_append, ← hm.out]; rfl)
          clear hownW hg5 hq5 hdg2 hLi2 hLb2 hIi hrg0
          go_wp2_with fail
          exact ⟨⟨j + 1, c5, m + 1, A5, y5, rfl, by go_num, rfl, by omega, by omega, hc5, hm5, HM5, hown5⟩, by simp only [intOf]; omega⟩
    · have hjn : j = k.l.length := by omega
      have hm := hm.out
      rw [hjn, List.take_length] at hown hm
      have hm20 : m ≤ 1000 := by omega
      have hso := sortedSB_any A c m w1.heap.size (takeB actor gen k.l) z.w hm hm20 hs hown z.q.size
      have hlen : (takeB actor gen k.l).length = m := hm.symm
      have HB := Lib.hid (show ballotsS actor gen k.l = (takeB actor gen k.l).map (·.val) from rfl)
      have HZ := Lib.hid z.q
      clear hown hm hs
      generalize takeB actor gen k.l = L at hso hlen HB
      clear hjn cI hW1 hW2 hP1 hP2 hKy hTy
      go_wp2_with (first | (go_at_call 212; refine hso.mono ?_; rintro e w6 ⟨rfl, hR6, hb6⟩; have HQ6 := Lib.hid (Below.trans HZ.out hb6); clear hb6 hso; obtain ⟨y6, hy6⟩ := Wd.first w6; rw [hy6]; clear hy6) | (refine wpList_make_own _ rfl _ _ 149 rfl w6.heap.size 46 j0 _ 7 Tryz.underlying149 hji hy0 hy1 .i64 .i64 (m : Int) m rfl rfl rfl (by rw [hy2]; omega) (by simp only [maxLen]; omega) y6.q.size ?_))
      intro w7 hown0 hg0
      have hown : Owns w7 w6.heap.size 46 7 (.slice (some ⟨y6.w.heap.size, 0, none⟩) 0 m) 0 (([] : List BallotV).flatMap BallotV.cells) := Owns.of hown0
      have hq7 : Q w6 w7 := Below.grown y6.q hg0 y6.q.size (fun _ h => by cases h)
      obtain ⟨y7, rfl⟩ : ∃ y7 : Wd w6, w7 = y7.w := ⟨⟨w7, hq7⟩, rfl⟩
      have hRy : ∀ y : Wd w6, RowsAt y.w A 9 fbC L := fun y => hR6.q y.q
      clear hown0 hg0 hq7 hR6
      go_wp2_with fail
      go_loopw [11, 49] (fun a i wr => ∃ (j c : Nat) (A : Option Addr) (z : Wd w6), a = .slice A j c ∧ i = .int .i64 j ∧ wr = z.w ∧ j ≤ m ∧ j ≤ c ∧ c ≤ maxLen ∧ Owns z.w w6.heap.size 46 7 (.slice A j c) j (((L.take j).map (·.val)).flatMap BallotV.cells)) (fun _ i _ => m - (intOf i).toNat)
      case atStart => exact ⟨0, m, _, y7, rfl, rfl, rfl, Nat.zero_le _, Nat.zero_le _, by simp only [maxLen]; omega, hown⟩
      case round =>
        clear hown
        obtain ⟨j2, c2, A2, z2, rfl, rfl, rfl, hj2, hjc2, hcm2, hown⟩ := hrel
        by_cases hlt2 : j2 < m
        · obtain ⟨b, o, eA, hb, hcs⟩ := hRy z2 (by omega)
          have hld : ∀ y : Wd z2.w, (Instr.loadAt 234 (.pointer (some ⟨b, o + j2 * 9, none⟩))).run Tryz.prog y.w = .ok (.agg (fbC (L[j2]'(by omega))).toArray) y.w := Wd.load hb (hcs j2 (by omega)) Tryz.underlying234 rfl (by kernel_rfl)
          have HLS := Lib.hid (show (L.take (j2 + 1)).map (·.val) = (L.take j2).map (·.val) ++ [(L[j2]'(by omega)).val] by rw [List.take_succ_eq_append_getElem (by omega), List.map_append]; rfl)
          rw [eA]
          have hzs2 := z2.q.size
          clear hcs
          generalize L[j2]'(by omega) = e2 at *
          have hbf := Blk.new z2.w 234 (fbC default).toArray
          go_wp2_with (first | (refine wpList_load_run 234 (.tmp 51) (.pointer (some ⟨b, o + j2 * 9, none⟩)) (.agg (fbC e2).toArray) ?_ ?_ ?_ ?_ ?_; rfl; rfl; rfl; exact hld ⟨_, Q.trans (Q.refl _) (Q.refl _)⟩) | (refine wpList_store_blk hbf rfl 234 (.tmp 13) (.tmp 52) (fbC e2) rfl rfl rfl (by kernel_rfl) (fb_all _) (Nat.le_refl 9) ?_))
          intro W hW hbel
          rw [splice_all _ _ (by rfl)] at hW
          have hqz : Q z2.w W := hbel _ _ (Nat.le_refl _) (q_new _ _ _)
          have hq3 : Q w6 W := Q.trans z2.q hqz
          have hrv : W.rangeAt z2.w.heap.size 2 e2.val.cells := by
            have := range_sub (Blk.range hW) 2 7
            rw [Nat.zero_add] at this
            exact this
          have hLv : ∀ y : Wd W, (Instr.loadAt 46 (.pointer (some ⟨z2.w.heap.size, 2, none⟩))).run Tryz.prog y.w = .ok (.agg (ballotA e2.val)) y.w := Wd.load hW.lt hrv Tryz.underlying46 rfl (by kernel_rfl)
          have hownW : ∀ y : Wd W, Owns y.w w6.heap.size 46 7 (.slice A2 j2 c2) j2 (((L.take j2).map (·.val)).flatMap BallotV.cells) := fun y => hown.q (Q.trans hqz y.q)
          have HQ3 := Lib.hid hq3
          have hWs := hq3.size
          obtain ⟨v, hv⟩ := Wd.first W
          rw [hv]
          clear hW hbel hld hv hqz hq3 hown hrv hbf
          go_wp2_with (first | (refine wpList_load_run 46 (.tmp 54) (.pointer (some ⟨z2.w.heap.size, 2, none⟩)) (.agg (ballotA e2.val)) ?_ ?_ ?_ ?_ ?_; rfl; rfl; rfl; exact hLv _) | (refine wpList_buildSlice_run 149 1 _ #[(0, .agg (ballotA e2.val))] _ rfl rfl (by simp only [List.map_toArray, List.map_cons, List.map_nil]; rfl) (bs_ballot e2.val _) ?_) | (at_builtin; refine wpList_append_rows bal_len bal_one rfl (.tmp 53) (.tmp 56) 149 46 j0 _ 72 rfl Tryz.underlying149 hji hy0 hy1 hy2 rfl (by decide) (by decide) w6.heap.size (.slice A2 j2 c2) j2 ((L.take j2).map (·.val)) rfl ((hownW v).alloc (.cells (ballotA e2.val) 46)) (some ⟨v.w.heap.size, 0, none⟩) 1 1 [e2.val] rfl (RowsAt.one v.w 46 e2.val _ rfl) rfl (by omega) (by have := v.q.size; simp; omega) ?_))
          intro A5 c5 w5 hc5 hm5 hown5 hg5
          have hq5 : Q w6 w5 := q_grown (Q.trans (Q.trans HQ3.out v.q) (q_new _ _ _)) (Nat.le_refl _) ((hownW v).alloc _) hg5
          obtain ⟨y5, rfl⟩ : ∃ y5 : Wd w6, w5 = y5.w := ⟨⟨w5, hq5⟩, rfl⟩
          have e5 : List.flatMap BallotV.cells (List.take j2 (List.map (fun x => x.val) L)) ++ e2.val.cells = ((L.take (j2 + 1)).map (·.val)).flatMap BallotV.cells := by
            rw [HLS.out, List.flatMap_append, List.map_take]
            simp
          rw [e5] at hown5
          clear hownW hg5 hq5 hLv e5
          go_wp2_with fail
          exact ⟨⟨j2 + 1, c5, A5, y5, rfl, by go_num, rfl, by omega, hc5, hm5, hown5⟩, by simp only [intOf]; omega⟩
        · have hjn : j2 = m := by omega
          have hall : L.take j2 = L := List.take_of_length_le (by omega)
          rw [hall, ← HB.out] at hown
          have hl : (ballotsS actor gen k.l).length = j2 := by rw [HB.out, List.length_map, hlen, hjn]
          have hfin : BallotsOwn (ballotsS actor gen k.l) w (.returned (.slice A2 j2 c2)) z2.w := ⟨A2, c2, by rw [hl], by omega, hcm2, (by rw [hl]; exact hown.low (Nat.le_trans HQ.out.size HQ6.out.size)), Q.trans HQ.out (Below.trans HQ6.out (Below.mono z2.q (by have := HQ6.out.size; omega)))⟩
          have HF := Lib.hid hfin
          clear hfin hl hall hown
          go_wp2_with fail
          go_ret
          exact HF.out
set_option maxRecDepth 100000 in
set_option maxHeartbeats 2000000 in
theorem ballotsS_any (k : KR) (actor : ByteArray) (gen : Int) (w : World) (hT : Tab w) (hK : KIn w k) (hn : k.l.length ≤ 1000) (hs : SortedF (takeB actor gen k.l)) :
    Calls Tryz.prog 102 #[.agg (knA k), .string actor, .int .i64 gen] w (BallotsOwn (ballotsS actor gen k.l) w) := by
  have b1 := Blk.new w 31 (knA k)
  have q1 := q_new w (knA k) 31
  have b2 := Blk.new' (g := w.heap.size + 1) (w.alloc (.cells (knA k) 31)) 9 #[.string actor] (by simp)
  have q2 := q_new (w.alloc (.cells (knA k) 31)) #[.string actor] 9
  have b3 := Blk.new' (g := w.heap.size + 1 + 1) ((w.alloc (.cells (knA k) 31)).alloc (.cells #[.string actor] 9)) 3 #[.int .i64 gen] (by simp)
  have q3 := q_new ((w.alloc (.cells (knA k) 31)).alloc (.cells #[.string actor] 9)) #[.int .i64 gen] 3
  have b1 := (b1.q q2).q q3
  have b2 := b2.q q3
  have hq := Q.trans (Q.trans q1 q2) q3
  obtain ⟨w3, hw3⟩ : ∃ w3, w3 = ((w.alloc (.cells (knA k) 31)).alloc (.cells #[.string actor] 9)).alloc (.cells #[.int .i64 gen] 3) := ⟨_, rfl⟩
  rw [← hw3] at b1 b2 b3 hq
  have hLk := Wd.load (P := Tryz.prog) (ty := 31) b1.lt (Blk.range b1) Tryz.underlying31 rfl (by kernel_rfl) ⟨w3, Q.refl w3⟩
  have hp := pickSB_any k (w.heap.size + 1) (w.heap.size + 1 + 1) actor gen w3 (hT.q hq) (hK.q hq) (b2.cell 0) b2.lt (b3.cell 0) b3.lt hn hs
  have HX := Lib.hid hw3
  have HQ := Lib.hid hq
  clear q1 q2 q3 b1 b2 b3 hq hw3
  go_enter Tryz.func102, Tryz.ntmps102
  go_upto_region 1 with (fail)
  refine (show Code.wp _ _ _ _ w3 → Code.wp _ _ _ _ _ from fun h => by rw [HX.out] at h; exact h) ?_
  go_wp2_with (first | (refine wpList_load_run 31 (.tmp 3) (.pointer (some ⟨w.heap.size, 0, none⟩)) (.agg (knA k)) ?_ ?_ ?_ ?_ ?_; rfl; rfl; rfl; exact hLk) | (go_at_call 163; refine hp.mono ?_; rintro e w' ⟨A, c, rfl, h1, h2, h3, hq4⟩))
  go_ret
  exact ⟨A, c, rfl, h1, h2, h3.low HQ.out.size, Q.trans HQ.out hq4⟩

/-- The sort, of an own row that is sorted already: nothing is written. -/
theorem sortedSCl_any (A : Option Addr) (c m base : Nat) (l : List (Found ClaimV)) (w : World) (hm : m = l.length) (hn : m ≤ 1000) (hs : SortedF l) (h : Owns w base 208 11 (.slice A m c) m (l.flatMap fclC)) (hB : base ≤ w.heap.size) :
    Calls Tryz.prog 176 #[.slice A m c, .func (.func 177) #[] #[]] w fun e w' => e = .returned (.tuple #[]) ∧ (RowsAt w' A 11 fclC l ∧ Below base w w') := by
  have hR : RowsAt w A 11 fclC l := Owns.rows fcl_len h hm
  rcases h.2 with ⟨e1, h0⟩ | ⟨g, cap, cur, fz, hv, hb, hg, _⟩
  · injection e1 with hA _ hc
    subst hA hc
    have hl : l = [] := List.length_eq_zero_iff.1 (by omega)
    subst hl
    subst hm
    refine (stableCl_nil w).mono ?_
    rintro e w' ⟨rfl, rfl⟩
    exact ⟨rfl, RowsAt.nil _ _ _ _, Below.refl _ _⟩
  · injection hv with hA _ hc
    subst hA
    subst hm
    refine (srtSCl g 0 c l hs hn w hR).mono ?_
    rintro e w' ⟨rfl, hq⟩
    exact ⟨rfl, hR.q hq, hq.mono hB⟩
def claimsS (key : ByteArray) (l : List ItemR) : List ClaimV := (takeCl key l).map (·.val)
set_option maxRecDepth 100000 in
set_option maxHeartbeats 2000000 in
theorem pickSCl_any (k : KR) (p1 : Nat) (key : ByteArray) (w : World) (hT : Tab w) (hK : KIn w k) (h1 : w.cell? ⟨p1, 0, none⟩ = some (.string key)) (hp1 : p1 < w.heap.size) (hn : k.l.length ≤ 1000) (hs : SortedF (takeCl key k.l)) :
    Calls Tryz.prog 105 #[.agg (knA k), .func (.func 106) #[] #[.pointer (some ⟨p1, 0, none⟩)]] w (ListClAre (claimsS key k.l) w) := by
  obtain ⟨w1, x, hx, hq1, hbk⟩ := boxedB w 31 k.cells
  have hx : w.alloc (.cells (knA k) 31) = x.w := hx
  have cI : ∀ y : Wd w1, y.w.cell? ⟨w.heap.size, 1, none⟩ = some (.slice k.iA k.l.length k.iC) := fun y => (y.blk hbk).cell 1
  have hKy : ∀ y : Wd w1, KIn y.w k := fun y => hK.q (Q.trans hq1 y.q)
  have hTy : ∀ y : Wd w1, Tab y.w := fun y => hT.q (Q.trans hq1 y.q)
  have hW1 : ∀ y : Wd w1, y.w.cell? ⟨p1, 0, none⟩ = some (.string key) := fun y => ((Q.trans hq1 y.q).cell (p := ⟨p1, 0, none⟩) hp1).trans h1
  have hP1 : ∀ y : Wd w1, p1 < y.w.heap.size := fun y => Nat.lt_of_lt_of_le hp1 (Q.trans hq1 y.q).size
  have HQ := Lib.hid hq1
  obtain ⟨i0, hi, hz0, hz1, hz2⟩ := info_parts foundCl_info
  obtain ⟨j0, hji, hy0, hy1, hy2⟩ := info_parts valCl_info
  have e99 : ∀ args w, (callFunc 106 args).run Tryz.prog w = .ok (.enter 106 args) w := enters_of Tryz.func106 (by kernel_rfl) rfl
  clear hbk hq1 h1 hp1
  go_enter Tryz.func105, Tryz.ntmps105
  go_wp2_with fail
  go_loopw [5, 17] (fun a i wr => ∃ (j c m : Nat) (A : Option Addr) (z : Wd w1), a = .slice A m c ∧ i = .int .i64 j ∧ wr = z.w ∧ j ≤ k.l.length ∧ m ≤ j ∧ m ≤ c ∧ c ≤ maxLen ∧ Hid (m = (takeCl key (k.l.take j)).length) ∧ Owns z.w w1.heap.size 208 11 (.slice A m c) m ((takeCl key (k.l.take j)).flatMap fclC)) (fun _ i _ => k.l.length - (intOf i).toNat)
  case atStart => exact ⟨0, 0, 0, none, x, rfl, rfl, rfl, Nat.zero_le _, Nat.zero_le _, Nat.zero_le _, Nat.zero_le _, Lib.hid rfl, Owns.nil_ _ _ _ _⟩
  case round =>
    obtain ⟨j, c, m, A, z, rfl, rfl, rfl, hj, hmj, hmc, hcm, hm, hown⟩ := hrel
    by_cases hlt : j < k.l.length
    · obtain ⟨b, o, eA, hb, hld⟩ := (hKy z).items.load j hlt
      have hio := fun y : Wd z.w => ((hKy z).items.each _ (List.getElem_mem hlt)).q y.q
      rw [eA]
      have hTz : ∀ y : Wd z.w, Tab y.w := fun y => hTy ⟨y.w, Q.trans z.q y.q⟩
      have hzs := z.q.size
      have HTS := Lib.hid (takeCl_step key k.l j hlt)
      generalize k.l[j] = it at *
      go_wp2_with (first | (refine wpList_load_run 50 (.tmp 19) (.pointer (some ⟨b, o + j * 49, none⟩)) (.agg (itA it)) ?_ ?_ ?_ ?_ ?_; rfl; rfl; rfl; exact hld ⟨_, Q.refl _⟩) | (refine wpList_store_blk (Blk.new z.w 50 item0.cells.toArray) rfl 50 (.tmp 7) (.tmp 20) it.cells rfl rfl rfl (by kernel_rfl) (it_all _) (Nat.le_refl 49) ?_))
      intro W hW hbel
      rw [splice_all _ _ (by rfl)] at hW
      have hqz : Q z.w W := hbel _ _ (Nat.le_refl _) (q_new _ _ _)
      have hq3 : Q w1 W := Q.trans z.q hqz
      have hLi : ∀ y : Wd W, (Instr.loadAt 50 (.pointer (some ⟨z.w.heap.size, 0, none⟩))).run Tryz.prog y.w = .ok (.agg (itA it)) y.w := Wd.load hW.lt (Blk.range hW) Tryz.underlying50 rfl (by kernel_rfl)
      have hcl : ∀ y : Wd W, Calls Tryz.prog 106 #[.agg (itA it), .pointer (some ⟨p1, 0, none⟩)] y.w fun e w' => e = .returned (.tuple #[.agg (claimA it.claim), .int .i64 0, .bool (wantCl key it)]) ∧ Q y.w w' := fun y => wantCl_any p1 key it y.w (hW1 ⟨y.w, Q.trans hq3 y.q⟩) (hP1 ⟨y.w, Q.trans hq3 y.q⟩)
      have hWs := hq3.size
      obtain ⟨v, hv⟩ := Wd.first W
      rw [hv]
      clear hbel hld hv eA hb cI hW1 hP1
      generalize hwt : wantCl key it = wt at *
      go_wp2_with (first | (refine wpList_load_run 50 (.tmp 7) (.pointer (some ⟨z.w.heap.size, 0, none⟩)) (.agg (itA it)) ?_ ?_ ?_ ?_ ?_; rfl; rfl; rfl; exact hLi _) | (go_at_fn 106; refine (hcl _).mono ?_; rintro e w' ⟨rfl, hq2⟩; obtain ⟨y, rfl⟩ := Wd.next _ hq2; clear hq2) | (refine wpList_store_blk (Blk.new y.w 37 claim0.cells.toArray) rfl 37 (.tmp 8) (.tmp 25) it.claim.cells rfl rfl rfl (by kernel_rfl) (claim_all _) (Nat.le_refl 9) ?_))
      intro W2 hB2 hbel2
      rw [splice_all _ _ (by rfl)] at hB2
      have hqy : Q W W2 := hbel2 _ _ y.q.size (Q.trans y.q (q_new _ _ _))
      have hq4 : Q w1 W2 := Q.trans hq3 hqy
      have hLi2 : ∀ y : Wd W2, (Instr.loadAt 50 (.pointer (some ⟨z.w.heap.size, 0, none⟩))).run Tryz.prog y.w = .ok (.agg (itA it)) y.w := fun y => hLi ⟨y.w, Q.trans hqy y.q⟩
      have hLb2 : ∀ u : Wd W2, (Instr.loadAt 37 (.pointer (some ⟨y.w.heap.size, 0, none⟩))).run Tryz.prog u.w = .ok (.agg (claimA it.claim)) u.w := Wd.load hB2.lt (Blk.range hB2) Tryz.underlying37 rfl (by kernel_rfl)
      have hIi : ∀ u : Wd W2, ItemIn u.w it := fun u => hio ⟨u.w, Q.trans (Q.trans hqz hqy) u.q⟩
      have hdg2 : ∀ u : Wd W2, Calls Tryz.prog 25 #[.agg (itA it)] u.w fun e w' => e = .returned (.string (digOf it)) ∧ Q u.w w' := fun u => digest_any it u.w (hTz ⟨u.w, Q.trans (Q.trans hqz hqy) u.q⟩) (hIi u)
      have hownW : ∀ u : Wd W2, Owns u.w w1.heap.size 208 11 (.slice A m c) m ((takeCl key (k.l.take j)).flatMap fclC) := fun u => hown.q (Q.trans (Q.trans hqz hqy) u.q)
      have hrg : ∀ (r : Bool), itemRight it = r → ∀ u : Wd W2, Calls Tryz.prog 12 #[.agg (itA it)] u.w fun e w' => e = .returned (.bool r) ∧ Q u.w w' := fun r hr u => right_at it r u.w (hIi u) hr
      have HQ4 := Lib.hid hq4
      have hWs2 := hq4.size
      obtain ⟨u, hu⟩ := Wd.first W2
      rw [hu]
      clear hbel2 hu hqy hq4 hq3 hqz hLi hcl hio hTz hown hTy hW hB2
      cases wt
      · have HTE := Lib.hid (show takeCl key (k.l.take (j + 1)) = takeCl key (k.l.take j) by rw [HTS.out]; simp)
        go_wp2_with fail
        exact ⟨⟨j + 1, c, m, A, ⟨u.w, Q.trans HQ4.out u.q⟩, rfl, by go_num, rfl, by omega, by omega, hmc, hcm, Lib.hid (by rw [HTE.out]; exact hm.out), by rw [HTE.out]; exact hownW u⟩, by simp only [intOf]; omega⟩
      · cases hr : itemRight it
        · have HTE := Lib.hid (show takeCl key (k.l.take (j + 1)) = takeCl key (k.l.take j) by rw [HTS.out, hr]; simp)
          have hrg0 := hrg false hr
          clear hrg hr
          go_wp2_with (first | (refine wpList_load_run 50 (.tmp 7) (.pointer (some ⟨z.w.heap.size, 0, none⟩)) (.agg (itA it)) ?_ ?_ ?_ ?_ ?_; rfl; rfl; rfl; exact hLi2 _) | (go_at_call 12; refine (hrg0 _).mono ?_; rintro e w' ⟨rfl, hq2⟩; obtain ⟨t, rfl⟩ := Wd.next _ hq2; clear hq2))
          exact ⟨⟨j + 1, c, m, A, ⟨t.w, Q.trans HQ4.out t.q⟩, rfl, by go_num, rfl, by omega, by omega, hmc, hcm, Lib.hid (by rw [HTE.out]; exact hm.out), by rw [HTE.out]; exact hownW t⟩, by simp only [intOf]; omega⟩
        · have HTE := Lib.hid (show takeCl key (k.l.take (j + 1)) = takeCl key (k.l.take j) ++ [foundCl it] by rw [HTS.out, hr]; simp)
          have hrg0 := hrg true hr
          clear hrg hr
          go_wp2_with (first | (refine wpList_load_run 50 (.tmp 7) (.pointer (some ⟨z.w.heap.size, 0, none⟩)) (.agg (itA it)) ?_ ?_ ?_ ?_ ?_; rfl; rfl; rfl; exact hLi2 _) | (go_at_call 12; refine (hrg0 _).mono ?_; rintro e w' ⟨rfl, hq2⟩; obtain ⟨t, rfl⟩ := Wd.next _ hq2; clear hq2))
          refine wp_region_wd_parts t 2 6 (by kernel_rfl) (by kernel_rfl) (by intro c d v a w h; cases d <;> exact h) ?_
          simp only [List.take_succ_cons, List.take_zero, List.drop_succ_cons, List.drop_zero]
          refine wpPure_move (.tmp 5) (.slice A m c) rfl rfl rfl ?_
          dsimp only [Act.put]
          simp only [List.setIfInBounds_toArray, List.set_cons_succ, List.set_cons_zero]
          refine wpPure_move (.tmp 9) (.int .i64 0) rfl rfl rfl ?_
          dsimp only [Act.put]
          simp only [List.setIfInBounds_toArray, List.set_cons_succ, List.set_cons_zero]
          refine wpPure_nil ?_
          refine wpQuiet_load_run 50 (.tmp 7) (.pointer (some ⟨z.w.heap.size, 0, none⟩)) (.agg (itA it)) rfl rfl rfl hLi2 ?_
          dsimp only [Act.put]
          simp only [List.setIfInBounds_toArray, List.set_cons_succ, List.set_cons_zero]
          go_big_quiet_step (first | (go_at_call 25; exact Wd.call _ (hdg2 _)))
          refine wpQuiet_load_run 37 (.tmp 8) (.pointer (some ⟨y.w.heap.size, 0, none⟩)) (.agg (claimA it.claim)) rfl rfl rfl hLb2 ?_
          dsimp only [Act.put]
          simp only [List.setIfInBounds_toArray, List.set_cons_succ, List.set_cons_zero]
          refine wpQuiet_build_run 208 _ #[(0, .int .i64 0), (1, .string (digOf it)), (2, .agg (claimA it.claim))] _ rfl rfl (by simp only [List.map_toArray, List.map_cons, List.map_nil]; rfl) (buildCl_found (0) (digOf it) it.claim) ?_
          dsimp only [Act.put]
          simp only [List.setIfInBounds_toArray, List.set_cons_succ, List.set_cons_zero]
          refine wpQuiet_nil ?_
          rintro w6 ⟨t2, rfl⟩
          refine wpList_buildSlice_run 205 1 _ #[(0, .agg (fclC (foundCl it)).toArray)] _ rfl rfl (by simp only [List.map_toArray, List.map_cons, List.map_nil]; rfl) (bsCl_found (foundCl it) _) ?_
          dsimp only [Act.put]
          simp only [List.setIfInBounds_toArray, List.set_cons_succ, List.set_cons_zero]
          refine wpList_append_rows fcl_len fcl_one rfl (.tmp 33) (.tmp 39) 205 208 i0 _ 112 rfl Tryz.underlying205 hi hz0 hz1 hz2 rfl (by decide) (by decide) w1.heap.size (.slice A m c) m (takeCl key (k.l.take j)) rfl ((hownW t2).alloc (.cells (fclC (foundCl it)).toArray 208)) (some ⟨t2.w.heap.size, 0, none⟩) 1 1 [foundCl it] rfl (RowsAt.one t2.w 208 (foundCl it) _ rfl) rfl (by omega) (by have := t2.q.size; simp; omega) ?_
          intro A5 c5 w5 hc5 hm5 hown5 hg5
          have hq5 : Q w1 w5 := q_grown (Q.trans (Q.trans HQ4.out t2.q) (q_new _ _ _)) (Nat.le_refl _) ((hownW t2).alloc _) hg5
          obtain ⟨y5, rfl⟩ : ∃ y5 : Wd w1, w5 = y5.w := ⟨⟨w5, hq5⟩, rfl⟩
          rw [← HTE.out] at hown5
          have HM5 : Hid (m + 1 = (takeCl key (k.l.take (j + 1))).length) := Lib.hid (by rw [HTE.out, List.length_append, ← hm.out]; rfl)
          clear hownW hg5 hq5 hdg2 hLi2 hLb2 hIi hrg0
          go_wp2_with fail
          exact ⟨⟨j + 1, c5, m + 1, A5, y5, rfl, by go_num, rfl, by omega, by omega, hc5, hm5, HM5, hown5⟩, by simp only [intOf]; omega⟩
    · have hjn : j = k.l.length := by omega
      have hm := hm.out
      rw [hjn, List.take_length] at hown hm
      have hm20 : m ≤ 1000 := by omega
      have hso := sortedSCl_any A c m w1.heap.size (takeCl key k.l) z.w hm hm20 hs hown z.q.size
      have hlen : (takeCl key k.l).length = m := hm.symm
      have HB := Lib.hid (show claimsS key k.l = (takeCl key k.l).map (·.val) from rfl)
      have HZ := Lib.hid z.q
      clear hown hm hs
      generalize takeCl key k.l = L at hso hlen HB
      clear hjn cI hW1 hP1 hKy hTy
      go_wp2_with (first | (go_at_call 176; refine hso.mono ?_; rintro e w6 ⟨rfl, hR6, hb6⟩; have HQ6 := Lib.hid (Below.trans HZ.out hb6); clear hb6 hso; obtain ⟨y6, hy6⟩ := Wd.first w6; rw [hy6]; clear hy6) | (refine wpList_make_own _ rfl _ _ 22 rfl w6.heap.size 37 j0 _ 9 Tryz.underlying22 hji hy0 hy1 .i64 .i64 (m : Int) m rfl rfl rfl (by rw [hy2]; omega) (by simp only [maxLen]; omega) y6.q.size ?_))
      intro w7 hown0 hg0
      have hown : Owns w7 w6.heap.size 37 9 (.slice (some ⟨y6.w.heap.size, 0, none⟩) 0 m) 0 (([] : List ClaimV).flatMap ClaimV.cells) := Owns.of hown0
      have hq7 : Q w6 w7 := Below.grown y6.q hg0 y6.q.size (fun _ h => by cases h)
      obtain ⟨y7, rfl⟩ : ∃ y7 : Wd w6, w7 = y7.w := ⟨⟨w7, hq7⟩, rfl⟩
      have hRy : ∀ y : Wd w6, RowsAt y.w A 11 fclC L := fun y => hR6.q y.q
      clear hown0 hg0 hq7 hR6
      go_wp2_with fail
      go_loopw [11, 49] (fun a i wr => ∃ (j c : Nat) (A : Option Addr) (z : Wd w6), a = .slice A j c ∧ i = .int .i64 j ∧ wr = z.w ∧ j ≤ m ∧ j ≤ c ∧ c ≤ maxLen ∧ Owns z.w w6.heap.size 37 9 (.slice A j c) j (((L.take j).map (·.val)).flatMap ClaimV.cells)) (fun _ i _ => m - (intOf i).toNat)
      case atStart => exact ⟨0, m, _, y7, rfl, rfl, rfl, Nat.zero_le _, Nat.zero_le _, by simp only [maxLen]; omega, hown⟩
      case round =>
        clear hown
        obtain ⟨j2, c2, A2, z2, rfl, rfl, rfl, hj2, hjc2, hcm2, hown⟩ := hrel
        by_cases hlt2 : j2 < m
        · obtain ⟨b, o, eA, hb, hcs⟩ := hRy z2 (by omega)
          have hld : ∀ y : Wd z2.w, (Instr.loadAt 208 (.pointer (some ⟨b, o + j2 * 11, none⟩))).run Tryz.prog y.w = .ok (.agg (fclC (L[j2]'(by omega))).toArray) y.w := Wd.load hb (hcs j2 (by omega)) Tryz.underlying208 rfl (by kernel_rfl)
          have HLS := Lib.hid (show (L.take (j2 + 1)).map (·.val) = (L.take j2).map (·.val) ++ [(L[j2]'(by omega)).val] by rw [List.take_succ_eq_append_getElem (by omega), List.map_append]; rfl)
          rw [eA]
          have hzs2 := z2.q.size
          clear hcs
          generalize L[j2]'(by omega) = e2 at *
          have hbf := Blk.new z2.w 208 (fclC default).toArray
          go_wp2_with (first | (refine wpList_load_run 208 (.tmp 51) (.pointer (some ⟨b, o + j2 * 11, none⟩)) (.agg (fclC e2).toArray) ?_ ?_ ?_ ?_ ?_; rfl; rfl; rfl; exact hld ⟨_, Q.trans (Q.refl _) (Q.refl _)⟩) | (refine wpList_store_blk hbf rfl 208 (.tmp 13) (.tmp 52) (fclC e2) rfl rfl rfl (by kernel_rfl) (fcl_all _) (Nat.le_refl 11) ?_))
          intro W hW hbel
          rw [splice_all _ _ (by rfl)] at hW
          have hqz : Q z2.w W := hbel _ _ (Nat.le_refl _) (q_new _ _ _)
          have hq3 : Q w6 W := Q.trans z2.q hqz
          have hrv : W.rangeAt z2.w.heap.size 2 e2.val.cells := by
            have := range_sub (Blk.range hW) 2 9
            rw [Nat.zero_add] at this
            exact this
          have hLv : ∀ y : Wd W, (Instr.loadAt 37 (.pointer (some ⟨z2.w.heap.size, 2, none⟩))).run Tryz.prog y.w = .ok (.agg (claimA e2.val)) y.w := Wd.load hW.lt hrv Tryz.underlying37 rfl (by kernel_rfl)
          have hownW : ∀ y : Wd W, Owns y.w w6.heap.size 37 9 (.slice A2 j2 c2) j2 (((L.take j2).map (·.val)).flatMap ClaimV.cells) := fun y => hown.q (Q.trans hqz y.q)
          have HQ3 := Lib.hid hq3
          have hWs := hq3.size
          obtain ⟨v, hv⟩ := Wd.first W
          rw [hv]
          clear hW hbel hld hv hqz hq3 hown hrv hbf
          go_wp2_with (first | (refine wpList_load_run 37 (.tmp 54) (.pointer (some ⟨z2.w.heap.size, 2, none⟩)) (.agg (claimA e2.val)) ?_ ?_ ?_ ?_ ?_; rfl; rfl; rfl; exact hLv _) | (refine wpList_buildSlice_run 22 1 _ #[(0, .agg (claimA e2.val))] _ rfl rfl (by simp only [List.map_toArray, List.map_cons, List.map_nil]; rfl) (bsCl_val e2.val _) ?_) | (at_builtin; refine wpList_append_rows valCl_len valCl_one rfl (.tmp 53) (.tmp 56) 22 37 j0 _ 88 rfl Tryz.underlying22 hji hy0 hy1 hy2 rfl (by decide) (by decide) w6.heap.size (.slice A2 j2 c2) j2 ((L.take j2).map (·.val)) rfl ((hownW v).alloc (.cells (claimA e2.val) 37)) (some ⟨v.w.heap.size, 0, none⟩) 1 1 [e2.val] rfl (RowsAt.one v.w 37 e2.val _ rfl) rfl (by omega) (by have := v.q.size; simp; omega) ?_))
          intro A5 c5 w5 hc5 hm5 hown5 hg5
          have hq5 : Q w6 w5 := q_grown (Q.trans (Q.trans HQ3.out v.q) (q_new _ _ _)) (Nat.le_refl _) ((hownW v).alloc _) hg5
          obtain ⟨y5, rfl⟩ : ∃ y5 : Wd w6, w5 = y5.w := ⟨⟨w5, hq5⟩, rfl⟩
          have e5 : List.flatMap ClaimV.cells (List.take j2 (List.map (fun x => x.val) L)) ++ e2.val.cells = ((L.take (j2 + 1)).map (·.val)).flatMap ClaimV.cells := by
            rw [HLS.out, List.flatMap_append, List.map_take]
            simp
          rw [e5] at hown5
          clear hownW hg5 hq5 hLv e5
          go_wp2_with fail
          exact ⟨⟨j2 + 1, c5, A5, y5, rfl, by go_num, rfl, by omega, hc5, hm5, hown5⟩, by simp only [intOf]; omega⟩
        · have hjn : j2 = m := by omega
          have hall : L.take j2 = L := List.take_of_length_le (by omega)
          rw [hall, ← HB.out] at hown
          have hl : (claimsS key k.l).length = j2 := by rw [HB.out, List.length_map, hlen, hjn]
          have hfin : ListClAre (claimsS key k.l) w (.returned (.slice A2 j2 c2)) z2.w := ⟨A2, c2, by rw [hl], by omega, hcm2, Owns.rows valCl_len hown hl.symm, Q.trans HQ.out (Below.trans HQ6.out (Below.mono z2.q (by have := HQ6.out.size; omega)))⟩
          have HF := Lib.hid hfin
          clear hfin hl hall hown
          go_wp2_with fail
          go_ret
          exact HF.out

set_option maxRecDepth 100000 in
set_option maxHeartbeats 2000000 in
theorem claimsS_any (k : KR) (key : ByteArray) (w : World) (hT : Tab w) (hK : KIn w k) (hn : k.l.length ≤ 1000) (hs : SortedF (takeCl key k.l)) :
    Calls Tryz.prog 53 #[.agg (knA k), .string key] w (ListClAre (claimsS key k.l) w) := by
  have b1 := Blk.new w 31 (knA k)
  have q1 := q_new w (knA k) 31
  have b2 := Blk.new' (g := w.heap.size + 1) (w.alloc (.cells (knA k) 31)) 9 #[.string key] (by simp)
  have q2 := q_new (w.alloc (.cells (knA k) 31)) #[.string key] 9
  have b1 := b1.q q2
  have hq := Q.trans q1 q2
  obtain ⟨w3, hw3⟩ : ∃ w3, w3 = (w.alloc (.cells (knA k) 31)).alloc (.cells #[.string key] 9) := ⟨_, rfl⟩
  rw [← hw3] at b1 b2 hq
  have hLk := Wd.load (P := Tryz.prog) (ty := 31) b1.lt (Blk.range b1) Tryz.underlying31 rfl (by kernel_rfl) ⟨w3, Q.refl w3⟩
  have hp := pickSCl_any k (w.heap.size + 1) key w3 (hT.q hq) (hK.q hq) (b2.cell 0) b2.lt hn hs
  have HX := Lib.hid hw3
  have HQ := Lib.hid hq
  clear q1 q2 b1 b2 hq hw3
  go_enter Tryz.func53, Tryz.ntmps53
  go_upto_region 1 with (fail)
  refine (show Code.wp _ _ _ _ w3 → Code.wp _ _ _ _ _ from fun h => by rw [HX.out] at h; exact h) ?_
  go_wp2_with (first | (refine wpList_load_run 31 (.tmp 2) (.pointer (some ⟨w.heap.size, 0, none⟩)) (.agg (knA k)) ?_ ?_ ?_ ?_ ?_; rfl; rfl; rfl; exact hLk) | (go_at_call 105; refine hp.mono ?_; rintro e w' ⟨A, c, rfl, h1, h2, h3, hq4⟩))
  go_ret
  exact ⟨A, c, rfl, h1, h2, h3, Q.trans HQ.out hq4⟩
end Go.Proofs.YtflgkplneekpfaaGreatDoor.Known

namespace Go.Proofs.YtflgkplneekpfaaGreatDoor.Rng
open Go.RowKit

section
variable {P : Program} {r n : Nat} {Q : Exit → Act → World → Prop} {ops : Array Oper}

theorem upon_in {o : Oper} {a : Act} {K : Act → World → Prop} {res : Result Next} (h : o.upon P a K Q res) : o.uponIn (Fence.wide.inRound r) n P a K Q res := by
  cases res with
  | ok nx w' =>
    cases nx with
    | value v => exact h
    | skip => exact h
    | defer d => exact h
    | enter f args => exact ⟨fun hd => by simp [Fence.wide] at hd, CallsIn.inRound r (callsIn_wide.2 h)⟩
    | row row args => exact ⟨fun hd => by simp [Fence.wide] at hd, fun c cs _ => let ⟨v, w', hr, s⟩ := h c cs; ⟨v, w', hr, stepsIn_wide.2 s⟩⟩
    | _ => exact (h : False).elim
  | halt x w' =>
    cases x with
    | panic v => exact h
    | _ => exact (h : False).elim
theorem oper_in {o : Oper} {a : Act} {w : World} {K : Act → World → Prop} (hd : ∀ c, o.op ≠ .defer c) (h : o.wp P a w K Q) : o.wpIn (Fence.wide.inRound r) n P a w K Q := by
  refine ⟨fun _ _ => trivial, ?_⟩
  rw [Oper.semAt_eq _ _ _ hd]
  exact upon_in h
def noDefer (ops : Array Oper) : Bool := ops.all fun (o : Oper) => match o.op with | .defer _ => false | _ => true
/-! ### A condition on the world that holds until the last operation, which waits for all others -/
variable {md : Region.Mode} {S : World → Prop} {last : Nat}
end
end Go.Proofs.YtflgkplneekpfaaGreatDoor.Rng

namespace Go.Proofs.YtflgkplneekpfaaGreatDoor.Vot
open Go.RowKit Grp Mem _root_.Go.Proofs.YtflgkplneekpfaaGreatDoor.Code Sha Sign _root_.Go.Proofs.YtflgkplneekpfaaGreatDoor.Item _root_.Go.Proofs.YtflgkplneekpfaaGreatDoor.Known Rng

attribute [local go_sem] Oper.semAt_some

/-! ### A region in the text's order, in a round: by the plain laws -/
section
variable {P : Program} {r n : Nat} {Q' : Exit → Act → World → Prop} {ops : Array Oper}
theorem list_in (hQ : ¬ LetsOut Q') : ∀ (l : List Oper) (a : Act) (w : World), (∀ o ∈ l, ∀ c, o.op ≠ Op.defer c) → wpList P ops Q' l a w → wpListIn (Fence.wide.inRound r) n P ops Q' l a w := by
  intro l
  induction l with
  | nil => intro a w _ h; exact h
  | cons o rest ih =>
    intro a w hd h
    have hd2 : ∀ o ∈ rest, ∀ c, o.op ≠ Op.defer c := fun o ho => hd o (List.mem_cons_of_mem _ ho)
    unfold wpList at h
    unfold wpListIn
    split at h
    · rename_i hw
      rw [if_pos hw]
      rcases h with h | ⟨-, h⟩
      · exact Oper.wpIn_mono (fun a w hh => ih a w hd2 hh) (oper_in (hd o (List.mem_cons_self ..)) h)
      · exact absurd h hQ
    · rename_i hw
      rw [if_neg hw]
      exact ⟨fun _ _ => trivial, ih _ _ hd2 h⟩
theorem noDefer_mem {l : List Oper} (h : noDefer l.toArray = true) : ∀ o ∈ l, ∀ c, o.op ≠ Op.defer c := by
  intro o ho c hc
  have h1 := (Array.all_eq_true_iff_forall_mem.1 h) o (by simpa using ho)
  rw [hc] at h1
  cases h1
theorem region_plain_in {id : Nat} {a : Act} {w : World} {l : List Oper} (hQ : ¬ LetsOut Q') (hd : noDefer l.toArray = true) (h : wpList P l.toArray Q' l a w) : (Code.region id l.toArray false).wpIn (Fence.wide.inRound r) n P Q' a w :=
  wpIn_region_lit (list_in hQ l a w (noDefer_mem hd) h)
end

/-- A load of a whole struct, inside a fence. -/
theorem wpListIn_load_run {F : Fence} {n : Nat} {P : Program} {ops : Array Oper} {rest : List Oper} {o : Oper} {a : Act} {w : World} {K : Exit → Act → World → Prop} (ty : TypeId) (y : Operand) (p v : Value) (ho : o.op = .load ty y) (hw : Region.wanted o (yielded ops a.tmps) = true)
    (hy : a.eval y = p) (hr : (Instr.loadAt ty p).run P w = .ok v w) (h : wpListIn F n P ops K rest (a.put o.dst v) w) : wpListIn F n P ops K (o :: rest) a w := by
  refine wpListIn_step fun K' hK => ?_
  rw [if_pos hw]
  unfold Oper.wpIn
  refine ⟨?_, ?_⟩
  · simp [Oper.about, ho]
  · rw [Oper.semAt_plain F _ _ (by rw [ho]; intro c hc'; cases hc')]
    simp only [execOp, ho, hy, Sem.run_bind, hr, Result.andThen_ok, Sem.run_pure]
    exact hK _ _ h

/-! ### Blocks of one type -/
/-- The blocks of type t lie as they lay. -/
def KeepT (t : TypeId) (X Y : World) : Prop := ∀ (g : Nat) (cs : Array Value) (fz : Nat × Nat), X.heap[g]? = some (.cells cs t fz) → Y.heap[g]? = some (.cells cs t fz)
theorem KeepT.refl (t : TypeId) (X : World) : KeepT t X X := fun _ _ _ h => h
theorem KeepT.trans {t : TypeId} {X Y Z : World} (h : KeepT t X Y) (k : KeepT t Y Z) : KeepT t X Z := fun g cs fz hh => k g cs fz (h g cs fz hh)
theorem KeepT.of_q {t : TypeId} {X Y : World} (h : Q X Y) : KeepT t X Y := fun g cs fz hh => (h.block g (Array.getElem?_eq_some_iff.1 hh).1).trans hh
theorem KeepT.setCell {t u : TypeId} (X : World) (p : Addr) (v : Value) (cs : Array Value) (fz : Nat × Nat) (hp : X.heap[p.block]? = some (.cells cs u fz)) (hu : u ≠ t) : KeepT t X (X.setCell p v) := fun g cs' fz' hh => by
  refine (Below.heap_setCell _ _ _ g ?_).trans hh
  rintro rfl
  rw [hp] at hh
  injection hh with hh
  injection hh with _ hh
  exact hu hh
theorem KeepT.grown {t u : TypeId} {X Y : World} {row : Option Nat} (hg : X.grownBy Y row) (hr : ∀ r, row = some r → ∃ cs fz, X.heap[r]? = some (.cells cs u fz)) (hu : u ≠ t) : KeepT t X Y := fun g cs fz hh => by
  refine (hg.block g (Array.getElem?_eq_some_iff.1 hh).1 ?_).trans hh
  intro e
  obtain ⟨cs', fz', h'⟩ := hr g e.symm
  rw [h'] at hh
  injection hh with hh
  injection hh with _ hh
  exact hu hh
theorem KeepT.putObj {t : TypeId} (X : World) (l : Nat) (o o' : Obj) (h : X.heap[l]? = some o) (ho : o.isCells = false) : KeepT t X (X.putObj l o') := fun g cs fz hh => by
  refine (World.putObj_heap_other ?_).trans hh
  rintro rfl
  rw [h] at hh
  cases hh
  cases ho
/-- What a round keeps: what lies below n, and the blocks of type t. -/
def KpB (n : Nat) (t : TypeId) (X Y : World) : Prop := Below n X Y ∧ KeepT t X Y
theorem KpB.trans {n : Nat} {t : TypeId} {X Y Z : World} (h : KpB n t X Y) (k : KpB n t Y Z) : KpB n t X Z := ⟨h.1.trans k.1, h.2.trans k.2⟩
theorem KpB.putObj {n : Nat} {t : TypeId} {w : World} (hn : n ≤ w.heap.size) (W : World) (l : Nat) (o o' : Obj) (hl : w.heap.size ≤ l) (h : W.heap[l]? = some o) (hc : o.isCells = false) (_ : o.isWalk = false) : KpB n t W (W.putObj l o') :=
  ⟨(Below.refl n W).grown (grownBy_putObj' W l o') (by have := (Array.getElem?_eq_some_iff.1 h).1; omega) (fun k e => by cases e; omega), KeepT.putObj W l o o' h hc⟩
theorem Owns.keepT {w w' : World} {base : Nat} {e : TypeId} {size : Nat} {v : Value} {n : Nat} {xs : List Value} (h : Owns w base e size v n xs) (hk : KeepT e w w') : Owns w' base e size v n xs := by
  refine ⟨h.1, ?_⟩
  rcases h.2 with hn | ⟨g, cap, cur, fz, hv, hb, hg, rest⟩
  · exact .inl hn
  · exact .inr ⟨g, cap, cur, fz, hv, hb, hk g cur fz hg, rest⟩
theorem grown_q {W W' : World} (h : Q W W') : W.grownBy W' none := ⟨h.os, h.tape, h.output, h.size, fun i hi _ => h.block i hi⟩
set_option maxRecDepth 100000 in
set_option maxHeartbeats 4000000 in
/-- **The iterator**: the ballots for an actor and a generation, in order. -/
theorem iter_in (n : Nat) (hn : 2 ≤ n) (l bk ba bg n0 : Nat) (k : KR) (actor : ByteArray) (gen : Int) (hlen : k.l.length ≤ 1000) (hs : SortedF (takeB actor gen k.l)) (J Jx : List BallotV → World → Prop) (W : World) (hT : Tab W) (hK : KIn W k)
    (hk : Blk W bk 31 k.cells.toArray) (ha : W.cell? ⟨ba, 0, none⟩ = some (.string actor)) (hg : W.cell? ⟨bg, 0, none⟩ = some (.int .i64 gen)) (hJ : AbidesFrom W.heap.size J)
    (hY : ∀ pre x W1, J pre W1 → pre.length < 1000 → YieldAt Fence.wide (n - 1) Tryz.prog l #[.agg (ballotA x)] W1 fun e W' =>
      (e = .returned (.bool true) ∧ J (pre ++ [x]) W' ∧ KpB n0 46 W1 W') ∨ (e = .returned (.bool false) ∧ Jx (pre ++ [x]) W'))
    (h0 : J [] W) :
    CallsIn Fence.wide n Tryz.prog 101 #[.func (.yield l) #[] #[], .pointer (some ⟨bk, 0, none⟩), .pointer (some ⟨ba, 0, none⟩), .pointer (some ⟨bg, 0, none⟩)] W fun e W' => (∃ v, e = .returned v) ∧ ((∃ xs, xs = ballotsS actor gen k.l ∧ J xs W') ∨ (∃ pre, True ∧ Jx pre W')) := by
  have hwf : ∀ f, Fence.wide.fn f := fun _ => trivial
  have hn1 : 1 ≤ n := by omega
  have hn2 : 1 ≤ n - 1 := by omega
  have hLk := Wd.load (P := Tryz.prog) (ty := 31) hk.lt (Blk.range hk) Tryz.underlying31 rfl (by kernel_rfl) ⟨W, Q.refl W⟩
  have hb := ballotsS_any k actor gen W hT hK hlen hs
  have hle : (ballotsS actor gen k.l).length ≤ 1000 := by
    unfold ballotsS
    rw [List.length_map]
    have := takeB_le actor gen k.l k.l.length
    rw [List.take_length] at this
    omega
  generalize ballotsS actor gen k.l = L at *
  refine callsIn_of_wp Tryz.func101 rfl trivial ?_ rfl
  simp only [Tryz.ntmps101, List.size_toArray, List.length_cons, List.length_nil, Nat.reduceAdd, Nat.reduceSub, Array.replicate_succ, Array.replicate_zero, List.push_toArray, List.append_toArray, List.nil_append, List.cons_append]
  refine wpIn_seq ?_
  refine wpIn_wide.2 ?_
  go_wp2_with (first | (refine wpList_load_run 31 (.tmp 1) (.pointer (some ⟨bk, 0, none⟩)) (.agg (knA k)) ?_ ?_ ?_ ?_ ?_; rfl; rfl; rfl; exact hLk) | (go_at_call 102; refine hb.mono ?_; rintro e w' ⟨A, c, rfl, hlc, hcm, hown, hq⟩))
  gi_wp2
  gi_loopw [12] (fun i wr => ∃ j : Nat, i = .int .i64 j ∧ j ≤ L.length ∧ Owns wr W.heap.size 46 7 (.slice A L.length c) L.length (L.flatMap BallotV.cells) ∧ J (L.take j) wr) (fun i _ => L.length - (intOf i).toNat)
  case atStart => exact ⟨0, rfl, Nat.zero_le _, hown, by rw [List.take_zero]; exact hJ _ _ _ none h0 (grown_q hq) (fun r e => by cases e)⟩
  case round =>
    clear hown hq
    obtain ⟨j, rfl, hj, hown, hJs⟩ := hrel
    by_cases hlt : j < L.length
    · have hlI : (j : Int) < (L.length : Int) := by omega
      obtain ⟨b, o, eA, hb, hcs⟩ := Owns.rows bal_len hown rfl (by omega)
      subst eA
      have hld : ∀ y : Wd wr, (Instr.loadAt 46 (.pointer (some ⟨b, o + j * 7, none⟩))).run Tryz.prog y.w = .ok (.agg (ballotA L[j])) y.w := Wd.load hb (hcs j hlt) Tryz.underlying46 rfl (by kernel_rfl)
      have HTK := Lib.hid (List.take_succ_eq_append_getElem hlt)
      have HYY := Lib.hid hY
      have HJJ := Lib.hid hJ
      clear hcs hY hJ hLk hk hK hT ha hg hs
      generalize L[j] = x at *
      obtain ⟨wo, hwo⟩ : ∃ wo : World, wo = wr := ⟨_, rfl⟩
      subst hwo
      refine wpIn_seq ?_
      refine wpIn_wide.2 ?_
      go_wp2_with fail
      refine wpIn_seq ?_
      refine wpIn_cond_true rfl ?_
      refine wpIn_skip ?_
      refine wpIn_seq ?_
      refine wpIn_block ?_
      refine wpIn_seq ?_
      refine wpIn_wide.2 ?_
      go_wp2_with (first | (refine wpList_load_run 46 (.tmp 14) (.pointer (some ⟨b, o + j * 7, none⟩)) (.agg (ballotA x)) ?_ ?_ ?_ ?_ ?_; rfl; rfl; rfl; exact hld ⟨_, Q.refl _⟩) | (refine wpList_store_blk (Blk.new wo 46 ballot0.cells.toArray) rfl 46 (.tmp 6) (.tmp 15) x.cells rfl rfl rfl (by kernel_rfl) (ballot_all _) (Nat.le_refl 7) ?_))
      intro W2 hW hbel
      rw [splice_all _ _ (by rfl)] at hW
      have hqz : Q wo W2 := hbel _ _ (Nat.le_refl _) (q_new _ _ _)
      have hJ2 := HJJ.out _ _ _ none hJs (grown_q hqz) (fun r e => by cases e)
      have hown2 := hown.q hqz
      have hLx : (Instr.loadAt 46 (.pointer (some ⟨wo.heap.size, 0, none⟩))).run Tryz.prog W2 = .ok (.agg (ballotA x)) W2 := Wd.load hW.lt (Blk.range hW) Tryz.underlying46 rfl (by kernel_rfl) ⟨W2, Q.refl _⟩
      obtain ⟨fn, tmps, assign, body, hy, hR⟩ := HYY.out _ x _ hJ2 (by rw [List.length_take]; omega)
      rw [← HTK.out] at hR
      clear hbel hld hW hJs hown hJ2 hb
      generalize wo.heap.size = gb at *
      go_wp2_with fail
      gi_wp2_with (refine wpListIn_load_run 46 (.tmp 6) (.pointer (some ⟨gb, 0, none⟩)) (.agg (ballotA x)) ?_ ?_ ?_ ?_ ?_; rfl; rfl; rfl; exact hLx)
      refine hR.mono ?_
      rintro e W3 (⟨rfl, hJ3, hk3⟩ | ⟨rfl, hJx3⟩)
      · gi_wp2
        exact ⟨⟨j + 1, by go_num, by omega, Owns.keepT hown2 hk3.2, hJ3⟩, by simp only [intOf]; omega⟩
      · gi_wp2
        refine bodyPost_ret (results_none rfl _ _ _) rfl ?_
        exact ⟨⟨_, rfl⟩, .inr ⟨_, trivial, hJx3⟩⟩
    · have hlI : ¬ ((j : Int) < (L.length : Int)) := by omega
      have hjn : j = L.length := by omega
      have hall : L.take j = L := List.take_of_length_le (by omega)
      rw [hall] at hJs
      gi_wp2
      go_end0
      exact ⟨⟨_, rfl⟩, .inl hJs⟩
theorem iter_stops (n : Nat) (hn : 2 ≤ n) (bk ba bg n0 : Nat) (k : KR) (actor : ByteArray) (gen : Int) (hlen : k.l.length ≤ 1000) (hs : SortedF (takeB actor gen k.l)) (w : World) (hT : Tab w) (hK : KIn w k)
    (hk : Blk w bk 31 k.cells.toArray) (ha : Blk w ba 9 #[.string actor]) (hg : Blk w bg 3 #[.int .i64 gen]) :
    SeqStopsK Fence.wide n Tryz.prog 101 #[.pointer (some ⟨bk, 0, none⟩), .pointer (some ⟨ba, 0, none⟩), .pointer (some ⟨bg, 0, none⟩)] (fun x : BallotV => #[.agg (ballotA x)]) (KpB n0 46) (fun xs => xs = ballotsS actor gen k.l) (fun _ => True) 1000 w :=
  fun l J Jx W hW hJ _ hY h0 => iter_in n hn l bk ba bg n0 k actor gen hlen hs J Jx W (hT.q hW) (hK.q hW) (hk.q hW) ((ha.q hW).cell 0) ((hg.q hW).cell 0) hJ hY h0

/-- The iterator as a value: three boxes. -/
theorem ballotsF_any (k : KR) (actor : ByteArray) (gen : Int) (w : World) :
    Calls Tryz.prog 50 #[.agg (knA k), .string actor, .int .i64 gen] w fun e w' => e = .returned (.func (.func 101) #[] #[.pointer (some ⟨w.heap.size, 0, none⟩), .pointer (some ⟨w.heap.size + 1, 0, none⟩), .pointer (some ⟨w.heap.size + 1 + 1, 0, none⟩)]) ∧
      w' = ((w.alloc (.cells (knA k) 31)).alloc (.cells #[.string actor] 9)).alloc (.cells #[.int .i64 gen] 3) := by
  go_enter Tryz.func50, Tryz.ntmps50
  go_wp2
  go_ret
  exact ⟨rfl, rfl⟩
end Go.Proofs.YtflgkplneekpfaaGreatDoor.Vot

namespace Go.Proofs.YtflgkplneekpfaaGreatDoor.Vot
open _root_.Go.Proofs.YtflgkplneekpfaaGreatDoor.Code Sha Sign _root_.Go.Proofs.YtflgkplneekpfaaGreatDoor.Item _root_.Go.Proofs.YtflgkplneekpfaaGreatDoor.Known

/-! ### Sorted and compacted lists -/
theorem cu_mem (d : Array Int) (x : Int) : ∀ m, x ∈ Lib.compactUpTo d m ↔ ∃ i, i < m ∧ d[i]! = x
  | 0 => by simp [Lib.compactUpTo]
  | m + 1 => by
    rw [Lib.compactUpTo_succ, List.mem_append, cu_mem d x m]
    constructor
    · rintro (⟨i, h1, h2⟩ | h)
      · exact ⟨i, by omega, h2⟩
      · split at h
        · rw [List.mem_singleton] at h
          exact ⟨m, by omega, h.symm⟩
        · cases h
    · rintro ⟨i, h1, h2⟩
      rcases Nat.lt_or_ge i m with h3 | h3
      · exact .inl ⟨i, h3, h2⟩
      · have hi : i = m := by omega
        subst hi
        cases hk : Lib.keeps d i
        · refine .inl ⟨i - 1, ?_, ?_⟩
          · rcases Nat.eq_zero_or_pos i with h0 | h0
            · subst h0
              simp [Lib.keeps] at hk
            · omega
          · have hk2 : ¬ (i = 0 ∨ d[i]! ≠ d[i - 1]!) := by
              unfold Lib.keeps at hk
              simpa using hk
            have : d[i]! = d[i - 1]! := Classical.byContradiction fun hn => hk2 (.inr hn)
            rw [← this, h2]
        · exact .inr (by rw [if_pos rfl, h2]; exact List.mem_singleton.2 rfl)
theorem cu_asc (d : Array Int) (hs : ∀ i j, i ≤ j → j < d.size → d[i]! ≤ d[j]!) : ∀ m, m ≤ d.size → (Lib.compactUpTo d m).Pairwise (· < ·)
  | 0, _ => by simp [Lib.compactUpTo]
  | m + 1, hm => by
    rw [Lib.compactUpTo_succ, List.pairwise_append]
    refine ⟨cu_asc d hs m (by omega), by split <;> simp, ?_⟩
    intro a ha b hb
    split at hb
    · rename_i hk
      rw [List.mem_singleton] at hb
      subst hb
      obtain ⟨i, hi, rfl⟩ := (cu_mem d a m).1 ha
      have h1 : ¬ m = 0 := by omega
      have h2 : d[m]! ≠ d[m - 1]! := by
        unfold Lib.keeps at hk
        rcases of_decide_eq_true hk with h | h
        · exact absurd h h1
        · exact h
      have h3 := hs i (m - 1) (by omega) (by omega)
      have h4 := hs (m - 1) m (by omega) (by omega)
      omega
    · cases hb
/-- slices.Sort, then slices.Compact. -/
def sortU (zs : List Int) : List Int := Lib.compact (zs.mergeSort fun x y => decide (x ≤ y))
theorem sortU_mem (zs : List Int) (x : Int) : x ∈ sortU zs ↔ x ∈ zs := by
  unfold sortU Lib.compact
  rw [cu_mem, ← List.mem_mergeSort (le := fun x y => decide (x ≤ y)) (l := zs)]
  generalize zs.mergeSort (fun x y => decide (x ≤ y)) = L
  rw [List.mem_iff_getElem]
  constructor
  · rintro ⟨i, h1, h2⟩
    refine ⟨i, h1, ?_⟩
    rw [getElem!_pos L.toArray i (by simpa using h1)] at h2
    simpa using h2
  · rintro ⟨i, h1, h2⟩
    refine ⟨i, h1, ?_⟩
    rw [getElem!_pos L.toArray i (by simpa using h1)]
    simpa using h2
theorem sortU_asc (zs : List Int) : (sortU zs).Pairwise (· < ·) := by
  unfold sortU Lib.compact
  have hp : (zs.mergeSort fun x y => decide (x ≤ y)).Pairwise fun a b => decide (a ≤ b) = true := List.pairwise_mergeSort (le := fun x y : Int => decide (x ≤ y)) (fun a b c h1 h2 => decide_eq_true (Int.le_trans (of_decide_eq_true h1) (of_decide_eq_true h2))) (fun a b => by
    rcases Int.le_total a b with h | h
    · simp [h]
    · simp [h]) zs
  generalize zs.mergeSort (fun x y => decide (x ≤ y)) = L at hp
  refine cu_asc _ (fun i j hij hj => ?_) _ (by simp)
  have hj' : j < L.length := by simpa using hj
  rw [getElem!_pos L.toArray i (by simp; omega), getElem!_pos L.toArray j hj]
  rcases Nat.lt_or_ge i j with h | h
  · have := List.pairwise_iff_getElem.1 hp i j (by omega) hj' h
    simpa using of_decide_eq_true this
  · have : i = j := by omega
    subst this
    exact Int.le_refl _
theorem asc_unique : ∀ l m : List Int, l.Pairwise (· < ·) → m.Pairwise (· < ·) → (∀ d, d ∈ l ↔ d ∈ m) → l = m
  | [], [], _, _, _ => rfl
  | [], b :: m, _, _, h => by have := (h b).2 (List.mem_cons_self ..); simp at this
  | a :: l, [], _, _, h => by have := (h a).1 (List.mem_cons_self ..); simp at this
  | a :: l, b :: m, hl, hm, h => by
    obtain ⟨l1, l2⟩ := List.pairwise_cons.1 hl
    obtain ⟨m1, m2⟩ := List.pairwise_cons.1 hm
    have hab : a = b := by
      rcases List.mem_cons.1 ((h a).1 (List.mem_cons_self ..)) with e | e
      · exact e
      · rcases List.mem_cons.1 ((h b).2 (List.mem_cons_self ..)) with e2 | e2
        · exact e2.symm
        · have h1 := m1 a e
          have h2 := l1 b e2
          omega
    subst hab
    congr 1
    refine asc_unique l m l2 m2 fun d => ⟨fun hd => ?_, fun hd => ?_⟩
    · rcases List.mem_cons.1 ((h d).1 (List.mem_cons_of_mem _ hd)) with rfl | e
      · have := l1 _ hd; omega
      · exact e
    · rcases List.mem_cons.1 ((h d).2 (List.mem_cons_of_mem _ hd)) with rfl | e
      · have := m1 _ hd; omega
      · exact e

/-! ### Voters -/
def voterL (claim : ByteArray) (bs : List BallotV) : List Int := (bs.filter fun b => decide (b.claim = claim)).map (·.server)
def votersK (claim : ByteArray) (bs : List BallotV) : List Int := sortU (voterL claim bs)
theorem voterL_snoc (claim : ByteArray) (bs : List BallotV) (b : BallotV) : voterL claim (bs ++ [b]) = voterL claim bs ++ if decide (b.claim = claim) then [b.server] else [] := by
  unfold voterL
  rw [List.filter_append, List.map_append]
  congr 1
  cases h : decide (b.claim = claim) <;> simp [List.filter, h]
theorem voterL_le (claim : ByteArray) (bs : List BallotV) : (voterL claim bs).length ≤ bs.length := by
  unfold voterL
  rw [List.length_map]
  exact List.length_filter_le _ _
theorem voters_mem (claim : ByteArray) (bs : List BallotV) (x : Int) : x ∈ votersK claim bs ↔ ∃ b ∈ bs, b.claim = claim ∧ b.server = x := by
  unfold votersK voterL
  rw [sortU_mem, List.mem_map]
  constructor
  · rintro ⟨b, h1, h2⟩
    rw [List.mem_filter, decide_eq_true_eq] at h1
    exact ⟨b, h1.1, h1.2, h2⟩
  · rintro ⟨b, h1, h2, h3⟩
    exact ⟨b, by rw [List.mem_filter, decide_eq_true_eq]; exact ⟨h1, h2⟩, h3⟩
theorem voters_asc (claim : ByteArray) (bs : List BallotV) : (votersK claim bs).Pairwise (· < ·) := sortU_asc _
theorem mergeSort_len (zs : List Int) : (zs.mergeSort fun x y => decide (x ≤ y)).length = zs.length := List.length_mergeSort zs
theorem compact_len (zs : List Int) : (Lib.compact zs).length ≤ zs.length := by
  unfold Lib.compact Lib.compactUpTo
  rw [List.length_map]
  refine Nat.le_trans (List.length_filter_le _ _) ?_
  rw [List.length_range]
  exact Nat.le_refl _
theorem voters_le (claim : ByteArray) (bs : List BallotV) : (votersK claim bs).length ≤ bs.length := by
  unfold votersK sortU
  refine Nat.le_trans (compact_len _) ?_
  rw [mergeSort_len]
  exact voterL_le claim bs

/-! ### The least claim of a server -/
def ownStep (server : Int) (acc : ByteArray × Bool) (b : BallotV) : ByteArray × Bool := if decide (b.server = server) && (!acc.2 || lessB b.claim acc.1) then (b.claim, true) else acc
def ownK (server : Int) (bs : List BallotV) : ByteArray × Bool := bs.foldl (ownStep server) (emptyT, false)
theorem ownK_snoc (server : Int) (bs : List BallotV) (b : BallotV) : ownK server (bs ++ [b]) = ownStep server (ownK server bs) b := by
  unfold ownK
  rw [List.foldl_append]
  rfl

/-! ### The claim that has won -/
def quorumK (n : Int) : Int := if n ≤ 0 then 1 else n / 3 * 2 + n % 3 * 2 / 3 + 1
end Go.Proofs.YtflgkplneekpfaaGreatDoor.Vot
