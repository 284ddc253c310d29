/-
  DERIVED: THE SHELF's CONTRACTS AT THIS DUMP, IN PLAIN WORDS (tools/lay-plain.mjs out of 'TryzSort.lean', which tools/lay-shelf.mjs wrote): THE SAME DECLARATIONS UNDER THE SAME NAMES: 'import', 'namespace', 'open', 'def', 'theorem' AND NOTHING ELSE: no command of the shelf's: FOR A HAND-IN. Each laying: the table of numbers ('.._ren') and one theorem, a field a fact of the dump's own or the kernel's comparison; each contract: ONE APPLICATION.
  What pick lays down, and how it is sorted: cmp.Or, cmp.Compare at strings, pick's comparison at ballots. The stable sort of fewer than twenty ballots, as pick calls it. What known.Ballots wants of an item: its closure. known.pick at ballots: what is wanted of the items, sorted. known.Ballots. What a right key signs is accepted; the key of the seed "a". No walk in this text. The small example of the laws about known sets, as plain data: a signed ballot in a set of its own. No walk in this text. What the walk of the laws' small example asks of the program's functions. The walk of agoralaw14.small.
  known.pick at activities. known.pick at claims. known.pick at decisions.
  The contracts of agoraref13's OfAct and OfDecision.
  agoralaw14's light and few.
-/
import Derived.Shelf.SlGeneric
import Derived.Shelf.SlSortCmp.InsertionK
import Derived.Ground.SlsfProg
import Derived.Test.YtomkeaeegdjhnaaGreatDoorProg
import Derived.Test.YtomkeaeegdjhnaaGreatDoorIdent2
import Derived.Test.YtomkeaeegdjhnaaGreatDoorBld2
import Derived.Deep.Cut
import Derived.Test.YtomkeaeegdjhnaaGreatDoorMgItKn
import Derived.Test.YtomkeaeegdjhnaaGreatDoorItemZ
import Derived.Test.YtomkeaeegdjhnaaGreatDoorItemD
import Derived.Test.YtomkeaeegdjhnaaGreatDoorSignWalk
set_option linter.unusedVariables false
set_option linter.unusedSimpArgs false
namespace Go.Proofs
open Go.Shelf
def Tryz.insBallot_ren : Go.Shelf.Ren := ⟨fun | 20 => 230 | n => n, fun | 24 => 173 | 22 => 170 | 3 => 3 | 25 => 175 | 4 => 4 | 0 => 0 | n => n, fun | n => n⟩
theorem Tryz.insBallot : Go.Proofs.SlLaysF0.n20 Tryz.prog Tryz.insBallot_ren := {
  mixed := by kernel_rfl
  f20 := ⟨Tryz.f230.name, by decide, Tryz.func230.trans (congrArg some (by kernel_rfl))⟩
  t0 := Tryz.underlying0
  a0 := Tryz.isAgg0
  z0 := Tryz.sizeOf0
  v0 := Tryz.zeroValue0
  t3 := Tryz.underlying3
  a3 := Tryz.isAgg3
  z3 := Tryz.sizeOf3
  v3 := Tryz.zeroValue3
  t4 := Tryz.underlying4
  a4 := Tryz.isAgg4
  z4 := Tryz.sizeOf4
  v4 := Tryz.zeroValue4
  t22 := Tryz.underlying170
  a22 := Tryz.isAgg170
  z22 := Tryz.sizeOf170
  v22 := Tryz.zeroValue170
  t25 := Tryz.underlying175
  a25 := Tryz.isAgg175
  z25 := Tryz.sizeOf175
  v25 := Tryz.zeroValue175 }
def Tryz.insAct_ren : Go.Shelf.Ren := ⟨fun | 20 => 221 | n => n, fun | 24 => 158 | 22 => 155 | 3 => 3 | 25 => 163 | 4 => 4 | 0 => 0 | n => n, fun | n => n⟩
theorem Tryz.insAct : Go.Proofs.SlLaysF0.n20 Tryz.prog Tryz.insAct_ren := {
  mixed := by kernel_rfl
  f20 := ⟨Tryz.f221.name, by decide, Tryz.func221.trans (congrArg some (by kernel_rfl))⟩
  t0 := Tryz.underlying0
  a0 := Tryz.isAgg0
  z0 := Tryz.sizeOf0
  v0 := Tryz.zeroValue0
  t3 := Tryz.underlying3
  a3 := Tryz.isAgg3
  z3 := Tryz.sizeOf3
  v3 := Tryz.zeroValue3
  t4 := Tryz.underlying4
  a4 := Tryz.isAgg4
  z4 := Tryz.sizeOf4
  v4 := Tryz.zeroValue4
  t22 := Tryz.underlying155
  a22 := Tryz.isAgg155
  z22 := Tryz.sizeOf155
  v22 := Tryz.zeroValue155
  t25 := Tryz.underlying163
  a25 := Tryz.isAgg163
  z25 := Tryz.sizeOf163
  v25 := Tryz.zeroValue163 }
def Tryz.insClaim_ren : Go.Shelf.Ren := ⟨fun | 20 => 228 | n => n, fun | 24 => 167 | 22 => 164 | 3 => 3 | 25 => 169 | 4 => 4 | 0 => 0 | n => n, fun | n => n⟩
theorem Tryz.insClaim : Go.Proofs.SlLaysF0.n20 Tryz.prog Tryz.insClaim_ren := {
  mixed := by kernel_rfl
  f20 := ⟨Tryz.f228.name, by decide, Tryz.func228.trans (congrArg some (by kernel_rfl))⟩
  t0 := Tryz.underlying0
  a0 := Tryz.isAgg0
  z0 := Tryz.sizeOf0
  v0 := Tryz.zeroValue0
  t3 := Tryz.underlying3
  a3 := Tryz.isAgg3
  z3 := Tryz.sizeOf3
  v3 := Tryz.zeroValue3
  t4 := Tryz.underlying4
  a4 := Tryz.isAgg4
  z4 := Tryz.sizeOf4
  v4 := Tryz.zeroValue4
  t22 := Tryz.underlying164
  a22 := Tryz.isAgg164
  z22 := Tryz.sizeOf164
  v22 := Tryz.zeroValue164
  t25 := Tryz.underlying169
  a25 := Tryz.isAgg169
  z25 := Tryz.sizeOf169
  v25 := Tryz.zeroValue169 }
def Tryz.insDecision_ren : Go.Shelf.Ren := ⟨fun | 20 => 232 | n => n, fun | 24 => 179 | 22 => 176 | 3 => 3 | 25 => 181 | 4 => 4 | 0 => 0 | n => n, fun | n => n⟩
theorem Tryz.insDecision : Go.Proofs.SlLaysF0.n20 Tryz.prog Tryz.insDecision_ren := {
  mixed := by kernel_rfl
  f20 := ⟨Tryz.f232.name, by decide, Tryz.func232.trans (congrArg some (by kernel_rfl))⟩
  t0 := Tryz.underlying0
  a0 := Tryz.isAgg0
  z0 := Tryz.sizeOf0
  v0 := Tryz.zeroValue0
  t3 := Tryz.underlying3
  a3 := Tryz.isAgg3
  z3 := Tryz.sizeOf3
  v3 := Tryz.zeroValue3
  t4 := Tryz.underlying4
  a4 := Tryz.isAgg4
  z4 := Tryz.sizeOf4
  v4 := Tryz.zeroValue4
  t22 := Tryz.underlying176
  a22 := Tryz.isAgg176
  z22 := Tryz.sizeOf176
  v22 := Tryz.zeroValue176
  t25 := Tryz.underlying181
  a25 := Tryz.isAgg181
  z25 := Tryz.sizeOf181
  v25 := Tryz.zeroValue181 }
end Go.Proofs

namespace Go.Proofs.YtomkeaeegdjhnaaGreatDoor.Known
open Go.RowKit Grp Mem _root_.Go.Proofs.YtomkeaeegdjhnaaGreatDoor.Code Sha Sign _root_.Go.Proofs.YtomkeaeegdjhnaaGreatDoor.Item

/-- What pick lays down of a statement. -/
structure Found (α : Type) where
  rank : Int
  dig : ByteArray
  val : α
instance {α : Type} [Inhabited α] : Inhabited (Found α) := ⟨⟨0, emptyT, default⟩⟩
instance : Inhabited BallotV := ⟨ballot0⟩
def Found.cells {α : Type} (c : α → List Value) (x : Found α) : List Value := .int .i64 x.rank :: .string x.dig :: c x.val
abbrev fbC : Found BallotV → List Value := Found.cells BallotV.cells
theorem fb_len (x : Found BallotV) : (fbC x).length = 9 := rfl
theorem fb_one (x : Found BallotV) : ∀ v ∈ fbC x, v.oneCell' = true := by
  intro v hv
  simp only [fbC, Found.cells, BallotV.cells, List.mem_cons, List.not_mem_nil, or_false] at hv
  rcases hv with rfl | rfl | rfl | rfl | rfl | rfl | rfl | rfl | rfl <;> rfl
def cmpS (a b : ByteArray) : Int := if lessB a b then -1 else if lessB b a then 1 else 0
def orI (x y : Int) : Int := if x = 0 then y else x
def cmpF {α : Type} (x y : Found α) : Int := orI (Lib.compareInt x.rank y.rank) (cmpS x.dig y.dig)

theorem isNaNs_any (s : ByteArray) (w : World) : Calls Tryz.prog 169 #[.string s] w fun e w' => e = .returned (.bool false) ∧ w' = w := by
  go_enter Tryz.func169, Tryz.ntmps169
  go_wp2_with fail
  all_goals (go_ret; exact ⟨by simp, rfl⟩)

set_option maxHeartbeats 1000000 in
theorem compareS_any (a b : ByteArray) (w : World) : Calls Tryz.prog 122 #[.string a, .string b] w fun e w' => e = .returned (.int .i64 (cmpS a b)) ∧ w' = w := by
  have hle := leqB_eq a b
  have HR : Hid (cmpS a b = if lessB a b then -1 else if lessB b a then 1 else 0) := Lib.hid rfl
  have h3 := lessB_asymm (a := a) (b := b)
  cases h1 : lessB a b
  all_goals cases h2 : lessB b a
  all_goals
    rw [h1, h2] at HR
    have hls : Op.bytesLess a.toList b.toList = _ := h1
    rw [h2] at hle
  case true.true => rw [h3 h1] at h2; cases h2
  all_goals
    clear h1 h2 h3
    generalize cmpS a b = r at HR ⊢
    go_enter Tryz.func122, Tryz.ntmps122
    go_wp2_with (go_at_call 169; refine (isNaNs_any _ _).mono ?_; rintro e w' ⟨rfl, hw⟩; rw [hw])
    all_goals first
      | (go_ret; exact ⟨by rw [HR.out]; rfl, rfl⟩)
      | (simp_all)

theorem or_any (b o c : Nat) (x y : Int) (w : World) (h0 : w.cell? ⟨b, o, none⟩ = some (.int .i64 x)) (h1 : w.cell? ⟨b, o + 1, none⟩ = some (.int .i64 y)) : Calls Tryz.prog 120 #[.slice (some ⟨b, o, none⟩) 2 c] w fun e w' => e = .returned (.int .i64 (orI x y)) ∧ w' = w := by
  have h0' : w.cell? ⟨b, o + 0, none⟩ = some (.int .i64 x) := h0
  have HR : Hid (orI x y = if x = 0 then y else x) := Lib.hid rfl
  generalize orI x y = r at HR ⊢
  by_cases hx : x = 0
  · rw [if_pos hx] at HR
    by_cases hy : y = 0
    · go_enter Tryz.func120, Tryz.ntmps120
      go_wp2_with fail
      refine wp_loop_rounds 3 ?_
      rw [rounds_succ]
      go_wp2_with fail
      rw [rounds_succ]
      go_wp2_with fail
      rw [rounds_succ]
      go_wp2_with fail
      go_ret
      exact ⟨by rw [HR.out, hy]; rfl, rfl⟩
    · go_enter Tryz.func120, Tryz.ntmps120
      go_wp2_with fail
      refine wp_loop_rounds 2 ?_
      rw [rounds_succ]
      go_wp2_with fail
      rw [rounds_succ]
      go_wp2_with fail
      go_ret
      exact ⟨by rw [HR.out]; rfl, rfl⟩
  · rw [if_neg hx] at HR
    go_enter Tryz.func120, Tryz.ntmps120
    go_wp2_with fail
    refine wp_loop_rounds 1 ?_
    rw [rounds_succ]
    go_wp2_with fail
    go_ret
    exact ⟨by rw [HR.out]; rfl, rfl⟩

theorem grow3 (W : World) (n : Nat) (a b c : Obj) : (((W.alloc a).alloc b).drewN n).alloc c = Go.Sort.grow (W.drewN n) #[a, b, c] := by
  rw [Go.Sort.alloc_eq_grow, Go.Sort.alloc_eq_grow, Go.Sort.alloc_eq_grow]
  show Go.Sort.grow (Go.Sort.grow (Go.Sort.grow (W.drewN n) #[a]) #[b]) #[c] = _
  rw [Go.Sort.grow_grow, Go.Sort.grow_grow]
  rfl
set_option maxRecDepth 100000 in
set_option maxHeartbeats 1000000 in
/-- pick's comparison, at ballots: it lays blocks of its own alone. -/
theorem cmpB_any (x y : Found BallotV) (W : World) : Calls Tryz.prog 128 #[.agg (fbC x).toArray, .agg (fbC y).toArray] W fun e w' => e = .returned (.int .i64 (cmpF x y)) ∧ ∃ q os', w' = Go.Sort.grow (W.drewN q) os' := by
  have hci := fun W' => Tryz.cmp_Compare_int x.rank y.rank W'
  have hcs := fun W' => compareS_any x.dig y.dig W'
  have HR : Hid (cmpF x y = orI (Lib.compareInt x.rank y.rank) (cmpS x.dig y.dig)) := Lib.hid rfl
  generalize cmpF x y = r at HR ⊢
  have b1 := Blk.new W 173 (fbC x).toArray
  have b2 := Blk.new' (g := W.heap.size + 1) (W.alloc (.cells (fbC x).toArray 173)) 173 (fbC y).toArray (by simp)
  have b1 := b1.q (q_new (W.alloc (.cells (fbC x).toArray 173)) (fbC y).toArray 173)
  obtain ⟨W1, hW1⟩ : ∃ W1, W1 = (W.alloc (.cells (fbC x).toArray 173)).alloc (.cells (fbC y).toArray 173) := ⟨_, rfl⟩
  rw [← hW1] at b1 b2
  have c0 : ∀ n, (W1.drewN n).cell? ⟨W.heap.size, 0, none⟩ = some (.int .i64 x.rank) := fun n => b1.cell 0
  have c1 : ∀ n, (W1.drewN n).cell? ⟨W.heap.size, 1, none⟩ = some (.string x.dig) := fun n => b1.cell 1
  have c2 : ∀ n, (W1.drewN n).cell? ⟨W.heap.size + 1, 0, none⟩ = some (.int .i64 y.rank) := fun n => b2.cell 0
  have c3 : ∀ n, (W1.drewN n).cell? ⟨W.heap.size + 1, 1, none⟩ = some (.string y.dig) := fun n => b2.cell 1
  have HX := Lib.hid hW1
  clear hW1 b1 b2
  generalize Lib.compareInt x.rank y.rank = ri at *
  generalize cmpS x.dig y.dig = rs at *
  go_enter Tryz.func128, Tryz.ntmps128
  go_upto_region 1 with (fail)
  refine (show Code.wp _ _ _ _ W1 → Code.wp _ _ _ _ _ from fun h => by rw [HX.out] at h; exact h) ?_
  refine wp_region_open (C := fun w' => ∃ n, w' = W1.drewN n) 10 (by kernel_rfl) (by kernel_rfl) ⟨1, rfl⟩ ?_
  simp only [List.take_succ_cons, List.take_zero]
  repeat (quiet_step (first | (go_at_call 121; exact Calls.quiet_of_same (hci _)) | (go_at_call 122; exact Calls.quiet_of_same (hcs _))))
  refine wpQuiet_nil ?_
  rintro w' ⟨n, rfl⟩
  have hb := Blk.new (W1.drewN n) 3 #[.int .i64 ri, .int .i64 rs]
  have hor := or_any (W1.drewN n).heap.size 0 2 ri rs _ (hb.cell 0) (hb.cell 1)
  have HE : Hid (∃ q os', (W1.drewN n).alloc (.cells #[.int .i64 ri, .int .i64 rs] 3) = Go.Sort.grow (W.drewN q) os') := Lib.hid ⟨n, _, by rw [HX.out]; exact grow3 W n _ _ _⟩
  clear hb
  refine any_one 10 rfl (by kernel_rfl) rfl (fun K' hK' => ?_)
  go_simp
  refine hK' _ _ ?_
  clear hK' K'
  try simp only [Act.put, List.setIfInBounds_toArray, List.set_cons_succ, List.set_cons_zero]
  refine any_one 11 rfl (by kernel_rfl) rfl (fun K' hK' => ?_)
  go_simp
  refine hor.mono ?_
  rintro e w2 ⟨rfl, rfl⟩
  refine hK' _ _ ?_
  clear hK' K' hor
  try simp only [Act.put, List.setIfInBounds_toArray, List.set_cons_succ, List.set_cons_zero]
  rw [← HR.out]
  refine any_pure 12 (v := .int .i64 r) rfl (by kernel_rfl) (by kernel_rfl) (by kernel_rfl) (by intro c d v a w h; cases d <;> exact h) rfl (fun w => by rfl) ?_
  try simp only [Act.put, List.setIfInBounds_toArray, List.set_cons_succ, List.set_cons_zero]
  refine any_done (by kernel_rfl) ?_ _
  go_wp2_with fail
  go_ret
  exact ⟨rfl, HE.out⟩

end Go.Proofs.YtomkeaeegdjhnaaGreatDoor.Known

namespace Go.Proofs.YtomkeaeegdjhnaaGreatDoor.Known
open Go.RowKit Grp Mem _root_.Go.Proofs.YtomkeaeegdjhnaaGreatDoor.Code Sha Sign _root_.Go.Proofs.YtomkeaeegdjhnaaGreatDoor.Item

/-! ### Rows as the shelf's sort knows them -/
theorem holds_of {α : Type} [Inhabited α] {f : α → List Value} {k g n cap : Nat} {w : World} {base : Nat} {e : TypeId} {l : List α} (hk : ∀ x, (f x).length = k) (h : Owns w base e k (.slice (some ⟨g, 0, none⟩) n cap) n (l.flatMap f)) (hn : n = l.length) (h0 : 0 < n) : Go.Sort.HoldsK f k w g 0 l.toArray ∧ base ≤ g ∧ g < w.heap.size := by
  subst hn
  rcases h.2 with ⟨e1, h1⟩ | ⟨g', cap', cur, fz, hv, hb, hg, hlo, hnc, hcm, hcs, htk⟩
  · omega
  · injection hv with hA _ _
    injection hA with hA
    injection hA with hA
    subst hA
    refine ⟨fun t ht => ?_, hb, (Array.getElem?_eq_some_iff.1 hg).1⟩
    rw [Go.Sort.size_flatK, List.size_toArray] at ht
    have hk0 : 0 < k := by
      rcases Nat.eq_zero_or_pos k with h2 | h2
      · subst h2; simp at ht
      · exact h2
    have h1 : t / k < l.length := Nat.div_lt_of_lt_mul (by rwa [Nat.mul_comm] at ht)
    have h2 := Nat.mod_lt t hk0
    have hcur : t < cur.size := by
      rw [hcs]
      have := Nat.mul_le_mul_right k hnc
      omega
    have e1 : cur[t]? = some (f l[t / k])[t % k]! := by
      have h3 : (cur.toList.take (l.length * k))[t]? = (l.flatMap f)[t]? := by rw [htk]
      rw [List.getElem?_take, if_pos ht] at h3
      have h4 := flat_get hk l (t / k) (t % k) h1 h2
      rw [show t / k * k + t % k = t by rw [Nat.mul_comm]; exact Nat.div_add_mod t k] at h4
      rw [h4] at h3
      rw [← Array.getElem?_toList, h3, List.getElem?_eq_getElem (by rw [hk]; exact h2), getElem!_pos (f l[t / k]) (t % k) (by rw [hk]; exact h2)]
    refine ⟨?_, ?_⟩
    · rw [Go.Sort.get_flatK _ _ _ _ (by rw [List.size_toArray]; exact ht), getElem!_pos l.toArray (t / k) (by simpa using h1)]
      unfold World.cell?
      simp only [hg, Nat.zero_add]
      simpa using e1
    · unfold World.frozen?
      simp only [hg, Nat.zero_add]
      rcases hlo with h7 | h7
      · simp only [h7]; simp
      · have : ¬ fz.1 ≤ t := by omega
        simp [this]
theorem rows_of {α : Type} [Inhabited α] {f : α → List Value} {k g : Nat} {w : World} {d : Array α} (hk : ∀ x, (f x).length = k) (h : Go.Sort.HoldsK f k w g 0 d) (hg : g < w.heap.size) : RowsAt w (some ⟨g, 0, none⟩) k f d.toList := fun _ => by
  refine ⟨g, 0, rfl, hg, fun j hj i v hv => ?_⟩
  have hj' : j < d.size := by simpa using hj
  have := HoldsK.cells h hk hj' i v (by rw [getElem!_pos d j hj']; simpa using hv)
  rw [Addr.add_mid] at this
  exact this
theorem below_sort {α : Type} [Inhabited α] {f : α → List Value} {k g B m : Nat} {w0 w : World} {d : Array α} {os : Array Obj} (h : Below B w0 w) (hg : B ≤ g) (hB : B ≤ w.heap.size) : Below B w0 (sortWorldK f k w g 0 m d os) := by
  unfold sortWorldK
  refine h.trans ⟨rfl, rfl, rfl, ?_, fun i hi => ?_⟩
  · rw [Go.Sort.size_grow, Go.Sort.size_putRowK]
    exact Nat.le_add_right _ _
  · unfold Go.Sort.putRowK Go.Sort.putRow Go.Sort.mapBlock Go.Sort.grow Go.Sort.ahead
    rw [Array.getElem?_append_left (by simp; omega), Array.getElem?_modify, if_neg (by omega)]

theorem insOuter_stop2 {α : Type} [Inhabited α] (lt : α → α → Bool) (d : Array α) (n : Nat) (h : d.size ≤ 1) : Go.Sort.insertionSort lt d 0 n = d ∨ 1 < n := by
  rcases Nat.lt_or_ge 1 n with h1 | h1
  · exact .inr h1
  · left
    unfold Go.Sort.insertionSort
    rw [Go.Sort.insOuter, if_neg (by omega)]

/-- What the sort leaves. -/
def sortA {α : Type} [Inhabited α] (d : Array (Found α)) : Array (Found α) := Go.Sort.insertionSort (ltOf cmpF) d 0 d.size

set_option maxRecDepth 100000 in
set_option maxHeartbeats 1000000 in
theorem stableB_lt (g cap : Nat) (d : Array (Found BallotV)) (w : World) (hH : Go.Sort.HoldsK fbC 9 w g 0 d) (hg : g < w.heap.size) (hd : d.size < 20) :
    Calls Tryz.prog 127 #[.slice (some ⟨g, 0, none⟩) d.size cap, .func (.func 128) #[] #[]] w fun e w' => e = .returned (.tuple #[]) ∧ ∃ n os, w' = sortWorldK fbC 9 w g 0 n (sortA d) os := by
  have hins : Calls Tryz.prog 230 #[.slice (some ⟨g, 0, none⟩) d.size cap, .int .i64 (0 : Nat), .int .i64 (d.size : Nat), .func (.func 128) #[] #[]] w fun e w' => e = .returned (.tuple #[]) ∧ ∃ n os, w' = sortWorldK fbC 9 w g 0 n (sortA d) os :=
    AnyQ.insertionSortCmpFunc Tryz.insBallot 9 Tryz.isAgg173 Tryz.sizeOf173 fbC fb_len fb_one cmpF 128 #[] g 0 cap 0 d.size d w (enters_of Tryz.func128 (by kernel_rfl) rfl) (fun _ _ _ _ x y => cmpB_any x y _) hH hg (Nat.zero_le _) (Nat.le_refl _) (by omega)
  have hst : Calls Tryz.prog 175 #[.slice (some ⟨g, 0, none⟩) d.size cap, .int .i64 (d.size : Nat), .func (.func 128) #[] #[]] w fun e w' => e = .returned (.tuple #[]) ∧ ∃ n os, w' = sortWorldK fbC 9 w g 0 n (sortA d) os := by
    clear hH
    generalize sortA d = r at hins ⊢
    go_enter Tryz.func175, Tryz.ntmps175
    go_wp2_with fail
    refine wp_loop_rounds 1 ?_
    rw [rounds_succ]
    go_wp2_with (go_at_call 230; refine hins.mono ?_; rintro e w' ⟨rfl, n, os, rfl⟩)
    refine wp_loop_rounds 1 ?_
    rw [rounds_succ]
    go_wp2_with fail
    go_end0
    exact ⟨rfl, n, os, rfl⟩
  clear hins hH
  generalize sortA d = r at hst ⊢
  go_enter Tryz.func127, Tryz.ntmps127
  go_wp2_with (go_at_call 175; refine hst.mono ?_; rintro e w' ⟨rfl, n, os, rfl⟩)
  go_end0
  exact ⟨rfl, n, os, rfl⟩

set_option maxRecDepth 100000 in
set_option maxHeartbeats 1000000 in
theorem insEndB (A : Option Addr) (cap : Nat) (w : World) :
    Calls Tryz.prog 230 #[.slice A 20 cap, .int .i64 20, .int .i64 20, .func (.func 128) #[] #[]] w fun e w' => e = .returned (.tuple #[]) ∧ w' = w := by
  go_enter Tryz.func230, Tryz.ntmps230
  go_wp2_with fail
  refine wp_loop_rounds 1 ?_
  rw [rounds_succ]
  go_wp2_with fail
  go_end0
  exact ⟨rfl, rfl⟩

set_option maxRecDepth 100000 in
set_option maxHeartbeats 1000000 in
theorem stableB_eq (g cap : Nat) (d : Array (Found BallotV)) (w : World) (hH : Go.Sort.HoldsK fbC 9 w g 0 d) (hg : g < w.heap.size) (hd : d.size = 20) :
    Calls Tryz.prog 127 #[.slice (some ⟨g, 0, none⟩) d.size cap, .func (.func 128) #[] #[]] w fun e w' => e = .returned (.tuple #[]) ∧ ∃ n os, w' = sortWorldK fbC 9 w g 0 n (sortA d) os := by
  have hins : Calls Tryz.prog 230 #[.slice (some ⟨g, 0, none⟩) d.size cap, .int .i64 (0 : Nat), .int .i64 (d.size : Nat), .func (.func 128) #[] #[]] w fun e w' => e = .returned (.tuple #[]) ∧ ∃ n os, w' = sortWorldK fbC 9 w g 0 n (sortA d) os :=
    AnyQ.insertionSortCmpFunc Tryz.insBallot 9 Tryz.isAgg173 Tryz.sizeOf173 fbC fb_len fb_one cmpF 128 #[] g 0 cap 0 d.size d w (enters_of Tryz.func128 (by kernel_rfl) rfl) (fun _ _ _ _ x y => cmpB_any x y _) hH hg (Nat.zero_le _) (Nat.le_refl _) (by omega)
  have hst : Calls Tryz.prog 175 #[.slice (some ⟨g, 0, none⟩) d.size cap, .int .i64 (d.size : Nat), .func (.func 128) #[] #[]] w fun e w' => e = .returned (.tuple #[]) ∧ ∃ n os, w' = sortWorldK fbC 9 w g 0 n (sortA d) os := by
    clear hH
    generalize sortA d = r at hins ⊢
    rw [hd, show ((20 : Nat) : Int) = 20 from rfl, show ((0 : Nat) : Int) = 0 from rfl] at hins
    rw [hd, show ((20 : Nat) : Int) = 20 from rfl]
    go_enter Tryz.func175, Tryz.ntmps175
    go_wp2_with fail
    refine wp_loop_rounds 2 ?_
    rw [rounds_succ]
    go_wp2_with (go_at_call 230; refine hins.mono ?_; rintro e w' ⟨rfl, n, os, rfl⟩)
    rw [rounds_succ]
    go_wp2_with (go_at_call 230; refine (insEndB _ _ _).mono ?_; rintro e w' ⟨rfl, rfl⟩)
    refine wp_loop_rounds 1 ?_
    rw [rounds_succ]
    go_wp2_with fail
    go_end0
    exact ⟨rfl, n, os, rfl⟩
  clear hins hH
  generalize sortA d = r at hst ⊢
  have hd' : d.size ≤ 20 := by omega
  clear hd
  go_enter Tryz.func127, Tryz.ntmps127
  go_wp2_with (go_at_call 175; refine hst.mono ?_; rintro e w' ⟨rfl, n, os, rfl⟩)
  go_end0
  exact ⟨rfl, n, os, rfl⟩

theorem stableB_any (g cap : Nat) (d : Array (Found BallotV)) (w : World) (hH : Go.Sort.HoldsK fbC 9 w g 0 d) (hg : g < w.heap.size) (hd : d.size ≤ 20) :
    Calls Tryz.prog 127 #[.slice (some ⟨g, 0, none⟩) d.size cap, .func (.func 128) #[] #[]] w fun e w' => e = .returned (.tuple #[]) ∧ ∃ n os, w' = sortWorldK fbC 9 w g 0 n (sortA d) os := by
  rcases Nat.lt_or_eq_of_le hd with h | h
  · exact stableB_lt g cap d w hH hg h
  · exact stableB_eq g cap d w hH hg h

set_option maxRecDepth 100000 in
set_option maxHeartbeats 1000000 in
theorem stableB_nil (w : World) :
    Calls Tryz.prog 127 #[.slice none 0 0, .func (.func 128) #[] #[]] w fun e w' => e = .returned (.tuple #[]) ∧ w' = w := by
  have hins : Calls Tryz.prog 230 #[.slice none 0 0, .int .i64 0, .int .i64 0, .func (.func 128) #[] #[]] w fun e w' => e = .returned (.tuple #[]) ∧ w' = w := by
    go_enter Tryz.func230, Tryz.ntmps230
    go_wp2_with fail
    refine wp_loop_rounds 1 ?_
    rw [rounds_succ]
    go_wp2_with fail
    go_end0
    exact ⟨rfl, rfl⟩
  have hst : Calls Tryz.prog 175 #[.slice none 0 0, .int .i64 0, .func (.func 128) #[] #[]] w fun e w' => e = .returned (.tuple #[]) ∧ w' = w := by
    go_enter Tryz.func175, Tryz.ntmps175
    go_wp2_with fail
    refine wp_loop_rounds 1 ?_
    rw [rounds_succ]
    go_wp2_with (go_at_call 230; refine hins.mono ?_; rintro e w' ⟨rfl, hw⟩; rw [hw])
    refine wp_loop_rounds 1 ?_
    rw [rounds_succ]
    go_wp2_with fail
    go_end0
    exact ⟨rfl, rfl⟩
  go_enter Tryz.func127, Tryz.ntmps127
  go_wp2_with (go_at_call 175; refine hst.mono ?_; rintro e w' ⟨rfl, hw⟩; rw [hw])
  go_end0
  exact ⟨rfl, rfl⟩
end Go.Proofs.YtomkeaeegdjhnaaGreatDoor.Known

namespace Go.Proofs.YtomkeaeegdjhnaaGreatDoor.Known
open Go.RowKit Grp Mem _root_.Go.Proofs.YtomkeaeegdjhnaaGreatDoor.Code Sha Sign _root_.Go.Proofs.YtomkeaeegdjhnaaGreatDoor.Item

theorem results_row_tmp2 {P : Program} {fn : Func} {p u r : Tmp} {ty : TypeId} (h : fn.results = #[.cell p ty, .tmp u, .tmp r]) (tmps : Array Value) (w : World) (g : Nat) (t : TypeId) (cs : Array Value) (fr : Nat × Nat) (d : TypeDesc) (v v2 : Value)
    (hp : tmps.getD p undef = .pointer (some ⟨g, 0, none⟩)) (hv : tmps.getD u undef = v) (hv2 : tmps.getD r undef = v2) (hg : w.heap[g]? = some (.cells cs t fr))
    (hu : P.underlying ty = some d) (hd : (match d with | .struct _ | .array _ _ => true | _ => false) = true) (hi : (P.info? ty).map (·.size) = some cs.size) :
    (results fn tmps).run P w = .ok (.tuple #[.agg cs, v, v2]) w := by
  have hp' : tmps[p]?.getD undef = .pointer (some ⟨g, 0, none⟩) := by simpa using hp
  have hv' : tmps[u]?.getD undef = v := by simpa using hv
  have hv2' : tmps[r]?.getD undef = v2 := by simpa using hv2
  simp [results, h, hp', hv', hv2', asAddr, run_loadVar_row w g t ty cs fr d hg hu hd hi]

/-- Does an item bear a ballot for an actor and a generation? -/
def wantB (actor : ByteArray) (gen : Int) (x : ItemR) : Bool := decide (x.kind = 2) && (decide (x.ballot.actor = actor) && decide (x.ballot.gen = gen))

/-- The worlds of the closure's last region. -/
structure WantF (w : World) (x : ItemR) (w' : World) : Prop where
  q : Q w w'
  it : Blk w' w.heap.size 46 x.cells.toArray
  b : Blk w' (w.heap.size + 1 + 1) 42 x.ballot.cells.toArray
  r : ∃ cs : List Value, cs.length = 7 ∧ Blk w' (w.heap.size + 1) 42 cs.toArray
structure WantW (w0 : World) (x : ItemR) where
  w : World
  f : WantF w0 x w
theorem wpQuiet_load_S {P : Program} {C : World → Prop} {ops : Array Oper} {rest : List Oper} {o : Oper} {a : Act} {K : Act → Prop} (ty : TypeId) (y : Operand) (p v : Value) (ho : o.op = .load ty y) (hw : Region.wanted o (yielded ops a.tmps) = true)
    (hy : a.eval y = p) (hr : ∀ w, C w → (Instr.loadAt ty p).run P w = .ok v w) (h : wpQuiet P ops C K rest (a.put o.dst v)) : wpQuiet P ops C K (o :: rest) a := by
  unfold wpQuiet
  rw [if_pos hw]
  refine ⟨v, fun w hC => ?_, h⟩
  unfold Oper.quietAt execOp
  simp only [ho, hy, Sem.run_bind, hr w hC, Result.andThen_ok, Sem.run_pure, Oper.quietUpon]
  exact ⟨trivial, trivial⟩

set_option maxRecDepth 100000 in
set_option maxHeartbeats 2000000 in
theorem wantB_any (p1 p2 : Nat) (actor : ByteArray) (gen : Int) (x : ItemR) (w : World) (h1 : w.cell? ⟨p1, 0, none⟩ = some (.string actor)) (hp1 : p1 < w.heap.size) (h2 : w.cell? ⟨p2, 0, none⟩ = some (.int .i64 gen)) (hp2 : p2 < w.heap.size) :
    Calls Tryz.prog 70 #[.agg (itA x), .pointer (some ⟨p1, 0, none⟩), .pointer (some ⟨p2, 0, none⟩)] w fun e w' => e = .returned (.tuple #[.agg (ballotA x.ballot), .int .i64 0, .bool (wantB actor gen x)]) ∧ Q w w' := by
  have hbi := Blk.new w 46 (itA x)
  have hq1 := q_new w (itA x) 46
  have hbr := Blk.new' (g := w.heap.size + 1) (w.alloc (.cells (itA x) 46)) 42 (ballotA ballot0) (by simp)
  have hq2 := q_new (w.alloc (.cells (itA x) 46)) (ballotA ballot0) 42
  have hbi := hbi.q hq2
  have hq := Q.trans hq1 hq2
  clear hq1 hq2
  obtain ⟨w2, hw2⟩ : ∃ w2, w2 = (w.alloc (.cells (itA x) 46)).alloc (.cells (ballotA ballot0) 42) := ⟨_, rfl⟩
  rw [← hw2] at hbi hbr hq
  have hw2s : w2.heap.size = w.heap.size + 1 + 1 := by rw [hw2]; simp
  have hLd : ∀ y : Wd w2, (Instr.loadAt 42 (.pointer (some ⟨w.heap.size, 30, none⟩))).run Tryz.prog y.w = .ok (.agg (ballotA x.ballot)) y.w := item_ballot hbi.lt (Blk.range hbi)
  have HX := Lib.hid hw2
  clear hw2
  have hbb := Blk.new' (g := w.heap.size + 1 + 1) w2 42 ballot0.cells.toArray hw2s.symm
  go_enter Tryz.func70, Tryz.ntmps70
  go_upto_region 1 with (fail)
  refine (show Code.wp _ _ _ _ w2 → Code.wp _ _ _ _ _ from fun h => by rw [HX.out] at h; exact h) ?_
  go_wp2_with (first | (refine wpList_load_run 42 (.tmp 8) (.pointer (some ⟨w.heap.size, 30, none⟩)) (.agg (ballotA x.ballot)) ?_ ?_ ?_ ?_ ?_; rfl; rfl; rfl; exact hLd ⟨_, Q.refl _⟩) | (refine wpList_store_blk hbb rfl 42 (.tmp 7) (.tmp 9) x.ballot.cells rfl rfl rfl (by kernel_rfl) (ballot_all _) (Nat.le_refl 7) ?_))
  intro W hW hbel
  rw [splice_all _ _ (by rfl)] at hW
  have hqW2 : Q w2 W := hbel _ _ (by omega) (q_new _ _ _)
  have hF : WantF w x W := ⟨Q.trans hq hqW2, hbi.q hqW2, hW, ballot0.cells, rfl, hbr.q hqW2⟩
  clear hW hbel hqW2 hbb hLd hbr hq HX hw2s
  have hFd : ∃ y : WantW w x, ({ W with drawn := W.drawn + 1 } : World) = y.w := ⟨⟨_, ⟨hF.q.drew, hF.it, hF.b, hF.r⟩⟩, rfl⟩
  have cK : ∀ y : WantW w x, y.w.cell? ⟨w.heap.size, 0, none⟩ = some (.int .i64 x.kind) := fun y => y.f.it.cell 0
  have cA : ∀ y : WantW w x, y.w.cell? ⟨w.heap.size + 1 + 1, 1, none⟩ = some (.string x.ballot.actor) := fun y => y.f.b.cell 1
  have cG : ∀ y : WantW w x, y.w.cell? ⟨w.heap.size + 1 + 1, 2, none⟩ = some (.int .i64 x.ballot.gen) := fun y => y.f.b.cell 2
  have c1 : ∀ y : WantW w x, y.w.cell? ⟨p1, 0, none⟩ = some (.string actor) := fun y => (y.f.q.cell (p := ⟨p1, 0, none⟩) hp1).trans h1
  have c2 : ∀ y : WantW w x, y.w.cell? ⟨p2, 0, none⟩ = some (.int .i64 gen) := fun y => (y.f.q.cell (p := ⟨p2, 0, none⟩) hp2).trans h2
  have hLb : ∀ z, (∃ y : WantW w x, z = y.w) → (Instr.loadAt 42 (.pointer (some ⟨w.heap.size + 1 + 1, 0, none⟩))).run Tryz.prog z = .ok (.agg (ballotA x.ballot)) z := by
    rintro z ⟨y, rfl⟩
    exact Wd.load (P := Tryz.prog) (w0 := y.w) y.f.b.lt (Blk.range y.f.b) Tryz.underlying42 rfl (by kernel_rfl) ⟨y.w, Q.refl _⟩
  have HR : Hid (wantB actor gen x = (decide (x.kind = 2) && (decide (x.ballot.actor = actor) && decide (x.ballot.gen = gen)))) := Lib.hid rfl
  have HF := Lib.hid hF
  haveI hNE : Nonempty (WantW w x) := ⟨⟨W, hF⟩⟩
  clear hF h1 h2 hbi
  by_cases hk : x.kind = 2
  · rw [decide_eq_true hk, Bool.true_and] at HR
    by_cases ha : x.ballot.actor = actor
    · rw [decide_eq_true ha, Bool.true_and] at HR
      go_wp2_with fail
      refine wp_region_reads (S := fun w' => ∃ y : WantW w x, w' = y.w) 16 (by kernel_rfl) (by kernel_rfl) (by intro c a d v w h; cases d <;> exact h) hFd ?_
      simp only [List.take_succ_cons, List.take_zero]
      refine wpQuiet_load_S 42 (.tmp 7) (.pointer (some ⟨w.heap.size + 1 + 1, 0, none⟩)) (.agg (ballotA x.ballot)) rfl rfl rfl hLb ?_
      dsimp only [Act.put]
      simp only [List.setIfInBounds_toArray, List.set_cons_succ, List.set_cons_zero]
      repeat (go_big_quiet_step (fail))
      refine wpQuiet_nil ?_
      rintro w' ⟨y, rfl⟩
      obtain ⟨cs, hcs, hbr⟩ := y.f.r
      refine held_one 16 rfl (by kernel_rfl) rfl (fun K' hK' => ?_)
      refine wp_store_mid 42 (.tmp 4) (.tmp 10) rfl (w.heap.size + 1) 0 (ballotA x.ballot) rfl rfl (show y.w.there (w.heap.size + 1) 0 7 by simpa using hbr.there (n := 7) (Nat.le_of_eq hcs.symm)) (by kernel_rfl) (ballot_all _) ?_
      have hsc : Blk (y.w.setCells (w.heap.size + 1) 0 x.ballot.cells) (w.heap.size + 1) 42 x.ballot.cells.toArray := by
        have := Blk.setCells x.ballot.cells 0 _ y.w hbr (Nat.le_of_eq (by rw [hcs]; rfl))
        rwa [splice_all _ _ (by rw [hcs]; rfl)] at this
      have hfar := fun b (hne : b ≠ w.heap.size + 1) => setCells_far (g := w.heap.size + 1) hne x.ballot.cells 0 y.w
      have hqs : Q w (y.w.setCells (w.heap.size + 1) 0 x.ballot.cells) := below_setCells (Nat.le_succ _) x.ballot.cells 0 w y.w y.f.q
      have hFN : WantF w x (y.w.setCells (w.heap.size + 1) 0 x.ballot.cells) := ⟨hqs, (hfar _ (by omega)).trans y.f.it, (hfar _ (by omega)).trans y.f.b, x.ballot.cells, rfl, hsc⟩
      refine hK' _ _ ⟨⟨_, hFN⟩, rfl⟩ ?_
      clear hK' K' hbr hfar
      have HZ := Lib.hid hsc
      have HQ := Lib.hid hqs
      clear hsc hqs
      simp only [Act.put, List.setIfInBounds_toArray, List.set_cons_succ, List.set_cons_zero]
      refine held_pure 17 (v := .int .i64 0) rfl (by kernel_rfl) (by kernel_rfl) (by kernel_rfl) (by intro c a d v w h; cases d <;> exact h) rfl ⟨⟨_, hFN⟩, rfl⟩ (fun w => by rfl) ?_
      simp only [Act.put, List.setIfInBounds_toArray, List.set_cons_succ, List.set_cons_zero]
      refine held_pure 18 (v := .bool (x.ballot.gen == gen)) rfl (by kernel_rfl) (by kernel_rfl) (by kernel_rfl) (by intro c a d v w h; cases d <;> exact h) rfl ⟨⟨_, hFN⟩, rfl⟩ (fun w => by rfl) ?_
      simp only [Act.put, List.setIfInBounds_toArray, List.set_cons_succ, List.set_cons_zero]
      refine wpAnyH_done (by kernel_rfl) ?_ _
      go_wp2_with fail
      exact bodyPost_ret (results_row_tmp2 rfl _ _ (w.heap.size + 1) 42 (ballotA x.ballot) (0, 0) _ _ _ rfl rfl rfl HZ.out Tryz.underlying42 rfl (by kernel_rfl)) rfl ⟨by rw [HR.out, ← beq_int]; rfl, HQ.out⟩
    · rw [decide_eq_false ha, Bool.false_and] at HR
      have hab : (x.ballot.actor.toList == actor.toList) = false := by rw [beq_str, decide_eq_false ha]
      go_wp2_with fail
      refine wp_region_reads (S := fun w' => ∃ y : WantW w x, w' = y.w) 16 (by kernel_rfl) (by kernel_rfl) (by intro c a d v w h; cases d <;> exact h) hFd ?_
      simp only [List.take_succ_cons, List.take_zero]
      refine wpQuiet_load_S 42 (.tmp 7) (.pointer (some ⟨w.heap.size + 1 + 1, 0, none⟩)) (.agg (ballotA x.ballot)) rfl rfl rfl hLb ?_
      dsimp only [Act.put]
      simp only [List.setIfInBounds_toArray, List.set_cons_succ, List.set_cons_zero]
      repeat (go_big_quiet_step (fail))
      refine wpQuiet_nil ?_
      rintro w' ⟨y, rfl⟩
      obtain ⟨cs, hcs, hbr⟩ := y.f.r
      refine held_one 16 rfl (by kernel_rfl) rfl (fun K' hK' => ?_)
      refine wp_store_mid 42 (.tmp 4) (.tmp 10) rfl (w.heap.size + 1) 0 (ballotA x.ballot) rfl rfl (show y.w.there (w.heap.size + 1) 0 7 by simpa using hbr.there (n := 7) (Nat.le_of_eq hcs.symm)) (by kernel_rfl) (ballot_all _) ?_
      have hsc : Blk (y.w.setCells (w.heap.size + 1) 0 x.ballot.cells) (w.heap.size + 1) 42 x.ballot.cells.toArray := by
        have := Blk.setCells x.ballot.cells 0 _ y.w hbr (Nat.le_of_eq (by rw [hcs]; rfl))
        rwa [splice_all _ _ (by rw [hcs]; rfl)] at this
      have hfar := fun b (hne : b ≠ w.heap.size + 1) => setCells_far (g := w.heap.size + 1) hne x.ballot.cells 0 y.w
      have hqs : Q w (y.w.setCells (w.heap.size + 1) 0 x.ballot.cells) := below_setCells (Nat.le_succ _) x.ballot.cells 0 w y.w y.f.q
      have hFN : WantF w x (y.w.setCells (w.heap.size + 1) 0 x.ballot.cells) := ⟨hqs, (hfar _ (by omega)).trans y.f.it, (hfar _ (by omega)).trans y.f.b, x.ballot.cells, rfl, hsc⟩
      refine hK' _ _ ⟨⟨_, hFN⟩, rfl⟩ ?_
      clear hK' K' hbr hfar
      have HZ := Lib.hid hsc
      have HQ := Lib.hid hqs
      clear hsc hqs
      simp only [Act.put, List.setIfInBounds_toArray, List.set_cons_succ, List.set_cons_zero]
      refine held_pure 17 (v := .int .i64 0) rfl (by kernel_rfl) (by kernel_rfl) (by kernel_rfl) (by intro c a d v w h; cases d <;> exact h) rfl ⟨⟨_, hFN⟩, rfl⟩ (fun w => by rfl) ?_
      simp only [Act.put, List.setIfInBounds_toArray, List.set_cons_succ, List.set_cons_zero]
      refine held_pure 18 (v := .bool false) rfl (by kernel_rfl) (by kernel_rfl) (by kernel_rfl) (by intro c a d v w h; cases d <;> exact h) rfl ⟨⟨_, hFN⟩, rfl⟩ (fun w => by rfl) ?_
      simp only [Act.put, List.setIfInBounds_toArray, List.set_cons_succ, List.set_cons_zero]
      refine wpAnyH_done (by kernel_rfl) ?_ _
      go_wp2_with fail
      exact bodyPost_ret (results_row_tmp2 rfl _ _ (w.heap.size + 1) 42 (ballotA x.ballot) (0, 0) _ _ _ rfl rfl rfl HZ.out Tryz.underlying42 rfl (by kernel_rfl)) rfl ⟨by rw [HR.out]; rfl, HQ.out⟩
  · rw [decide_eq_false hk, Bool.false_and] at HR
    have hkb : (x.kind == 2) = false := by simpa using hk
    go_wp2_with fail
    refine wp_region_reads (S := fun w' => ∃ y : WantW w x, w' = y.w) 16 (by kernel_rfl) (by kernel_rfl) (by intro c a d v w h; cases d <;> exact h) hFd ?_
    simp only [List.take_succ_cons, List.take_zero]
    refine wpQuiet_load_S 42 (.tmp 7) (.pointer (some ⟨w.heap.size + 1 + 1, 0, none⟩)) (.agg (ballotA x.ballot)) rfl rfl rfl hLb ?_
    dsimp only [Act.put]
    simp only [List.setIfInBounds_toArray, List.set_cons_succ, List.set_cons_zero]
    repeat (go_big_quiet_step (fail))
    refine wpQuiet_nil ?_
    rintro w' ⟨y, rfl⟩
    obtain ⟨cs, hcs, hbr⟩ := y.f.r
    refine held_one 16 rfl (by kernel_rfl) rfl (fun K' hK' => ?_)
    refine wp_store_mid 42 (.tmp 4) (.tmp 10) rfl (w.heap.size + 1) 0 (ballotA x.ballot) rfl rfl (show y.w.there (w.heap.size + 1) 0 7 by simpa using hbr.there (n := 7) (Nat.le_of_eq hcs.symm)) (by kernel_rfl) (ballot_all _) ?_
    have hsc : Blk (y.w.setCells (w.heap.size + 1) 0 x.ballot.cells) (w.heap.size + 1) 42 x.ballot.cells.toArray := by
      have := Blk.setCells x.ballot.cells 0 _ y.w hbr (Nat.le_of_eq (by rw [hcs]; rfl))
      rwa [splice_all _ _ (by rw [hcs]; rfl)] at this
    have hfar := fun b (hne : b ≠ w.heap.size + 1) => setCells_far (g := w.heap.size + 1) hne x.ballot.cells 0 y.w
    have hqs : Q w (y.w.setCells (w.heap.size + 1) 0 x.ballot.cells) := below_setCells (Nat.le_succ _) x.ballot.cells 0 w y.w y.f.q
    have hFN : WantF w x (y.w.setCells (w.heap.size + 1) 0 x.ballot.cells) := ⟨hqs, (hfar _ (by omega)).trans y.f.it, (hfar _ (by omega)).trans y.f.b, x.ballot.cells, rfl, hsc⟩
    refine hK' _ _ ⟨⟨_, hFN⟩, rfl⟩ ?_
    clear hK' K' hbr hfar
    have HZ := Lib.hid hsc
    have HQ := Lib.hid hqs
    clear hsc hqs
    simp only [Act.put, List.setIfInBounds_toArray, List.set_cons_succ, List.set_cons_zero]
    refine held_pure 17 (v := .int .i64 0) rfl (by kernel_rfl) (by kernel_rfl) (by kernel_rfl) (by intro c a d v w h; cases d <;> exact h) rfl ⟨⟨_, hFN⟩, rfl⟩ (fun w => by rfl) ?_
    simp only [Act.put, List.setIfInBounds_toArray, List.set_cons_succ, List.set_cons_zero]
    refine held_pure 18 (v := .bool false) rfl (by kernel_rfl) (by kernel_rfl) (by kernel_rfl) (by intro c a d v w h; cases d <;> exact h) rfl ⟨⟨_, hFN⟩, rfl⟩ (fun w => by rfl) ?_
    simp only [Act.put, List.setIfInBounds_toArray, List.set_cons_succ, List.set_cons_zero]
    refine wpAnyH_done (by kernel_rfl) ?_ _
    go_wp2_with fail
    exact bodyPost_ret (results_row_tmp2 rfl _ _ (w.heap.size + 1) 42 (ballotA x.ballot) (0, 0) _ _ _ rfl rfl rfl HZ.out Tryz.underlying42 rfl (by kernel_rfl)) rfl ⟨by rw [HR.out]; rfl, HQ.out⟩
end Go.Proofs.YtomkeaeegdjhnaaGreatDoor.Known

namespace Go.Proofs.YtomkeaeegdjhnaaGreatDoor.Known
open Go.RowKit Grp Mem _root_.Go.Proofs.YtomkeaeegdjhnaaGreatDoor.Code Sha Sign _root_.Go.Proofs.YtomkeaeegdjhnaaGreatDoor.Item

def foundB (x : ItemR) : Found BallotV := ⟨0, digOf x, x.ballot⟩
def takeB (actor : ByteArray) (gen : Int) (l : List ItemR) : List (Found BallotV) := (l.filter fun x => wantB actor gen x && itemRight x).map foundB
theorem takeB_step (actor : ByteArray) (gen : Int) (l : List ItemR) (j : Nat) (h : j < l.length) : takeB actor gen (l.take (j + 1)) = takeB actor gen (l.take j) ++ if wantB actor gen l[j] && itemRight l[j] then [foundB l[j]] else [] := by
  unfold takeB
  rw [List.take_succ_eq_append_getElem h, List.filter_append, List.map_append]
  congr 1
  cases hw : wantB actor gen l[j] && itemRight l[j] <;> simp [List.filter, hw]
theorem takeB_le (actor : ByteArray) (gen : Int) (l : List ItemR) (j : Nat) : (takeB actor gen (l.take j)).length ≤ j := by
  unfold takeB
  rw [List.length_map]
  refine Nat.le_trans (List.length_filter_le _ _) ?_
  rw [List.length_take]
  omega
def sortB (l : List (Found BallotV)) : List (Found BallotV) := (sortA l.toArray).toList
def ballotsK (actor : ByteArray) (gen : Int) (l : List ItemR) : List BallotV := (sortB (takeB actor gen l)).map (·.val)
theorem size_swp2 {α : Type} [Inhabited α] (lt : α → α → Bool) (a : Nat) : ∀ (j : Nat) (d : Array α), (Go.Sort.insInner lt a j d).size = d.size
  | 0, d => rfl
  | j + 1, d => by
    rw [Go.Sort.insInner]
    split
    · rw [size_swp2 lt a j, Go.Sort.size_swp]
    · rfl
theorem size_insO {α : Type} [Inhabited α] (lt : α → α → Bool) (a b : Nat) : ∀ (n i : Nat) (d : Array α), b - i = n → (Go.Sort.insOuter lt a b i d).size = d.size := by
  intro n
  induction n with
  | zero => intro i d h; rw [Go.Sort.insOuter, if_neg (by omega)]
  | succ n ih =>
    intro i d h
    rw [Go.Sort.insOuter, if_pos (by omega), ih (i + 1) _ (by omega), size_swp2]
theorem sortB_length (l : List (Found BallotV)) : (sortB l).length = l.length := by
  unfold sortB sortA Go.Sort.insertionSort
  rw [Array.length_toList, size_insO _ _ _ _ _ _ rfl, List.size_toArray]

theorem sortB_nil : sortB [] = [] := List.length_eq_zero_iff.1 (sortB_length [])
/-- The sort, of an own row. -/
theorem sorted_any (A : Option Addr) (c m base : Nat) (l : List (Found BallotV)) (w : World) (hm : m = l.length) (h20 : m ≤ 20) (h : Owns w base 173 9 (.slice A m c) m (l.flatMap fbC)) (hB : base ≤ w.heap.size) :
    Calls Tryz.prog 127 #[.slice A m c, .func (.func 128) #[] #[]] w fun e w' => e = .returned (.tuple #[]) ∧ (RowsAt w' A 9 fbC (sortB l) ∧ Below base w w') := by
  rcases h.2 with ⟨e1, h0⟩ | ⟨g, cap, cur, fz, hv, hb, hg, _⟩
  · injection e1 with hA _ hc
    subst hA hc
    have hl : l = [] := List.length_eq_zero_iff.1 (by omega)
    subst hl
    subst hm
    refine (stableB_nil w).mono ?_
    rintro e w' ⟨rfl, rfl⟩
    exact ⟨rfl, by rw [sortB_nil]; exact RowsAt.nil _ _ _ _, Below.refl _ _⟩
  · injection hv with hA _ hc
    subst hA
    rcases Nat.eq_zero_or_pos m with h0 | h0
    · have hl : l = [] := List.length_eq_zero_iff.1 (by omega)
      subst hl
      have hH : Go.Sort.HoldsK fbC 9 w g 0 (#[] : Array (Found BallotV)) := fun t ht => by rw [Go.Sort.size_flatK] at ht; simp at ht
      have := stableB_any g c #[] w hH (Array.getElem?_eq_some_iff.1 hg).1 (by simp)
      subst hm
      refine this.mono ?_
      rintro e w' ⟨rfl, n, os, rfl⟩
      exact ⟨rfl, by rw [sortB_nil]; exact RowsAt.nil _ _ _ _, below_sort (Below.refl _ _) hb hB⟩
    · obtain ⟨hH, hb', hg'⟩ := holds_of fb_len h hm h0
      subst hm
      have hs : (l.toArray).size = l.length := by simp
      have hsa : (sortA l.toArray).size = l.toArray.size := by
        unfold sortA Go.Sort.insertionSort
        rw [size_insO _ _ _ _ _ _ rfl]
      have := stableB_any g c l.toArray w hH hg' (by rw [hs]; exact h20)
      rw [hs] at this
      refine this.mono ?_
      rintro e w' ⟨rfl, n, os, rfl⟩
      refine ⟨rfl, rows_of fb_len (holdsK_sortWorldK_c fbC 9 w g 0 l.toArray _ n os hH hg' hsa) ?_, below_sort (Below.refl _ _) hb hB⟩
      exact Nat.lt_of_lt_of_le hg' (size_sortWorldK_c fbC 9 w g 0 n _ os)

theorem found_info : (Tryz.prog.info? 173).map (fun i => (i.zero, i.size, i.bytes)) = some (some (.agg (fbC default).toArray), 9, 96) := by kernel_rfl
theorem bal_info : (Tryz.prog.info? 42).map (fun i => (i.zero, i.size, i.bytes)) = some (some (.agg (ballotA ballot0)), 7, 72) := by kernel_rfl
theorem wpQuiet_build_run {P : Program} {C : World → Prop} {ops : Array Oper} {rest : List Oper} {o : Oper} {a : Act} {K : Act → Prop} (ty : TypeId) (parts : Array (Nat × Operand)) (vs : Array (Nat × Value)) (v : Value) (ho : o.op = .build ty parts) (hw : Region.wanted o (yielded ops a.tmps) = true)
    (hp : (parts.map fun x => (x.1, a.eval x.2)) = vs) (hr : ∀ w, (Instr.build ty vs).run P w = .ok v w) (h : wpQuiet P ops C K rest (a.put o.dst v)) : wpQuiet P ops C K (o :: rest) a := by
  unfold wpQuiet
  rw [if_pos hw]
  refine ⟨v, fun w hC => ?_, h⟩
  subst hp
  unfold Oper.quietAt execOp
  simp only [ho, Sem.run_bind, hr w, Result.andThen_ok, Sem.run_pure, Oper.quietUpon]
  exact ⟨trivial, trivial⟩
theorem fb_all (x : Found BallotV) : (fbC x).toArray.all (·.oneCell') = true := by
  rw [Array.all_eq_true_iff_forall_mem]
  intro v hv
  exact fb_one x v (by simpa using hv)
theorem build_found (d : ByteArray) (b : BallotV) (w : World) : (Instr.build 173 #[(0, .int .i64 0), (1, .string d), (2, .agg (ballotA b))]).run Tryz.prog w = .ok (.agg (fbC ⟨0, d, b⟩).toArray) w := by kernel_rfl
theorem bs_found (x : Found BallotV) (w : World) : (Instr.buildSlice 170 1 #[(0, .agg (fbC x).toArray)]).run Tryz.prog w = .ok (.slice (some ⟨w.heap.size, 0, none⟩) 1 1) (w.alloc (.cells (fbC x).toArray 173)) := by kernel_rfl
theorem bs_ballot (x : BallotV) (w : World) : (Instr.buildSlice 53 1 #[(0, .agg (ballotA x))]).run Tryz.prog w = .ok (.slice (some ⟨w.heap.size, 0, none⟩) 1 1) (w.alloc (.cells (ballotA x) 42)) := by kernel_rfl
theorem bal_len (x : BallotV) : x.cells.length = 7 := rfl
theorem bal_one (x : BallotV) : ∀ v ∈ x.cells, v.oneCell' = true := by
  have := ballot_all x
  rw [Array.all_eq_true_iff_forall_mem] at this
  intro v hv
  exact this v (by simpa using hv)

/-- What hands back a list of ballots. -/
def BallotsAre (l : List BallotV) (w : World) (e : Ending) (w' : World) : Prop := ∃ (A : Option Addr) (c : Nat), e = .returned (.slice A l.length c) ∧ l.length ≤ c ∧ c ≤ maxLen ∧ RowsAt w' A 7 BallotV.cells l ∧ Q w w'
set_option maxRecDepth 100000 in
set_option maxHeartbeats 2000000 in
theorem pickB_any (k : KR) (p1 p2 : Nat) (actor : ByteArray) (gen : Int) (w : World) (hT : Tab w) (hK : KIn w k) (h1 : w.cell? ⟨p1, 0, none⟩ = some (.string actor)) (hp1 : p1 < w.heap.size) (h2 : w.cell? ⟨p2, 0, none⟩ = some (.int .i64 gen)) (hp2 : p2 < w.heap.size) (hn : k.l.length ≤ 20) :
    Calls Tryz.prog 69 #[.agg (knA k), .func (.func 70) #[] #[.pointer (some ⟨p1, 0, none⟩), .pointer (some ⟨p2, 0, none⟩)]] w (BallotsAre (ballotsK actor gen k.l) w) := by
  obtain ⟨w1, x, hx, hq1, hbk⟩ := boxedB w 25 k.cells
  have hx : w.alloc (.cells (knA k) 25) = x.w := hx
  have cI : ∀ y : Wd w1, y.w.cell? ⟨w.heap.size, 1, none⟩ = some (.slice k.iA k.l.length k.iC) := fun y => (y.blk hbk).cell 1
  have hKy : ∀ y : Wd w1, KIn y.w k := fun y => hK.q (Q.trans hq1 y.q)
  have hTy : ∀ y : Wd w1, Tab y.w := fun y => hT.q (Q.trans hq1 y.q)
  have hW1 : ∀ y : Wd w1, y.w.cell? ⟨p1, 0, none⟩ = some (.string actor) := fun y => ((Q.trans hq1 y.q).cell (p := ⟨p1, 0, none⟩) hp1).trans h1
  have hW2 : ∀ y : Wd w1, y.w.cell? ⟨p2, 0, none⟩ = some (.int .i64 gen) := fun y => ((Q.trans hq1 y.q).cell (p := ⟨p2, 0, none⟩) hp2).trans h2
  have hP1 : ∀ y : Wd w1, p1 < y.w.heap.size := fun y => Nat.lt_of_lt_of_le hp1 (Q.trans hq1 y.q).size
  have hP2 : ∀ y : Wd w1, p2 < y.w.heap.size := fun y => Nat.lt_of_lt_of_le hp2 (Q.trans hq1 y.q).size
  have HQ := Lib.hid hq1
  obtain ⟨i0, hi, hz0, hz1, hz2⟩ := info_parts found_info
  obtain ⟨j0, hji, hy0, hy1, hy2⟩ := info_parts bal_info
  have e99 : ∀ args w, (callFunc 70 args).run Tryz.prog w = .ok (.enter 70 args) w := enters_of Tryz.func70 (by kernel_rfl) rfl
  clear hbk hq1 h1 h2 hp1 hp2
  go_enter Tryz.func69, Tryz.ntmps69
  go_wp2_with fail
  go_loopw [5, 17] (fun a i wr => ∃ (j c m : Nat) (A : Option Addr) (z : Wd w1), a = .slice A m c ∧ i = .int .i64 j ∧ wr = z.w ∧ j ≤ k.l.length ∧ m ≤ j ∧ m ≤ c ∧ c ≤ maxLen ∧ Hid (m = (takeB actor gen (k.l.take j)).length) ∧ Owns z.w w1.heap.size 173 9 (.slice A m c) m ((takeB actor gen (k.l.take j)).flatMap fbC)) (fun _ i _ => k.l.length - (intOf i).toNat)
  case atStart => exact ⟨0, 0, 0, none, x, rfl, rfl, rfl, Nat.zero_le _, Nat.zero_le _, Nat.zero_le _, Nat.zero_le _, Lib.hid rfl, Owns.nil_ _ _ _ _⟩
  case round =>
    obtain ⟨j, c, m, A, z, rfl, rfl, rfl, hj, hmj, hmc, hcm, hm, hown⟩ := hrel
    by_cases hlt : j < k.l.length
    · obtain ⟨b, o, eA, hb, hld⟩ := (hKy z).items.load j hlt
      have hio := fun y : Wd z.w => ((hKy z).items.each _ (List.getElem_mem hlt)).q y.q
      rw [eA]
      have hTz : ∀ y : Wd z.w, Tab y.w := fun y => hTy ⟨y.w, Q.trans z.q y.q⟩
      have hzs := z.q.size
      have HTS := Lib.hid (takeB_step actor gen k.l j hlt)
      generalize k.l[j] = it at *
      go_wp2_with (first | (refine wpList_load_run 46 (.tmp 19) (.pointer (some ⟨b, o + j * 49, none⟩)) (.agg (itA it)) ?_ ?_ ?_ ?_ ?_; rfl; rfl; rfl; exact hld ⟨_, Q.refl _⟩) | (refine wpList_store_blk (Blk.new z.w 46 item0.cells.toArray) rfl 46 (.tmp 7) (.tmp 20) it.cells rfl rfl rfl (by kernel_rfl) (it_all _) (Nat.le_refl 49) ?_))
      intro W hW hbel
      rw [splice_all _ _ (by rfl)] at hW
      have hqz : Q z.w W := hbel _ _ (Nat.le_refl _) (q_new _ _ _)
      have hq3 : Q w1 W := Q.trans z.q hqz
      have hLi : ∀ y : Wd W, (Instr.loadAt 46 (.pointer (some ⟨z.w.heap.size, 0, none⟩))).run Tryz.prog y.w = .ok (.agg (itA it)) y.w := Wd.load hW.lt (Blk.range hW) Tryz.underlying46 rfl (by kernel_rfl)
      have hcl : ∀ y : Wd W, Calls Tryz.prog 70 #[.agg (itA it), .pointer (some ⟨p1, 0, none⟩), .pointer (some ⟨p2, 0, none⟩)] y.w fun e w' => e = .returned (.tuple #[.agg (ballotA it.ballot), .int .i64 0, .bool (wantB actor gen it)]) ∧ Q y.w w' := fun y => wantB_any p1 p2 actor gen it y.w (hW1 ⟨y.w, Q.trans hq3 y.q⟩) (hP1 ⟨y.w, Q.trans hq3 y.q⟩) (hW2 ⟨y.w, Q.trans hq3 y.q⟩) (hP2 ⟨y.w, Q.trans hq3 y.q⟩)
      have hWs := hq3.size
      obtain ⟨v, hv⟩ := Wd.first W
      rw [hv]
      clear hbel hld hv eA hb cI hW1 hW2 hP1 hP2
      generalize hwt : wantB actor gen it = wt at *
      go_wp2_with (first | (refine wpList_load_run 46 (.tmp 7) (.pointer (some ⟨z.w.heap.size, 0, none⟩)) (.agg (itA it)) ?_ ?_ ?_ ?_ ?_; rfl; rfl; rfl; exact hLi _) | (go_at_fn 70; refine (hcl _).mono ?_; rintro e w' ⟨rfl, hq2⟩; obtain ⟨y, rfl⟩ := Wd.next _ hq2; clear hq2) | (refine wpList_store_blk (Blk.new y.w 42 ballot0.cells.toArray) rfl 42 (.tmp 8) (.tmp 25) it.ballot.cells rfl rfl rfl (by kernel_rfl) (ballot_all _) (Nat.le_refl 7) ?_))
      intro W2 hB2 hbel2
      rw [splice_all _ _ (by rfl)] at hB2
      have hqy : Q W W2 := hbel2 _ _ y.q.size (Q.trans y.q (q_new _ _ _))
      have hq4 : Q w1 W2 := Q.trans hq3 hqy
      have hLi2 : ∀ y : Wd W2, (Instr.loadAt 46 (.pointer (some ⟨z.w.heap.size, 0, none⟩))).run Tryz.prog y.w = .ok (.agg (itA it)) y.w := fun y => hLi ⟨y.w, Q.trans hqy y.q⟩
      have hLb2 : ∀ u : Wd W2, (Instr.loadAt 42 (.pointer (some ⟨y.w.heap.size, 0, none⟩))).run Tryz.prog u.w = .ok (.agg (ballotA it.ballot)) u.w := Wd.load hB2.lt (Blk.range hB2) Tryz.underlying42 rfl (by kernel_rfl)
      have hIi : ∀ u : Wd W2, ItemIn u.w it := fun u => hio ⟨u.w, Q.trans (Q.trans hqz hqy) u.q⟩
      have hdg2 : ∀ u : Wd W2, Calls Tryz.prog 48 #[.agg (itA it)] u.w fun e w' => e = .returned (.string (digOf it)) ∧ Q u.w w' := fun u => digest_any it u.w (hTz ⟨u.w, Q.trans (Q.trans hqz hqy) u.q⟩) (hIi u)
      have hownW : ∀ u : Wd W2, Owns u.w w1.heap.size 173 9 (.slice A m c) m ((takeB actor gen (k.l.take j)).flatMap fbC) := fun u => hown.q (Q.trans (Q.trans hqz hqy) u.q)
      have hrg : ∀ (r : Bool), itemRight it = r → ∀ u : Wd W2, Calls Tryz.prog 37 #[.agg (itA it)] u.w fun e w' => e = .returned (.bool r) ∧ Q u.w w' := fun r hr u => right_at it r u.w (hIi u) hr
      have HQ4 := Lib.hid hq4
      have hWs2 := hq4.size
      obtain ⟨u, hu⟩ := Wd.first W2
      rw [hu]
      clear hbel2 hu hqy hq4 hq3 hqz hLi hcl hio hTz hown hTy hW hB2
      cases wt
      · have HTE := Lib.hid (show takeB actor gen (k.l.take (j + 1)) = takeB actor gen (k.l.take j) by rw [HTS.out]; simp)
        go_wp2_with fail
        exact ⟨⟨j + 1, c, m, A, ⟨u.w, Q.trans HQ4.out u.q⟩, rfl, by go_num, rfl, by omega, by omega, hmc, hcm, Lib.hid (by rw [HTE.out]; exact hm.out), by rw [HTE.out]; exact hownW u⟩, by simp only [intOf]; omega⟩
      · cases hr : itemRight it
        · have HTE := Lib.hid (show takeB actor gen (k.l.take (j + 1)) = takeB actor gen (k.l.take j) by rw [HTS.out, hr]; simp)
          have hrg0 := hrg false hr
          clear hrg hr
          go_wp2_with (first | (refine wpList_load_run 46 (.tmp 7) (.pointer (some ⟨z.w.heap.size, 0, none⟩)) (.agg (itA it)) ?_ ?_ ?_ ?_ ?_; rfl; rfl; rfl; exact hLi2 _) | (go_at_call 37; refine (hrg0 _).mono ?_; rintro e w' ⟨rfl, hq2⟩; obtain ⟨t, rfl⟩ := Wd.next _ hq2; clear hq2))
          exact ⟨⟨j + 1, c, m, A, ⟨t.w, Q.trans HQ4.out t.q⟩, rfl, by go_num, rfl, by omega, by omega, hmc, hcm, Lib.hid (by rw [HTE.out]; exact hm.out), by rw [HTE.out]; exact hownW t⟩, by simp only [intOf]; omega⟩
        · have HTE := Lib.hid (show takeB actor gen (k.l.take (j + 1)) = takeB actor gen (k.l.take j) ++ [foundB it] by rw [HTS.out, hr]; simp)
          have hrg0 := hrg true hr
          clear hrg hr
          go_wp2_with (first | (refine wpList_load_run 46 (.tmp 7) (.pointer (some ⟨z.w.heap.size, 0, none⟩)) (.agg (itA it)) ?_ ?_ ?_ ?_ ?_; rfl; rfl; rfl; exact hLi2 _) | (go_at_call 37; refine (hrg0 _).mono ?_; rintro e w' ⟨rfl, hq2⟩; obtain ⟨t, rfl⟩ := Wd.next _ hq2; clear hq2))
          refine wp_region_wd_parts t 2 6 (by kernel_rfl) (by kernel_rfl) (by intro c d v a w h; cases d <;> exact h) ?_
          simp only [List.take_succ_cons, List.take_zero, List.drop_succ_cons, List.drop_zero]
          refine wpPure_move (.tmp 5) (.slice A m c) rfl rfl rfl ?_
          dsimp only [Act.put]
          simp only [List.setIfInBounds_toArray, List.set_cons_succ, List.set_cons_zero]
          refine wpPure_move (.tmp 9) (.int .i64 0) rfl rfl rfl ?_
          dsimp only [Act.put]
          simp only [List.setIfInBounds_toArray, List.set_cons_succ, List.set_cons_zero]
          refine wpPure_nil ?_
          refine wpQuiet_load_run 46 (.tmp 7) (.pointer (some ⟨z.w.heap.size, 0, none⟩)) (.agg (itA it)) rfl rfl rfl hLi2 ?_
          dsimp only [Act.put]
          simp only [List.setIfInBounds_toArray, List.set_cons_succ, List.set_cons_zero]
          go_big_quiet_step (first | (go_at_call 48; exact Wd.call _ (hdg2 _)))
          refine wpQuiet_load_run 42 (.tmp 8) (.pointer (some ⟨y.w.heap.size, 0, none⟩)) (.agg (ballotA it.ballot)) rfl rfl rfl hLb2 ?_
          dsimp only [Act.put]
          simp only [List.setIfInBounds_toArray, List.set_cons_succ, List.set_cons_zero]
          refine wpQuiet_build_run 173 _ #[(0, .int .i64 0), (1, .string (digOf it)), (2, .agg (ballotA it.ballot))] _ rfl rfl (by simp only [List.map_toArray, List.map_cons, List.map_nil]; rfl) (build_found (digOf it) it.ballot) ?_
          dsimp only [Act.put]
          simp only [List.setIfInBounds_toArray, List.set_cons_succ, List.set_cons_zero]
          refine wpQuiet_nil ?_
          rintro w6 ⟨t2, rfl⟩
          refine wpList_buildSlice_run 170 1 _ #[(0, .agg (fbC (foundB it)).toArray)] _ rfl rfl (by simp only [List.map_toArray, List.map_cons, List.map_nil]; rfl) (bs_found (foundB it) _) ?_
          dsimp only [Act.put]
          simp only [List.setIfInBounds_toArray, List.set_cons_succ, List.set_cons_zero]
          refine wpList_append_rows fb_len fb_one rfl (.tmp 33) (.tmp 39) 170 173 i0 _ 96 rfl Tryz.underlying170 hi hz0 hz1 hz2 rfl (by decide) (by decide) w1.heap.size (.slice A m c) m (takeB actor gen (k.l.take j)) rfl ((hownW t2).alloc (.cells (fbC (foundB it)).toArray 173)) (some ⟨t2.w.heap.size, 0, none⟩) 1 1 [foundB it] rfl (RowsAt.one t2.w 173 (foundB it) _ rfl) rfl (by omega) (by have := t2.q.size; simp; omega) ?_
          intro A5 c5 w5 hc5 hm5 hown5 hg5
          have hq5 : Q w1 w5 := q_grown (Q.trans (Q.trans HQ4.out t2.q) (q_new _ _ _)) (Nat.le_refl _) ((hownW t2).alloc _) hg5
          obtain ⟨y5, rfl⟩ : ∃ y5 : Wd w1, w5 = y5.w := ⟨⟨w5, hq5⟩, rfl⟩
          rw [← HTE.out] at hown5
          have HM5 : Hid (m + 1 = (takeB actor gen (k.l.take (j + 1))).length) := Lib.hid (by rw [HTE.out, List.length_append, ← hm.out]; rfl)
          clear hownW hg5 hq5 hdg2 hLi2 hLb2 hIi hrg0
          go_wp2_with fail
          exact ⟨⟨j + 1, c5, m + 1, A5, y5, rfl, by go_num, rfl, by omega, by omega, hc5, hm5, HM5, hown5⟩, by simp only [intOf]; omega⟩
    · have hjn : j = k.l.length := by omega
      have hm := hm.out
      rw [hjn, List.take_length] at hown hm
      have hm20 : m ≤ 20 := by omega
      have hso := sorted_any A c m w1.heap.size (takeB actor gen k.l) z.w hm hm20 hown z.q.size
      have hlen : (sortB (takeB actor gen k.l)).length = m := by rw [sortB_length]; exact hm.symm
      have HB := Lib.hid (show ballotsK actor gen k.l = (sortB (takeB actor gen k.l)).map (·.val) from rfl)
      have HZ := Lib.hid z.q
      generalize sortB (takeB actor gen k.l) = L at hso hlen HB
      clear hown hm hjn cI hW1 hW2 hP1 hP2 hKy hTy
      go_wp2_with (first | (go_at_call 127; refine hso.mono ?_; rintro e w6 ⟨rfl, hR6, hb6⟩; have HQ6 := Lib.hid (Below.trans HZ.out hb6); clear hb6 hso; obtain ⟨y6, hy6⟩ := Wd.first w6; rw [hy6]; clear hy6) | (refine wpList_make_own _ rfl _ _ 53 rfl w6.heap.size 42 j0 _ 7 Tryz.underlying53 hji hy0 hy1 .i64 .i64 (m : Int) m rfl rfl rfl (by rw [hy2]; omega) (by simp only [maxLen]; omega) y6.q.size ?_))
      intro w7 hown0 hg0
      have hown : Owns w7 w6.heap.size 42 7 (.slice (some ⟨y6.w.heap.size, 0, none⟩) 0 m) 0 (([] : List BallotV).flatMap BallotV.cells) := Owns.of hown0
      have hq7 : Q w6 w7 := Below.grown y6.q hg0 y6.q.size (fun _ h => by cases h)
      obtain ⟨y7, rfl⟩ : ∃ y7 : Wd w6, w7 = y7.w := ⟨⟨w7, hq7⟩, rfl⟩
      have hRy : ∀ y : Wd w6, RowsAt y.w A 9 fbC L := fun y => hR6.q y.q
      clear hown0 hg0 hq7 hR6
      go_wp2_with fail
      go_loopw [11, 49] (fun a i wr => ∃ (j c : Nat) (A : Option Addr) (z : Wd w6), a = .slice A j c ∧ i = .int .i64 j ∧ wr = z.w ∧ j ≤ m ∧ j ≤ c ∧ c ≤ maxLen ∧ Owns z.w w6.heap.size 42 7 (.slice A j c) j (((L.take j).map (·.val)).flatMap BallotV.cells)) (fun _ i _ => m - (intOf i).toNat)
      case atStart => exact ⟨0, m, _, y7, rfl, rfl, rfl, Nat.zero_le _, Nat.zero_le _, by simp only [maxLen]; omega, hown⟩
      case round =>
        clear hown
        obtain ⟨j2, c2, A2, z2, rfl, rfl, rfl, hj2, hjc2, hcm2, hown⟩ := hrel
        by_cases hlt2 : j2 < m
        · obtain ⟨b, o, eA, hb, hcs⟩ := hRy z2 (by omega)
          have hld : ∀ y : Wd z2.w, (Instr.loadAt 173 (.pointer (some ⟨b, o + j2 * 9, none⟩))).run Tryz.prog y.w = .ok (.agg (fbC (L[j2]'(by omega))).toArray) y.w := Wd.load hb (hcs j2 (by omega)) Tryz.underlying173 rfl (by kernel_rfl)
          have HLS := Lib.hid (show (L.take (j2 + 1)).map (·.val) = (L.take j2).map (·.val) ++ [(L[j2]'(by omega)).val] by rw [List.take_succ_eq_append_getElem (by omega), List.map_append]; rfl)
          rw [eA]
          have hzs2 := z2.q.size
          clear hcs
          generalize L[j2]'(by omega) = e2 at *
          have hbf := Blk.new z2.w 173 (fbC default).toArray
          go_wp2_with (first | (refine wpList_load_run 173 (.tmp 51) (.pointer (some ⟨b, o + j2 * 9, none⟩)) (.agg (fbC e2).toArray) ?_ ?_ ?_ ?_ ?_; rfl; rfl; rfl; exact hld ⟨_, Q.trans (Q.refl _) (Q.refl _)⟩) | (refine wpList_store_blk hbf rfl 173 (.tmp 13) (.tmp 52) (fbC e2) rfl rfl rfl (by kernel_rfl) (fb_all _) (Nat.le_refl 9) ?_))
          intro W hW hbel
          rw [splice_all _ _ (by rfl)] at hW
          have hqz : Q z2.w W := hbel _ _ (Nat.le_refl _) (q_new _ _ _)
          have hq3 : Q w6 W := Q.trans z2.q hqz
          have hrv : W.rangeAt z2.w.heap.size 2 e2.val.cells := by
            have := range_sub (Blk.range hW) 2 7
            rw [Nat.zero_add] at this
            exact this
          have hLv : ∀ y : Wd W, (Instr.loadAt 42 (.pointer (some ⟨z2.w.heap.size, 2, none⟩))).run Tryz.prog y.w = .ok (.agg (ballotA e2.val)) y.w := Wd.load hW.lt hrv Tryz.underlying42 rfl (by kernel_rfl)
          have hownW : ∀ y : Wd W, Owns y.w w6.heap.size 42 7 (.slice A2 j2 c2) j2 (((L.take j2).map (·.val)).flatMap BallotV.cells) := fun y => hown.q (Q.trans hqz y.q)
          have HQ3 := Lib.hid hq3
          have hWs := hq3.size
          obtain ⟨v, hv⟩ := Wd.first W
          rw [hv]
          clear hW hbel hld hv hqz hq3 hown hrv hbf
          go_wp2_with (first | (refine wpList_load_run 42 (.tmp 54) (.pointer (some ⟨z2.w.heap.size, 2, none⟩)) (.agg (ballotA e2.val)) ?_ ?_ ?_ ?_ ?_; rfl; rfl; rfl; exact hLv _) | (refine wpList_buildSlice_run 53 1 _ #[(0, .agg (ballotA e2.val))] _ rfl rfl (by simp only [List.map_toArray, List.map_cons, List.map_nil]; rfl) (bs_ballot e2.val _) ?_) | (at_builtin; refine wpList_append_rows bal_len bal_one rfl (.tmp 53) (.tmp 56) 53 42 j0 _ 72 rfl Tryz.underlying53 hji hy0 hy1 hy2 rfl (by decide) (by decide) w6.heap.size (.slice A2 j2 c2) j2 ((L.take j2).map (·.val)) rfl ((hownW v).alloc (.cells (ballotA e2.val) 42)) (some ⟨v.w.heap.size, 0, none⟩) 1 1 [e2.val] rfl (RowsAt.one v.w 42 e2.val _ rfl) rfl (by omega) (by have := v.q.size; simp; omega) ?_))
          intro A5 c5 w5 hc5 hm5 hown5 hg5
          have hq5 : Q w6 w5 := q_grown (Q.trans (Q.trans HQ3.out v.q) (q_new _ _ _)) (Nat.le_refl _) ((hownW v).alloc _) hg5
          obtain ⟨y5, rfl⟩ : ∃ y5 : Wd w6, w5 = y5.w := ⟨⟨w5, hq5⟩, rfl⟩
          have e5 : List.flatMap BallotV.cells (List.take j2 (List.map (fun x => x.val) L)) ++ e2.val.cells = ((L.take (j2 + 1)).map (·.val)).flatMap BallotV.cells := by
            rw [HLS.out, List.flatMap_append, List.map_take]
            simp
          rw [e5] at hown5
          clear hownW hg5 hq5 hLv e5
          go_wp2_with fail
          exact ⟨⟨j2 + 1, c5, A5, y5, rfl, by go_num, rfl, by omega, hc5, hm5, hown5⟩, by simp only [intOf]; omega⟩
        · have hjn : j2 = m := by omega
          have hall : L.take j2 = L := List.take_of_length_le (by omega)
          rw [hall, ← HB.out] at hown
          have hl : (ballotsK actor gen k.l).length = j2 := by rw [HB.out, List.length_map, hlen, hjn]
          have hfin : BallotsAre (ballotsK actor gen k.l) w (.returned (.slice A2 j2 c2)) z2.w := ⟨A2, c2, by rw [hl], by omega, hcm2, Owns.rows bal_len hown hl.symm, Q.trans HQ.out (Below.trans HQ6.out (Below.mono z2.q (by have := HQ6.out.size; omega)))⟩
          have HF := Lib.hid hfin
          clear hfin hl hall hown
          go_wp2_with fail
          go_ret
          exact HF.out
end Go.Proofs.YtomkeaeegdjhnaaGreatDoor.Known

namespace Go.Proofs.YtomkeaeegdjhnaaGreatDoor.Known
open Go.RowKit Grp Mem _root_.Go.Proofs.YtomkeaeegdjhnaaGreatDoor.Code Sha Sign _root_.Go.Proofs.YtomkeaeegdjhnaaGreatDoor.Item

set_option maxRecDepth 100000 in
set_option maxHeartbeats 2000000 in
theorem ballots_any (k : KR) (actor : ByteArray) (gen : Int) (w : World) (hT : Tab w) (hK : KIn w k) (hn : k.l.length ≤ 20) :
    Calls Tryz.prog 20 #[.agg (knA k), .string actor, .int .i64 gen] w (BallotsAre (ballotsK actor gen k.l) w) := by
  have b1 := Blk.new w 25 (knA k)
  have q1 := q_new w (knA k) 25
  have b2 := Blk.new' (g := w.heap.size + 1) (w.alloc (.cells (knA k) 25)) 9 #[.string actor] (by simp)
  have q2 := q_new (w.alloc (.cells (knA k) 25)) #[.string actor] 9
  have b3 := Blk.new' (g := w.heap.size + 1 + 1) ((w.alloc (.cells (knA k) 25)).alloc (.cells #[.string actor] 9)) 3 #[.int .i64 gen] (by simp)
  have q3 := q_new ((w.alloc (.cells (knA k) 25)).alloc (.cells #[.string actor] 9)) #[.int .i64 gen] 3
  have b1 := (b1.q q2).q q3
  have b2 := b2.q q3
  have hq := Q.trans (Q.trans q1 q2) q3
  obtain ⟨w3, hw3⟩ : ∃ w3, w3 = ((w.alloc (.cells (knA k) 25)).alloc (.cells #[.string actor] 9)).alloc (.cells #[.int .i64 gen] 3) := ⟨_, rfl⟩
  rw [← hw3] at b1 b2 b3 hq
  have hLk := Wd.load (P := Tryz.prog) (ty := 25) b1.lt (Blk.range b1) Tryz.underlying25 rfl (by kernel_rfl) ⟨w3, Q.refl w3⟩
  have hp := pickB_any k (w.heap.size + 1) (w.heap.size + 1 + 1) actor gen w3 (hT.q hq) (hK.q hq) (b2.cell 0) b2.lt (b3.cell 0) b3.lt hn
  have HX := Lib.hid hw3
  have HQ := Lib.hid hq
  clear q1 q2 q3 b1 b2 b3 hq hw3
  go_enter Tryz.func20, Tryz.ntmps20
  go_upto_region 1 with (fail)
  refine (show Code.wp _ _ _ _ w3 → Code.wp _ _ _ _ _ from fun h => by rw [HX.out] at h; exact h) ?_
  go_wp2_with (first | (refine wpList_load_run 25 (.tmp 3) (.pointer (some ⟨w.heap.size, 0, none⟩)) (.agg (knA k)) ?_ ?_ ?_ ?_ ?_; rfl; rfl; rfl; exact hLk) | (go_at_call 69; refine hp.mono ?_; rintro e w' ⟨A, c, rfl, h1, h2, h3, hq4⟩))
  go_ret
  exact ⟨A, c, rfl, h1, h2, h3, Q.trans HQ.out hq4⟩
end Go.Proofs.YtomkeaeegdjhnaaGreatDoor.Known

namespace Go.Proofs.YtomkeaeegdjhnaaGreatDoor.Sign
open Go.RowKit Grp Mem _root_.Go.Proofs.YtomkeaeegdjhnaaGreatDoor.Code Sha

theorem keyOf_right (x : Int) (h0 : 1 ≤ x) (h1 : x ≤ 2305843009213693949) : keyOf x = (x, gexp 37 x) := by
  unfold keyOf
  rw [if_neg (by omega)]
theorem rightI_of (x : Int) (h0 : 1 ≤ x) (h1 : x ≤ 2305843009213693949) : rightI (x, gexp 37 x) = true := by
  unfold rightI
  dsimp only
  rw [keyOf_right x h0 h1]
  simp [h0]
/-- The commitment of a signature that was made with u. -/
theorem comm_of (x u e : Int) (hx0 : 1 ≤ x) (hx1 : x ≤ 2305843009213693949) (hu0 : 0 ≤ u) (hu1 : u ≤ 9223372036854775807) (he0 : 0 ≤ e) (he1 : e < 2305843009213693950) :
    commI (gexp 37 x) (e, gaddN u (gmulN e x)) = gexp 37 u := by
  have hn : (37 : Int) % 2305843009213693951 ≠ 0 := by decide
  unfold commI gmul
  dsimp only
  have hs : 0 ≤ gaddN u (gmulN e x) ∧ gaddN u (gmulN e x) < 2305843009213693950 := emod_bd _ (by decide)
  rw [gexp_gexp 37 x (2305843009213693950 - e) (by omega) (by omega) hn]
  have hb := emod_bd (x * (2305843009213693950 - e)) (show (0:Int) < 2305843009213693950 by decide)
  rw [gexp_add 37 _ _ (by omega) (by omega) hn]
  refine gexp_mod 37 _ _ ?_ (by omega) hn ?_
  · have := emod_bd (gaddN u (gmulN e x) + x * (2305843009213693950 - e) % 2305843009213693950) (show (0:Int) < 2305843009213693950 by decide)
    omega
  · unfold gaddN gmulN
    rw [Int.mul_sub, Int.mul_comm x 2305843009213693950, Int.mul_comm x e]
    generalize e * x = t
    omega
theorem chalI_bd (r y : Int) (m : ByteArray) : 0 ≤ chalI r y m ∧ chalI r y m < 2305843009213693950 := emod_bd _ (by decide)
theorem gpub (x : Int) (h : x ≤ 9223372036854775807) : 1 ≤ gexp 37 x ∧ gexp 37 x < 2305843009213693951 := by
  have h1 := gexp_bd 37 x
  have h2 := gexp_ne 37 x h (by decide)
  omega
theorem sig_of (x : Int) (m : ByteArray) (h0 : 1 ≤ x) (h1 : x ≤ 2305843009213693949) : sigOf (x, gexp 37 x) m = (sigE x (gexp 37 x) m, sigS x (gexp 37 x) m) := by
  unfold sigOf
  rw [rightI_of x h0 h1, if_pos rfl]
theorem in_of {n : Int} (h : 0 ≤ n ∧ n < 2305843009213693950) : inI n = true := by
  unfold inI
  simp [h.1, h.2]
theorem range_of {p : Int} {s : Int × Int} (hp : 1 ≤ p ∧ p < 2305843009213693951) (h1 : 0 ≤ s.1 ∧ s.1 < 2305843009213693950) (h2 : 0 ≤ s.2 ∧ s.2 < 2305843009213693950) : rangeI p s = true := by
  unfold rangeI
  rw [in_of h1, in_of h2]
  simp [hp.1, hp.2]
/-- What a right key signs is accepted. -/
theorem ver_of (x : Int) (m : ByteArray) (h0 : 1 ≤ x) (h1 : x ≤ 2305843009213693949) : verI (gexp 37 x) m (sigE x (gexp 37 x) m, sigS x (gexp 37 x) m) = true := by
  have hn : 1 ≤ nonceI x m ∧ nonceI x m ≤ 2305843009213693949 := redI_bd _
  have he : 0 ≤ sigE x (gexp 37 x) m ∧ sigE x (gexp 37 x) m < 2305843009213693950 := chalI_bd _ _ _
  have hs : 0 ≤ sigS x (gexp 37 x) m ∧ sigS x (gexp 37 x) m < 2305843009213693950 := emod_bd _ (by decide)
  unfold verI
  rw [range_of (gpub x (by omega)) he hs]
  have hc : commI (gexp 37 x) (sigE x (gexp 37 x) m, sigS x (gexp 37 x) m) = gexp 37 (nonceI x m) := comm_of x _ _ h0 h1 (by omega) (by omega) he.1 he.2
  rw [hc]
  unfold sigE
  simp
abbrev aT : ByteArray := ⟨#[97]⟩
set_option maxRecDepth 100000
theorem f1 : seedKey aT = 361080046605472372 := by decide +kernel
theorem f2 : keyOf 361080046605472372 = (361080046605472372, 2287805972299522828) := by decide +kernel
theorem fg : keyOf (seedKey aT) = (361080046605472372, 2287805972299522828) := by rw [f1, f2]
end Go.Proofs.YtomkeaeegdjhnaaGreatDoor.Sign

namespace Go.Proofs.YtomkeaeegdjhnaaGreatDoor.Known
open Go.RowKit Grp Mem _root_.Go.Proofs.YtomkeaeegdjhnaaGreatDoor.Code Sha Sign _root_.Go.Proofs.YtomkeaeegdjhnaaGreatDoor.Item

def smT : ByteArray := ⟨#[48, 48, 48, 48, 48, 48, 48, 48, 48, 48, 48, 48, 48, 48, 48, 49]⟩
abbrev smX : Int := 361080046605472372
abbrev smY : Int := 2287805972299522828
def smB : BallotV := ⟨0, smT, 0, sha emptyT, 0, 0, 0⟩
def smS : BallotV := signBallot (smX, smY) smB
def smI : ItemR := itBallot smS

theorem smY_eq : smY = gexp 37 smX := by
  have h := keyOf_right smX (by decide) (by decide)
  rw [f2] at h
  exact congrArg Prod.snd h
theorem sm_sig (m : ByteArray) : sigOf (smX, smY) m = (sigE smX smY m, sigS smX smY m) := by
  rw [smY_eq]
  exact sig_of smX m (by decide) (by decide)
theorem sm_ver (m : ByteArray) : verI smY m (sigOf (smX, smY) m) = true := by
  rw [sm_sig, smY_eq]
  exact ver_of smX m (by decide) (by decide)
theorem sm_small : SmallB smB := ⟨by decide, by show (sha emptyT).size ≤ 1000000; rw [sha_size]; decide, by intro n hn; simp [smB] at hn; omega⟩
theorem ord_of {n : Int} (h : 0 ≤ n ∧ n < 2305843009213693950) : inOrd n = true := by
  unfold inOrd withinB
  rw [decide_eq_true h.1, decide_eq_true (show n ≤ 2305843009213693949 by omega)]
  rfl
theorem smI_right : itemRight smI = true := by
  have he : inOrd smS.e = true := by
    show inOrd (sigOf (smX, smY) (messageB (itBallot smB))).1 = true
    rw [sm_sig]
    exact ord_of (chalI_bd _ _ _)
  have hs : inOrd smS.s = true := by
    show inOrd (sigOf (smX, smY) (messageB (itBallot smB))).2 = true
    rw [sm_sig]
    exact ord_of (emod_bd _ (by decide))
  have hd : digestB smS.claim = true := by
    show digestB (sha emptyT) = true
    unfold digestB
    rw [sha_size]
    rfl
  have hb : ballotRight smS = true := by
    unfold ballotRight
    rw [he, hs, hd]
    rfl
  show (ballotRight smS && (act0.same act0 && (claim0.same claim0 && dec0.same dec0))) = true
  rw [hb]
  decide
theorem sign_msg (k : Int × Int) (b : BallotV) : messageB (itBallot (signBallot k b)) = messageB (itBallot b) := rfl
theorem sign_sig (k : Int × Int) (b : BallotV) : sigV (itBallot (signBallot k b)) = sigOf k (messageB (itBallot b)) := rfl
theorem smI_signed : signedB [smY] smI = true := by
  unfold signedB
  rw [smI_right, Bool.true_and]
  show (if (2 : Int) = 2 then decide ((0 : Int) < ([smY].length : Int)) && verI ([smY].getD (0 : Int).toNat 0) (messageB smI) (sigV smI) else _) = true
  rw [if_pos rfl]
  show (true && verI smY (messageB smI) (sigV smI)) = true
  rw [Bool.true_and]
  have h1 : messageB smI = messageB (itBallot smB) := sign_msg _ _
  have h2 : sigV smI = sigOf (smX, smY) (messageB (itBallot smB)) := sign_sig _ _
  rw [h1, h2]
  exact sm_ver _
theorem sm_add : addOk [smY] [] smI = true := by
  unfold addOk
  rw [smI_signed]
  rfl
theorem sm_set : addK [smY] [] smI = [smI] := by
  unfold addK
  rw [sm_add]
  rfl
theorem hasD_self (x : ItemR) : hasD [x] (digOf x) = true := (hasD_iff _ _).2 (by unfold digs; rw [List.map_cons]; exact List.mem_cons_self ..)
theorem sm_hasD : hasD [smI] (digOf smI) = true := hasD_self smI
theorem sm_again : addOk [smY] [smI] smI = false := by
  unfold addOk
  rw [sm_hasD]
  simp
theorem sm_want : wantB smT 0 smI = true := rfl
theorem sort_one (x : Found BallotV) : sortB [x] = [x] := by
  unfold sortB sortA
  rcases insOuter_stop2 (ltOf cmpF) [x].toArray [x].toArray.size (by simp) with h | h
  · rw [h]
  · simp at h
theorem sm_ballots : ballotsK smT 0 [smI] = [smS] := by
  unfold ballotsK takeB
  rw [show List.filter (fun x => wantB smT 0 x && itemRight x) [smI] = [smI] by rw [List.filter_cons, sm_want, smI_right]; rfl]
  rw [List.map_cons, List.map_nil, sort_one]
  rfl
theorem sm_filled : Filled [smY] [smI] := by
  have := (Filled.nil [smY]).add smI
  rwa [sm_set] at this
theorem sm_right : rightK [smY] [smI] = true := sm_filled.right (by decide) (by decide)
theorem sm_size : (digOf smI).size = 32 := digOf_size smI_signed
theorem sm_has : hasE [smI] (digOf smI) = true := by
  unfold hasE
  rw [sm_hasD]
  simp [noneB, sm_size]
theorem sm_hasnt (l : List ItemR) : hasE l emptyT = false := rfl
theorem found_self (x : ItemR) (h : noneB (digOf x) = false) : foundIt [x] (digOf x) = x := by
  unfold foundIt findK
  rw [h]
  simp
theorem sm_find : foundIt [smI] (digOf smI) = smI := by
  exact found_self smI (by simp [noneB, sm_size])
theorem sm_dig : setDig [] [] = sha ⟨#[0, 0]⟩ := by
  unfold setDig
  congr 1
end Go.Proofs.YtomkeaeegdjhnaaGreatDoor.Known

namespace Go.Proofs.YtomkeaeegdjhnaaGreatDoor.Known
open Go.RowKit Grp Mem _root_.Go.Proofs.YtomkeaeegdjhnaaGreatDoor.Code Sha Sign _root_.Go.Proofs.YtomkeaeegdjhnaaGreatDoor.Item

set_option maxRecDepth 100000 in
set_option maxHeartbeats 1000000 in
theorem new_nil (w : World) : Calls Tryz.prog 46 #[.slice none 0 0] w fun e w' => e = .returned (.agg (knA known0)) ∧ Q w w' := by
  have hq0 := q_new w known0.cells.toArray 25
  have hb := Blk.new w 25 known0.cells.toArray
  obtain ⟨w1, hw1⟩ : ∃ w1, w1 = w.alloc (.cells known0.cells.toArray 25) := ⟨_, rfl⟩
  rw [← hw1] at hq0 hb
  go_enter Tryz.func46, Tryz.ntmps46
  go_wp2_with fail
  refine (show Calls _ _ _ w1 _ → Calls _ _ _ _ _ from fun h => by rw [hw1] at h; exact h) ?_
  refine (Tryz.slices_Clone_int_nil 0 0 w1).mono ?_
  rintro e w' ⟨rfl, hw'⟩
  rw [hw']
  clear hw1 hw'
  go_wp2_with (refine wpList_store_far hb rfl 25 (.tmp 2) (.tmp 5) known0.cells rfl rfl rfl (by kernel_rfl) (kn_all _) (Nat.le_refl 2) ?_)
  intro W hW hbel hfar
  rw [splice_all _ _ (by rfl)] at hW
  have hqW : Q w W := hbel _ _ (Nat.le_refl _) hq0
  clear hfar hbel
  go_wp2_with fail
  exact bodyPost_ret (results_cell_row rfl _ _ w.heap.size 25 (knA known0) (0, 0) _ rfl hW Tryz.underlying25 rfl (by kernel_rfl)) rfl ⟨rfl, hqW⟩

structure SmallCtx (it : ItemR) (bb bs : BallotV) (dg : ByteArray) : Prop where
  key : ∀ w, Tab w → Calls Tryz.prog 42 #[.string ⟨#[97]⟩] w fun e w' => e = .returned (.agg #[.int .i64 smX, .int .i64 smY]) ∧ Q w w'
  bal : ∀ w, (Instr.build 42 #[(1, .string smT), (3, .string (sha emptyT))]).run Tryz.prog w = .ok (.agg (ballotA bb)) w
  sign : ∀ w, Tab w → Calls Tryz.prog 44 #[.agg #[.int .i64 smX, .int .i64 smY], .agg (ballotA bb)] w fun e w' => e = .returned (.agg (ballotA bs)) ∧ Q w w'
  of : ∀ w, Calls Tryz.prog 43 #[.agg (ballotA bs)] w fun e w' => e = .returned (.agg (itA it)) ∧ Q w w'
  add : ∀ k1 w, Tab w → KIn w k1 → k1.sv = [smY] → k1.l = [] → Calls Tryz.prog 45 #[.agg (knA k1), .agg (itA it)] w fun e w' => ∃ k2 : KR, e = .returned (.tuple #[.agg (knA k2), .bool true]) ∧ k2.sv = [smY] ∧ k2.l = [it] ∧ KIn w' k2 ∧ Q w w'
  again : ∀ k2 w, Tab w → KIn w k2 → k2.sv = [smY] → k2.l = [it] → Calls Tryz.prog 45 #[.agg (knA k2), .agg (itA it)] w fun e w' => ∃ k3 : KR, e = .returned (.tuple #[.agg (knA k3), .bool false]) ∧ Q w w'
  ballots : ∀ k2 w, Tab w → KIn w k2 → k2.l = [it] → Calls Tryz.prog 20 #[.agg (knA k2), .string smT, .int .i64 0] w fun e w' => ∃ A c, e = .returned (.slice A 1 c) ∧ Q w w'
  dig : ∀ w, Tab w → Calls Tryz.prog 48 #[.agg (itA it)] w fun e w' => e = .returned (.string dg) ∧ Q w w'
  find : ∀ k2 w, Tab w → KIn w k2 → k2.l = [it] → Calls Tryz.prog 47 #[.agg (knA k2), .string dg] w fun e w' => e = .returned (.tuple #[.agg (itA it), .bool true]) ∧ Q w w'
  right : ∀ k2 w, Tab w → KIn w k2 → k2.sv = [smY] → k2.l = [it] → Calls Tryz.prog 10 #[.agg (knA k2)] w fun e w' => e = .returned (.bool true) ∧ Q w w'
  has : ∀ k2 w, Tab w → KIn w k2 → k2.l = [it] → Calls Tryz.prog 49 #[.agg (knA k2), .string dg] w fun e w' => e = .returned (.bool true) ∧ Q w w'
  hasnt : ∀ k2 w, Tab w → KIn w k2 → Calls Tryz.prog 49 #[.agg (knA k2), .string ⟨#[]⟩] w fun e w' => e = .returned (.bool false) ∧ Q w w'
  nil : ∀ w, Tab w → Calls Tryz.prog 11 #[.agg (knA known0)] w fun e w' => e = .returned (.string (sha ⟨#[0, 0]⟩)) ∧ Q w w'
  kind : it.kind = 2

theorem sm_ctx : SmallCtx smI smB smS (digOf smI) := {
  key := fun w hT => (Key_any aT w hT (by decide)).mono fun e w' ⟨h1, h2⟩ => ⟨by rw [h1, fg]; rfl, h2⟩
  bal := fun w => by kernel_rfl
  sign := fun w hT => signBallot_any (smX, smY) smB w hT (by decide) (by decide) sm_small
  of := fun w => ofBallot_any smS w
  add := fun k1 w hT hK h1 h2 => (add_any k1 smI w hT hK (itBallot_in smS w) (by rw [h2]; exact Nat.zero_le _)).mono fun e w' ⟨k2, e1, e2, e3, e4, e5⟩ => ⟨k2, by rw [e1, h1, h2, sm_add], by rw [e2, h1], by rw [e3, h1, h2, sm_set], e4, e5⟩
  again := fun k2 w hT hK h1 h2 => (add_any k2 smI w hT hK (itBallot_in smS w) (by rw [h2]; decide)).mono fun e w' ⟨k3, e1, _, _, _, e5⟩ => ⟨k3, by rw [e1, h1, h2, sm_again], e5⟩
  ballots := fun k2 w hT hK h2 => (ballots_any k2 smT 0 w hT hK (by rw [h2]; decide)).mono fun e w' ⟨A, c, e1, _, _, _, e5⟩ => ⟨A, c, by rw [e1, h2, sm_ballots]; rfl, e5⟩
  dig := fun w hT => digest_any smI w hT (itBallot_in smS w)
  find := fun k2 w hT hK h2 => (find_any k2 (digOf smI) w hT hK).mono fun e w' ⟨e1, e2⟩ => ⟨by rw [e1, h2, sm_find, sm_has], e2⟩
  right := fun k2 w hT hK h1 h2 => (kright_any k2 w hT hK).mono fun e w' ⟨e1, e2⟩ => ⟨by rw [e1, h1, h2, sm_right], e2⟩
  has := fun k2 w hT hK h2 => (has_any k2 (digOf smI) w hT hK).mono fun e w' ⟨e1, e2⟩ => ⟨by rw [e1, h2, sm_has], e2⟩
  hasnt := fun k2 w hT hK => (has_any k2 emptyT w hT hK).mono fun e w' ⟨e1, e2⟩ => ⟨by rw [e1, sm_hasnt], e2⟩
  nil := fun w hT => (kdigest_any known0 w hT ⟨fun h => by simp [known0] at h, ⟨RowsAt.nil _ _ _ _, by simp [known0]⟩, ⟨Nat.le_refl _, Nat.zero_le _⟩, ⟨Nat.le_refl _, Nat.zero_le _⟩⟩ (Nat.zero_le _) (Nat.zero_le _)).mono fun e w' ⟨e1, e2⟩ => ⟨by rw [e1]; exact congrArg (fun s => Ending.returned (.string s)) sm_dig, e2⟩
  kind := rfl }
end Go.Proofs.YtomkeaeegdjhnaaGreatDoor.Known

namespace Go.Proofs.YtomkeaeegdjhnaaGreatDoor.Known
open Go.RowKit Grp Mem _root_.Go.Proofs.YtomkeaeegdjhnaaGreatDoor.Code Sha Sign _root_.Go.Proofs.YtomkeaeegdjhnaaGreatDoor.Item

theorem alloc_item (w : World) : (Instr.alloc 46 true (.tuple #[])).run Tryz.prog w = .ok (.pointer (some ⟨w.heap.size, 0, none⟩)) (w.alloc (.cells (itA item0) 46)) := by kernel_rfl
theorem alloc_known (w : World) : (Instr.alloc 25 true (.tuple #[])).run Tryz.prog w = .ok (.pointer (some ⟨w.heap.size, 0, none⟩)) (w.alloc (.cells (knA known0) 25)) := by kernel_rfl
theorem ints_one (w : World) (n : Int) : Ints (w.alloc (.cells #[.int .i64 n] 3)) (some ⟨w.heap.size, 0, none⟩) [n] := ints_of (RowsAt.one (k := 1) (f := fun n : Int => [Value.int .i64 n]) w 3 n _ rfl)

set_option maxRecDepth 100000 in
set_option maxHeartbeats 4000000 in
theorem small_walk (it : ItemR) (bb bs : BallotV) (dg : ByteArray) (hC : SmallCtx it bb bs dg) (w : World) (hT : Tab w) : Calls Tryz.prog 8 #[] w fun e w' => e = .returned (.bool true) ∧ Q w w' := by
  go_enter Tryz.func8, Tryz.ntmps8
  go_upto_region 2 with (go_at_call 42; refine (hC.key w hT).mono ?_; rintro e w' ⟨rfl, hq0⟩; obtain ⟨y0, rfl⟩ := Wd.next (⟨w, Q.refl w⟩ : Wd w) hq0; clear hq0)
  have hb1 := Blk.new y0.w 75 #[.int .i64 smX, .int .i64 smY]
  have hq1 : Q w _ := Q.trans y0.q (q_new y0.w #[.int .i64 smX, .int .i64 smY] 75)
  obtain ⟨W1, hW1⟩ : ∃ W1, y0.w.alloc (.cells #[.int .i64 smX, .int .i64 smY] 75) = W1 := ⟨_, rfl⟩
  rw [hW1] at hb1 hq1
  rw [hW1]
  obtain ⟨g1, hg1⟩ : ∃ g1, y0.w.heap.size = g1 := ⟨_, rfl⟩
  rw [hg1] at hb1
  rw [hg1]
  clear hg1 hW1 y0
  rename_i K2 hK2
  have hT1 : ∀ y : Wd W1, Tab y.w := fun y => hT.q (Q.trans hq1 y.q)
  have hLk : ∀ z, (∃ y : Wd W1, z = y.w) → (Instr.loadAt 75 (.pointer (some ⟨g1, 0, none⟩))).run Tryz.prog z = .ok (.agg #[.int .i64 smX, .int .i64 smY]) z := by
    rintro z ⟨y, rfl⟩
    exact Wd.load (cs := [.int .i64 smX, .int .i64 smY]) hb1.lt (Blk.range hb1) Tryz.underlying75 rfl (by kernel_rfl) y
  have REST2 : ∀ (g2 : Nat) (w2 : World), Q W1 w2 → W1.heap.size ≤ g2 → Blk w2 g2 46 it.cells.toArray → K2 { tmps := #[.bool false, .pointer (some ⟨g1, 0, none⟩), .pointer (some ⟨g2, 0, none⟩), undef, undef, undef, undef, undef, undef, undef, .agg #[.int .i64 smX, .int .i64 smY], .agg #[.int .i64 smX, .int .i64 smY], .string (sha emptyT), .agg (ballotA bb), .agg (ballotA bs), .agg (itA it), undef, undef, undef, undef, undef, undef, undef, undef, undef, undef, undef, undef, undef, undef, undef, undef, undef, undef, undef, undef, undef, undef, undef, undef, undef, undef, undef, undef, undef, undef, undef, undef, undef, undef, undef, undef, undef, undef, undef, undef, undef, undef, undef, undef, undef, undef, undef, undef, undef, undef, undef, undef, undef, undef, undef, undef, undef, undef, undef, undef, undef, undef, undef, undef, undef, undef, undef, undef, undef], defers := [] } w2 := by
    intro g2 w2 hq2 hgle2 hb2
    refine hK2 _ _ ?_
    clear hK2 hLk
    go_upto_region 3 with (fail)
    rename_i K3 hK3
    have hT2 : ∀ y : Wd w2, Tab y.w := fun y => hT1 ⟨y.w, Q.trans hq2 y.q⟩
    have hb12 := hb1.q hq2
    have cP : ∀ y : Wd w2, y.w.cell? ⟨g1, 1, none⟩ = some (.int .i64 smY) := fun y => (y.blk hb12).cell 1
    have hLi : ∀ z, (∃ y : Wd w2, z = y.w) → (Instr.loadAt 46 (.pointer (some ⟨g2, 0, none⟩))).run Tryz.prog z = .ok (.agg (itA it)) z := by
      rintro z ⟨y, rfl⟩
      exact Wd.load hb2.lt (Blk.range hb2) Tryz.underlying46 rfl (by kernel_rfl) y
    have REST3 : ∀ (g3 : Nat) (k2 : KR) (v19 v20 : Value) (w3 : World), Q w2 w3 → Blk w3 g3 25 k2.cells.toArray → KIn w3 k2 → k2.sv = [smY] → k2.l = [it] → K3 { tmps := #[.bool false, .pointer (some ⟨g1, 0, none⟩), .pointer (some ⟨g2, 0, none⟩), .pointer (some ⟨g3, 0, none⟩), .bool true, undef, undef, undef, undef, undef, .agg #[.int .i64 smX, .int .i64 smY], .agg #[.int .i64 smX, .int .i64 smY], .string (sha emptyT), .agg (ballotA bb), .agg (ballotA bs), .agg (itA it), .tuple #[.agg (knA k2), .bool true], .pointer (some ⟨g1, 1, none⟩), .int .i64 smY, v19, v20, .agg (itA it), .tuple #[.agg (knA k2), .bool true], .agg (knA k2), .bool true, undef, undef, undef, undef, undef, undef, undef, undef, undef, undef, undef, undef, undef, undef, undef, undef, undef, undef, undef, undef, undef, undef, undef, undef, undef, undef, undef, undef, undef, undef, undef, undef, undef, undef, undef, undef, undef, undef, undef, undef, undef, undef, undef, undef, undef, undef, undef, undef, undef, undef, undef, undef, undef, undef, undef, undef, undef, undef, undef, undef], defers := [] } w3 := by
      intro g3 k2 v19 v20 w3 hq3 hb3 hk3 hs3 hl3
      refine hK3 _ _ ?_
      clear hK3 cP hLi
      have hT3 : ∀ y : Wd w3, Tab y.w := fun y => hT2 ⟨y.w, Q.trans hq3 y.q⟩
      have hb23 := hb2.q hq3
      have hLi3 : ∀ y : Wd w3, (Instr.loadAt 46 (.pointer (some ⟨g2, 0, none⟩))).run Tryz.prog y.w = .ok (.agg (itA it)) y.w := Wd.load hb23.lt (Blk.range hb23) Tryz.underlying46 rfl (by kernel_rfl)
      have hLk3 : ∀ y : Wd w3, (Instr.loadAt 25 (.pointer (some ⟨g3, 0, none⟩))).run Tryz.prog y.w = .ok (.agg (knA k2)) y.w := Wd.load hb3.lt (Blk.range hb3) Tryz.underlying25 rfl (by kernel_rfl)
      have hKy3 : ∀ y : Wd w3, KIn y.w k2 := fun y => hk3.q y.q
      have hcL3 : ∀ y : Wd w3, y.w.cell? ⟨g3, 1, none⟩ = some (.slice k2.iA 1 k2.iC) := fun y => by
        have := (y.blk hb3).cell 1
        rw [this]
        show some (Value.slice k2.iA k2.l.length k2.iC) = _
        rw [hl3]
        rfl
      have HQ3 := Lib.hid (Q.trans (Q.trans hq1 hq2) hq3)
      obtain ⟨v3, hv3⟩ := Wd.first w3
      rw [hv3]
      clear hv3
      have hag := fun y : Wd w3 => hC.again k2 y.w (hT3 y) (hKy3 y) hs3 hl3
      go_upto_region 5 with (first | (refine wpList_load_run 25 (.tmp 3) (.pointer (some ⟨g3, 0, none⟩)) (.agg (knA k2)) ?_ ?_ ?_ ?_ ?_; rfl; rfl; rfl; exact hLk3 _) | (refine wpList_load_run 46 (.tmp 2) (.pointer (some ⟨g2, 0, none⟩)) (.agg (itA it)) ?_ ?_ ?_ ?_ ?_; rfl; rfl; rfl; exact hLi3 _) | (go_at_call 45; refine (hag _).mono ?_; rintro e w' ⟨k3, rfl, hq⟩; obtain ⟨ya, rfl⟩ := Wd.next _ hq; clear hq) | (refine wpList_store_blk (Blk.new ya.w 25 known0.cells.toArray) rfl 25 (.tmp 5) (.tmp 29) k3.cells rfl rfl rfl (by kernel_rfl) (kn_all _) (Nat.le_refl 2) ?_))
      intro W4 hW4 hbel4
      have hq4 : Q w3 W4 := hbel4 _ _ ya.q.size (Q.trans ya.q (q_new ya.w (knA known0) 25))
      clear hW4 hbel4
      obtain ⟨g5, hg5⟩ : ∃ g5, ya.w.heap.size = g5 := ⟨_, rfl⟩
      rw [hg5]
      clear hg5 hag ya v3
      have HQ4 := Lib.hid (Q.trans HQ3.out hq4)
      have hT4 : ∀ y : Wd W4, Tab y.w := fun y => hT3 ⟨y.w, Q.trans hq4 y.q⟩
      have hLi4 : ∀ y : Wd W4, (Instr.loadAt 46 (.pointer (some ⟨g2, 0, none⟩))).run Tryz.prog y.w = .ok (.agg (itA it)) y.w := fun y => hLi3 ⟨y.w, Q.trans hq4 y.q⟩
      have hLk4 : ∀ y : Wd W4, (Instr.loadAt 25 (.pointer (some ⟨g3, 0, none⟩))).run Tryz.prog y.w = .ok (.agg (knA k2)) y.w := fun y => hLk3 ⟨y.w, Q.trans hq4 y.q⟩
      have hKy4 : ∀ y : Wd W4, KIn y.w k2 := fun y => hKy3 ⟨y.w, Q.trans hq4 y.q⟩
      have hcL4 : ∀ y : Wd W4, y.w.cell? ⟨g3, 1, none⟩ = some (.slice k2.iA 1 k2.iC) := fun y => hcL3 ⟨y.w, Q.trans hq4 y.q⟩
      have hbal := fun y : Wd W4 => hC.ballots k2 y.w (hT4 y) (hKy4 y) hl3
      obtain ⟨v4, hv4⟩ := Wd.first W4
      rw [hv4]
      clear hv4 hLi3 hLk3 hKy3 hcL3 hT3 hb23 hb3 hk3
      go_upto_region 6 with (first | (refine wpList_load_run 25 (.tmp 3) (.pointer (some ⟨g3, 0, none⟩)) (.agg (knA k2)) ?_ ?_ ?_ ?_ ?_; rfl; rfl; rfl; exact hLk4 _) | (go_at_call 20; refine (hbal _).mono ?_; rintro e w' ⟨A5, c5, rfl, hq⟩; obtain ⟨y5, rfl⟩ := Wd.next _ hq; clear hq))
      rename_i K6 hK6
      clear hbal
      have REST6 : ∀ (g6 : Nat) (w6 : World), Q W4 w6 → Blk w6 g6 46 it.cells.toArray → K6 { tmps := #[.bool false, .pointer (some ⟨g1, 0, none⟩), .pointer (some ⟨g2, 0, none⟩), .pointer (some ⟨g3, 0, none⟩), .bool true, .pointer (some ⟨g5, 0, none⟩), .bool false, .slice A5 1 c5, .pointer (some ⟨g6, 0, none⟩), .bool true, .agg #[.int .i64 smX, .int .i64 smY], .agg #[.int .i64 smX, .int .i64 smY], .string (sha emptyT), .agg (ballotA bb), .agg (ballotA bs), .agg (itA it), .tuple #[.agg (knA k2), .bool true], .pointer (some ⟨g1, 1, none⟩), .int .i64 smY, v19, v20, .agg (itA it), .tuple #[.agg (knA k2), .bool true], .agg (knA k2), .bool true, .tuple #[.agg (knA k3), .bool false], .agg (knA k2), .agg (itA it), .tuple #[.agg (knA k3), .bool false], .agg (knA k3), .bool false, .agg (knA k2), .slice A5 1 c5, .tuple #[.agg (itA it), .bool true], .agg (knA k2), .agg (itA it), .string dg, .tuple #[.agg (itA it), .bool true], .agg (itA it), .bool true, undef, undef, undef, undef, undef, undef, undef, undef, undef, undef, undef, undef, undef, undef, undef, undef, undef, undef, undef, undef, undef, undef, undef, undef, undef, undef, undef, undef, undef, undef, undef, undef, undef, undef, undef, undef, undef, undef, undef, undef, undef, undef, undef, undef, undef], defers := [] } w6 := by
        intro g6 w6 hq6 hb6
        refine hK6 _ _ ?_
        clear hK6
        have HQ6 := Lib.hid (Q.trans HQ4.out hq6)
        have hT6 : ∀ y : Wd w6, Tab y.w := fun y => hT4 ⟨y.w, Q.trans hq6 y.q⟩
        have hLi6 : ∀ y : Wd w6, (Instr.loadAt 46 (.pointer (some ⟨g2, 0, none⟩))).run Tryz.prog y.w = .ok (.agg (itA it)) y.w := fun y => hLi4 ⟨y.w, Q.trans hq6 y.q⟩
        have hLk6 : ∀ y : Wd w6, (Instr.loadAt 25 (.pointer (some ⟨g3, 0, none⟩))).run Tryz.prog y.w = .ok (.agg (knA k2)) y.w := fun y => hLk4 ⟨y.w, Q.trans hq6 y.q⟩
        have hKy6 : ∀ y : Wd w6, KIn y.w k2 := fun y => hKy4 ⟨y.w, Q.trans hq6 y.q⟩
        have hcL6 : ∀ y : Wd w6, y.w.cell? ⟨g3, 1, none⟩ = some (.slice k2.iA 1 k2.iC) := fun y => hcL4 ⟨y.w, Q.trans hq6 y.q⟩
        have hcK6 : ∀ y : Wd w6, y.w.cell? ⟨g6, 0, none⟩ = some (.int .i64 2) := fun y => by
          have := (y.blk hb6).cell 0
          rw [this]
          show some (Value.int .i64 it.kind) = _
          rw [hC.kind]
        have hr6 := fun y : Wd w6 => hC.right k2 y.w (hT6 y) (hKy6 y) hs3 hl3
        have hn6 := fun y : Wd w6 => hC.hasnt k2 y.w (hT6 y) (hKy6 y)
        have hh6 := fun y : Wd w6 => hC.has k2 y.w (hT6 y) (hKy6 y) hl3
        have hd6 := fun y : Wd w6 => hC.dig y.w (hT6 y)
        have hz6 := fun y : Wd w6 => hC.nil y.w (hT6 y)
        have hsh6 := fun y : Wd w6 => Sha_any ⟨#[0, 0]⟩ y.w (hT6 y) (by decide)
        obtain ⟨v6, hv6⟩ := Wd.first w6
        rw [hv6]
        clear hv6 hLi4 hLk4 hKy4 hcL4 hT4 hb6
        generalize sha ⟨#[0, 0]⟩ = sz at hz6 hsh6
        dsimp only
        go_upto_region 7 with (fail)
        refine wp_region_wd v6 (by kernel_rfl) (by kernel_rfl) ?_
        repeat (first | (refine wpQuiet_load_run 25 (.tmp 3) (.pointer (some ⟨g3, 0, none⟩)) (.agg (knA k2)) ?_ ?_ ?_ ?_ ?_; rfl; rfl; rfl; exact hLk6; dsimp only [Act.put]; simp only [List.setIfInBounds_toArray, List.set_cons_succ, List.set_cons_zero]) | (refine wpQuiet_load_run 46 (.tmp 2) (.pointer (some ⟨g2, 0, none⟩)) (.agg (itA it)) ?_ ?_ ?_ ?_ ?_; rfl; rfl; rfl; exact hLi6; dsimp only [Act.put]; simp only [List.setIfInBounds_toArray, List.set_cons_succ, List.set_cons_zero]) | go_big_quiet_step (first | (go_at_call 46; exact Wd.call _ (new_nil _)) | (go_at_call 11; exact Wd.call _ (hz6 _)) | (go_at_call 13; exact Wd.call _ (hsh6 _)) | (go_at_call 10; exact Wd.call _ (hr6 _)) | (go_at_call 49; first | with_reducible exact Wd.call _ (hn6 _) | with_reducible exact Wd.call _ (hh6 _)) | (go_at_call 48; exact Wd.call _ (hd6 _))))
        refine wpQuiet_nil ?_
        rintro w7 ⟨y, rfl⟩
        have HY := Lib.hid y.q
        go_wp2_with fail
        go_ret
        exact ⟨rfl, Q.trans HQ6.out HY.out⟩
      refine wp_region_S (fun z => ∃ y : Wd W4, z = y.w) (by kernel_rfl) ⟨⟨_, y5.q.drew⟩, rfl⟩ ?_
      rintro _ ⟨y0, rfl⟩
      refine held_read 0 (v := .agg (knA k2)) rfl (by kernel_rfl) (by kernel_rfl) (by kernel_rfl) (by intro c a d v w h; cases d <;> exact h) rfl ⟨_, rfl⟩ (fun z hz => exec_load 25 (.tmp 3) _ _ rfl rfl (by obtain ⟨y, rfl⟩ := hz; exact hLk4 y)) ?_
      try simp only [Act.put, List.setIfInBounds_toArray, List.set_cons_succ, List.set_cons_zero]
      refine held_read 1 (v := .agg (itA it)) rfl (by kernel_rfl) (by kernel_rfl) (by kernel_rfl) (by intro c a d v w h; cases d <;> exact h) rfl ⟨_, rfl⟩ (fun z hz => exec_load 46 (.tmp 2) _ _ rfl rfl (by obtain ⟨y, rfl⟩ := hz; exact hLi4 y)) ?_
      try simp only [Act.put, List.setIfInBounds_toArray, List.set_cons_succ, List.set_cons_zero]
      refine held_fork 2 7 rfl rfl (by kernel_rfl) rfl rfl (fun K' hK' => ?_) (fun K' hK' => ?_)
      · go_simp
        refine (hC.dig y0.w (hT4 y0)).mono ?_
        rintro e w' ⟨rfl, hq⟩
        obtain ⟨y1, rfl⟩ := Wd.next y0 hq
        refine hK' _ _ ⟨y1, rfl⟩ ?_
        clear hK' K' hq
        try simp only [Act.put, List.setIfInBounds_toArray, List.set_cons_succ, List.set_cons_zero]
        refine held_fork 3 7 rfl rfl (by kernel_rfl) rfl rfl (fun K' hK' => ?_) (fun K' hK' => ?_)
        · go_simp
          refine (hC.find k2 y1.w (hT4 y1) (hKy4 y1) hl3).mono ?_
          rintro e w' ⟨rfl, hq⟩
          obtain ⟨y2, rfl⟩ := Wd.next y1 hq
          refine hK' _ _ ⟨y2, rfl⟩ ?_
          clear hK' K' hq
          try simp only [Act.put, List.setIfInBounds_toArray, List.set_cons_succ, List.set_cons_zero]
          refine held_pure 4 (v := .tuple #[.agg (itA it), .bool true]) rfl (by kernel_rfl) (by kernel_rfl) (by kernel_rfl) (by intro c a d v w h; cases d <;> exact h) rfl ⟨_, rfl⟩ (fun w => by rfl) ?_
          try simp only [Act.put, List.setIfInBounds_toArray, List.set_cons_succ, List.set_cons_zero]
          refine held_pure 5 (v := .agg (itA it)) rfl (by kernel_rfl) (by kernel_rfl) (by kernel_rfl) (by intro c a d v w h; cases d <;> exact h) rfl ⟨_, rfl⟩ (fun w => by rfl) ?_
          try simp only [Act.put, List.setIfInBounds_toArray, List.set_cons_succ, List.set_cons_zero]
          refine held_pure 6 (v := .bool true) rfl (by kernel_rfl) (by kernel_rfl) (by kernel_rfl) (by intro c a d v w h; cases d <;> exact h) rfl ⟨_, rfl⟩ (fun w => by rfl) ?_
          try simp only [Act.put, List.setIfInBounds_toArray, List.set_cons_succ, List.set_cons_zero]
          refine held_one 7 rfl (by kernel_rfl) rfl (fun K' hK' => ?_)
          refine wp_alloc_run 46 _ rfl (alloc_item _) ?_
          have hbg := Blk.new y2.w 46 (itA item0)
          have hgn := y2.q.size
          obtain ⟨y3, hy2⟩ := Wd.next y2 (q_new y2.w (itA item0) 46)
          rw [hy2] at hbg
          rw [hy2]
          obtain ⟨g, hg⟩ : ∃ g, y2.w.heap.size = g := ⟨_, rfl⟩
          rw [hg] at hbg hgn
          refine hK' _ _ ⟨y3, rfl⟩ ?_
          clear hK' K' hy2
          try simp only [Act.put, List.setIfInBounds_toArray, List.set_cons_succ, List.set_cons_zero]
          rw [hg]
          clear hg
          refine held_one 8 rfl (by kernel_rfl) rfl (fun K' hK' => ?_)
          refine wp_store_mid 46 (.tmp 8) (.tmp 38) rfl g 0 (itA it) rfl rfl (show y3.w.there g 0 49 by simpa using hbg.there (n := 49) (Nat.le_refl 49)) (by kernel_rfl) (it_all _) ?_
          have hqs : Q W4 (y3.w.setCells g 0 it.cells) := below_setCells hgn it.cells 0 W4 y3.w y3.q
          have hsc : Blk (y3.w.setCells g 0 it.cells) g 46 it.cells.toArray := by
            have := Blk.setCells it.cells 0 _ y3.w hbg (Nat.le_refl 49)
            rwa [splice_all _ _ (by rfl)] at this
          refine hK' _ _ ⟨⟨_, hqs⟩, rfl⟩ ?_
          clear hK' K'
          try simp only [Act.put, List.setIfInBounds_toArray, List.set_cons_succ, List.set_cons_zero]
          refine held_pure 9 (v := .bool true) rfl (by kernel_rfl) (by kernel_rfl) (by kernel_rfl) (by intro c a d v w h; cases d <;> exact h) rfl ⟨⟨_, hqs⟩, rfl⟩ (fun w => by rfl) ?_
          try simp only [Act.put, List.setIfInBounds_toArray, List.set_cons_succ, List.set_cons_zero]
          refine wpAnyH_done (by kernel_rfl) ?_ _
          exact REST6 g _ hqs hsc
        · refine wp_alloc_run 46 _ rfl (alloc_item _) ?_
          have hbg := Blk.new y1.w 46 (itA item0)
          have hgn := y1.q.size
          obtain ⟨y2, hy2⟩ := Wd.next y1 (q_new y1.w (itA item0) 46)
          rw [hy2] at hbg
          rw [hy2]
          obtain ⟨g, hg⟩ : ∃ g, y1.w.heap.size = g := ⟨_, rfl⟩
          rw [hg] at hbg hgn
          refine hK' _ _ ⟨y2, rfl⟩ ?_
          clear hK' K' hy2
          try simp only [Act.put, List.setIfInBounds_toArray, List.set_cons_succ, List.set_cons_zero]
          rw [hg]
          clear hg
          refine held_one 3 rfl (by kernel_rfl) rfl (fun K' hK' => ?_)
          go_simp
          refine (hC.find k2 y2.w (hT4 y2) (hKy4 y2) hl3).mono ?_
          rintro e w' ⟨rfl, hq⟩
          have hbg := hbg.q hq
          obtain ⟨y3, rfl⟩ := Wd.next y2 hq
          refine hK' _ _ ⟨y3, rfl⟩ ?_
          clear hK' K' hq
          try simp only [Act.put, List.setIfInBounds_toArray, List.set_cons_succ, List.set_cons_zero]
          refine held_pure 4 (v := .tuple #[.agg (itA it), .bool true]) rfl (by kernel_rfl) (by kernel_rfl) (by kernel_rfl) (by intro c a d v w h; cases d <;> exact h) rfl ⟨_, rfl⟩ (fun w => by rfl) ?_
          try simp only [Act.put, List.setIfInBounds_toArray, List.set_cons_succ, List.set_cons_zero]
          refine held_pure 5 (v := .agg (itA it)) rfl (by kernel_rfl) (by kernel_rfl) (by kernel_rfl) (by intro c a d v w h; cases d <;> exact h) rfl ⟨_, rfl⟩ (fun w => by rfl) ?_
          try simp only [Act.put, List.setIfInBounds_toArray, List.set_cons_succ, List.set_cons_zero]
          refine held_pure 6 (v := .bool true) rfl (by kernel_rfl) (by kernel_rfl) (by kernel_rfl) (by intro c a d v w h; cases d <;> exact h) rfl ⟨_, rfl⟩ (fun w => by rfl) ?_
          try simp only [Act.put, List.setIfInBounds_toArray, List.set_cons_succ, List.set_cons_zero]
          refine held_one 8 rfl (by kernel_rfl) rfl (fun K' hK' => ?_)
          refine wp_store_mid 46 (.tmp 8) (.tmp 38) rfl g 0 (itA it) rfl rfl (show y3.w.there g 0 49 by simpa using hbg.there (n := 49) (Nat.le_refl 49)) (by kernel_rfl) (it_all _) ?_
          have hqs : Q W4 (y3.w.setCells g 0 it.cells) := below_setCells hgn it.cells 0 W4 y3.w y3.q
          have hsc : Blk (y3.w.setCells g 0 it.cells) g 46 it.cells.toArray := by
            have := Blk.setCells it.cells 0 _ y3.w hbg (Nat.le_refl 49)
            rwa [splice_all _ _ (by rfl)] at this
          refine hK' _ _ ⟨⟨_, hqs⟩, rfl⟩ ?_
          clear hK' K'
          try simp only [Act.put, List.setIfInBounds_toArray, List.set_cons_succ, List.set_cons_zero]
          refine held_pure 9 (v := .bool true) rfl (by kernel_rfl) (by kernel_rfl) (by kernel_rfl) (by intro c a d v w h; cases d <;> exact h) rfl ⟨⟨_, hqs⟩, rfl⟩ (fun w => by rfl) ?_
          try simp only [Act.put, List.setIfInBounds_toArray, List.set_cons_succ, List.set_cons_zero]
          refine wpAnyH_done (by kernel_rfl) ?_ _
          exact REST6 g _ hqs hsc
      · refine wp_alloc_run 46 _ rfl (alloc_item _) ?_
        have hbg := Blk.new y0.w 46 (itA item0)
        have hgn := y0.q.size
        obtain ⟨y1, hy2⟩ := Wd.next y0 (q_new y0.w (itA item0) 46)
        rw [hy2] at hbg
        rw [hy2]
        obtain ⟨g, hg⟩ : ∃ g, y0.w.heap.size = g := ⟨_, rfl⟩
        rw [hg] at hbg hgn
        refine hK' _ _ ⟨y1, rfl⟩ ?_
        clear hK' K' hy2
        try simp only [Act.put, List.setIfInBounds_toArray, List.set_cons_succ, List.set_cons_zero]
        rw [hg]
        clear hg
        refine held_one 2 rfl (by kernel_rfl) rfl (fun K' hK' => ?_)
        go_simp
        refine (hC.dig y1.w (hT4 y1)).mono ?_
        rintro e w' ⟨rfl, hq⟩
        have hbg := hbg.q hq
        obtain ⟨y2, rfl⟩ := Wd.next y1 hq
        refine hK' _ _ ⟨y2, rfl⟩ ?_
        clear hK' K' hq
        try simp only [Act.put, List.setIfInBounds_toArray, List.set_cons_succ, List.set_cons_zero]
        refine held_one 3 rfl (by kernel_rfl) rfl (fun K' hK' => ?_)
        go_simp
        refine (hC.find k2 y2.w (hT4 y2) (hKy4 y2) hl3).mono ?_
        rintro e w' ⟨rfl, hq⟩
        have hbg := hbg.q hq
        obtain ⟨y3, rfl⟩ := Wd.next y2 hq
        refine hK' _ _ ⟨y3, rfl⟩ ?_
        clear hK' K' hq
        try simp only [Act.put, List.setIfInBounds_toArray, List.set_cons_succ, List.set_cons_zero]
        refine held_pure 4 (v := .tuple #[.agg (itA it), .bool true]) rfl (by kernel_rfl) (by kernel_rfl) (by kernel_rfl) (by intro c a d v w h; cases d <;> exact h) rfl ⟨_, rfl⟩ (fun w => by rfl) ?_
        try simp only [Act.put, List.setIfInBounds_toArray, List.set_cons_succ, List.set_cons_zero]
        refine held_pure 5 (v := .agg (itA it)) rfl (by kernel_rfl) (by kernel_rfl) (by kernel_rfl) (by intro c a d v w h; cases d <;> exact h) rfl ⟨_, rfl⟩ (fun w => by rfl) ?_
        try simp only [Act.put, List.setIfInBounds_toArray, List.set_cons_succ, List.set_cons_zero]
        refine held_pure 6 (v := .bool true) rfl (by kernel_rfl) (by kernel_rfl) (by kernel_rfl) (by intro c a d v w h; cases d <;> exact h) rfl ⟨_, rfl⟩ (fun w => by rfl) ?_
        try simp only [Act.put, List.setIfInBounds_toArray, List.set_cons_succ, List.set_cons_zero]
        refine held_one 8 rfl (by kernel_rfl) rfl (fun K' hK' => ?_)
        refine wp_store_mid 46 (.tmp 8) (.tmp 38) rfl g 0 (itA it) rfl rfl (show y3.w.there g 0 49 by simpa using hbg.there (n := 49) (Nat.le_refl 49)) (by kernel_rfl) (it_all _) ?_
        have hqs : Q W4 (y3.w.setCells g 0 it.cells) := below_setCells hgn it.cells 0 W4 y3.w y3.q
        have hsc : Blk (y3.w.setCells g 0 it.cells) g 46 it.cells.toArray := by
          have := Blk.setCells it.cells 0 _ y3.w hbg (Nat.le_refl 49)
          rwa [splice_all _ _ (by rfl)] at this
        refine hK' _ _ ⟨⟨_, hqs⟩, rfl⟩ ?_
        clear hK' K'
        try simp only [Act.put, List.setIfInBounds_toArray, List.set_cons_succ, List.set_cons_zero]
        refine held_pure 9 (v := .bool true) rfl (by kernel_rfl) (by kernel_rfl) (by kernel_rfl) (by intro c a d v w h; cases d <;> exact h) rfl ⟨⟨_, hqs⟩, rfl⟩ (fun w => by rfl) ?_
        try simp only [Act.put, List.setIfInBounds_toArray, List.set_cons_succ, List.set_cons_zero]
        refine wpAnyH_done (by kernel_rfl) ?_ _
        exact REST6 g _ hqs hsc
    refine wp_region_S (fun z => ∃ y : Wd w2, z = y.w) (by kernel_rfl) ⟨⟨_, (Q.refl w2).drew⟩, rfl⟩ ?_
    rintro _ ⟨y0, rfl⟩
    refine held_pure 0 (v := .pointer (some ⟨g1, 1, none⟩)) rfl (by kernel_rfl) (by kernel_rfl) (by kernel_rfl) (by intro c a d v w h; cases d <;> exact h) rfl ⟨_, rfl⟩ (fun w => by rfl) ?_
    try simp only [Act.put, List.setIfInBounds_toArray, List.set_cons_succ, List.set_cons_zero]
    refine held_read 1 (v := .int .i64 smY) rfl (by kernel_rfl) (by kernel_rfl) (by kernel_rfl) (by intro c a d v w h; cases d <;> exact h) rfl ⟨_, rfl⟩ (by rintro z ⟨y, rfl⟩; go_simp) ?_
    try simp only [Act.put, List.setIfInBounds_toArray, List.set_cons_succ, List.set_cons_zero]
    refine held_read 4 (v := .agg (itA it)) rfl (by kernel_rfl) (by kernel_rfl) (by kernel_rfl) (by intro c a d v w h; cases d <;> exact h) rfl ⟨_, rfl⟩ (fun z hz => exec_load 46 (.tmp 2) _ _ rfl rfl (hLi z hz)) ?_
    try simp only [Act.put, List.setIfInBounds_toArray, List.set_cons_succ, List.set_cons_zero]
    refine held_fork 2 9 rfl rfl (by kernel_rfl) rfl rfl (fun K' hK' => ?_) (fun K' hK' => ?_)
    · go_simp
      have hSl := ints_one y0.w smY
      have hq := q_new y0.w #[.int .i64 smY] 3
      obtain ⟨y1, hn⟩ := Wd.next y0 hq
      rw [hn] at hSl
      rw [hn]
      clear hn
      refine hK' _ _ ⟨y1, rfl⟩ ?_
      clear hK' K' hq
      try simp only [Act.put, List.setIfInBounds_toArray, List.set_cons_succ, List.set_cons_zero]
      obtain ⟨gs, hgs⟩ : ∃ gs, y0.w.heap.size = gs := ⟨_, rfl⟩
      rw [hgs] at hSl
      rw [hgs]
      clear hgs
      refine held_fork 3 9 rfl rfl (by kernel_rfl) rfl rfl (fun K' hK' => ?_) (fun K' hK' => ?_)
      · go_simp
        refine (new_any (some ⟨gs, 0, none⟩) 1 [smY] y1.w hSl (by decide)).mono ?_
        rintro e w' ⟨k1, rfl, hks1, hkl1, hKk, hq⟩
        have hSl := hSl.q hq
        obtain ⟨y2, rfl⟩ := Wd.next y1 hq
        refine hK' _ _ ⟨y2, rfl⟩ ?_
        clear hK' K' hq
        try simp only [Act.put, List.setIfInBounds_toArray, List.set_cons_succ, List.set_cons_zero]
        refine held_fork 5 9 rfl rfl (by kernel_rfl) rfl rfl (fun K' hK' => ?_) (fun K' hK' => ?_)
        · go_simp
          refine (hC.add k1 y2.w (hT2 y2) hKk hks1 hkl1).mono ?_
          rintro e w' ⟨k2, rfl, hks2, hkl2, hKk2, hq⟩
          have hSl := hSl.q hq
          have hKk := hKk.q hq
          obtain ⟨y3, rfl⟩ := Wd.next y2 hq
          refine hK' _ _ ⟨y3, rfl⟩ ?_
          clear hK' K' hq
          try simp only [Act.put, List.setIfInBounds_toArray, List.set_cons_succ, List.set_cons_zero]
          refine held_pure 6 (v := .tuple #[.agg (knA k2), .bool true]) rfl (by kernel_rfl) (by kernel_rfl) (by kernel_rfl) (by intro c a d v w h; cases d <;> exact h) rfl ⟨_, rfl⟩ (fun w => by rfl) ?_
          try simp only [Act.put, List.setIfInBounds_toArray, List.set_cons_succ, List.set_cons_zero]
          refine held_pure 7 (v := .agg (knA k2)) rfl (by kernel_rfl) (by kernel_rfl) (by kernel_rfl) (by intro c a d v w h; cases d <;> exact h) rfl ⟨_, rfl⟩ (fun w => by rfl) ?_
          try simp only [Act.put, List.setIfInBounds_toArray, List.set_cons_succ, List.set_cons_zero]
          refine held_pure 8 (v := .bool true) rfl (by kernel_rfl) (by kernel_rfl) (by kernel_rfl) (by intro c a d v w h; cases d <;> exact h) rfl ⟨_, rfl⟩ (fun w => by rfl) ?_
          try simp only [Act.put, List.setIfInBounds_toArray, List.set_cons_succ, List.set_cons_zero]
          refine held_one 9 rfl (by kernel_rfl) rfl (fun K' hK' => ?_)
          have hSl := hSl.q (q_new y3.w (knA known0) 25)
          have hKk := hKk.q (q_new y3.w (knA known0) 25)
          have hKk2 := hKk2.q (q_new y3.w (knA known0) 25)
          refine wp_alloc_run 25 _ rfl (alloc_known _) ?_
          have hbg := Blk.new y3.w 25 (knA known0)
          have hgn := y3.q.size
          obtain ⟨y4, hy2⟩ := Wd.next y3 (q_new y3.w (knA known0) 25)
          rw [hy2] at hbg hSl hKk hKk2
          rw [hy2]
          obtain ⟨g, hg⟩ : ∃ g, y3.w.heap.size = g := ⟨_, rfl⟩
          rw [hg] at hbg hgn
          refine hK' _ _ ⟨y4, rfl⟩ ?_
          clear hK' K' hy2
          try simp only [Act.put, List.setIfInBounds_toArray, List.set_cons_succ, List.set_cons_zero]
          rw [hg]
          clear hg
          refine held_one 10 rfl (by kernel_rfl) rfl (fun K' hK' => ?_)
          refine wp_store_mid 25 (.tmp 3) (.tmp 23) rfl g 0 (knA k2) rfl rfl (show y4.w.there g 0 2 by simpa using hbg.there (n := 2) (Nat.le_refl 2)) (by kernel_rfl) (kn_all _) ?_
          have hqs : Q w2 (y4.w.setCells g 0 k2.cells) := below_setCells hgn k2.cells 0 w2 y4.w y4.q
          have hsc : Blk (y4.w.setCells g 0 k2.cells) g 25 k2.cells.toArray := by
            have := Blk.setCells k2.cells 0 _ y4.w hbg (Nat.le_refl 2)
            rwa [splice_all _ _ (by rfl)] at this
          refine hK' _ _ ⟨⟨_, hqs⟩, rfl⟩ ?_
          clear hK' K'
          try simp only [Act.put, List.setIfInBounds_toArray, List.set_cons_succ, List.set_cons_zero]
          have honly : ∀ o' v, y4.w.cell? ⟨g, o', none⟩ = some v → ∃ A n c, v = .slice A n c := by
            intro o' v hv
            rw [hbg.cell] at hv
            rcases o' with _ | _ | n
            · exact ⟨_, _, _, (Option.some.inj hv).symm⟩
            · exact ⟨_, _, _, (Option.some.inj hv).symm⟩
            · simp [KR.cells, known0, knA] at hv
          have hfar := fun b (hne : b ≠ g) => setCells_far (g := g) hne k2.cells 0 y4.w
          have hside : Aside y4.w (y4.w.setCells g 0 k2.cells) g := ⟨honly, hfar, (below_setCells (Nat.le_refl _) k2.cells 0 y4.w y4.w (Below.refl g y4.w)).size⟩
          have hK3 := hside.known hKk2
          refine held_pure 11 (v := .bool true) rfl (by kernel_rfl) (by kernel_rfl) (by kernel_rfl) (by intro c a d v w h; cases d <;> exact h) rfl ⟨⟨_, hqs⟩, rfl⟩ (fun w => by rfl) ?_
          try simp only [Act.put, List.setIfInBounds_toArray, List.set_cons_succ, List.set_cons_zero]
          refine wpAnyH_done (by kernel_rfl) ?_ _
          exact REST3 g k2 _ _ _ hqs hsc hK3 hks2 hkl2
        · have hSl := hSl.q (q_new y2.w (knA known0) 25)
          have hKk := hKk.q (q_new y2.w (knA known0) 25)
          refine wp_alloc_run 25 _ rfl (alloc_known _) ?_
          have hbg := Blk.new y2.w 25 (knA known0)
          have hgn := y2.q.size
          obtain ⟨y3, hy2⟩ := Wd.next y2 (q_new y2.w (knA known0) 25)
          rw [hy2] at hbg hSl hKk
          rw [hy2]
          obtain ⟨g, hg⟩ : ∃ g, y2.w.heap.size = g := ⟨_, rfl⟩
          rw [hg] at hbg hgn
          refine hK' _ _ ⟨y3, rfl⟩ ?_
          clear hK' K' hy2
          try simp only [Act.put, List.setIfInBounds_toArray, List.set_cons_succ, List.set_cons_zero]
          rw [hg]
          clear hg
          refine held_one 5 rfl (by kernel_rfl) rfl (fun K' hK' => ?_)
          go_simp
          refine (hC.add k1 y3.w (hT2 y3) hKk hks1 hkl1).mono ?_
          rintro e w' ⟨k2, rfl, hks2, hkl2, hKk2, hq⟩
          have hSl := hSl.q hq
          have hKk := hKk.q hq
          have hbg := hbg.q hq
          obtain ⟨y4, rfl⟩ := Wd.next y3 hq
          refine hK' _ _ ⟨y4, rfl⟩ ?_
          clear hK' K' hq
          try simp only [Act.put, List.setIfInBounds_toArray, List.set_cons_succ, List.set_cons_zero]
          refine held_pure 6 (v := .tuple #[.agg (knA k2), .bool true]) rfl (by kernel_rfl) (by kernel_rfl) (by kernel_rfl) (by intro c a d v w h; cases d <;> exact h) rfl ⟨_, rfl⟩ (fun w => by rfl) ?_
          try simp only [Act.put, List.setIfInBounds_toArray, List.set_cons_succ, List.set_cons_zero]
          refine held_pure 7 (v := .agg (knA k2)) rfl (by kernel_rfl) (by kernel_rfl) (by kernel_rfl) (by intro c a d v w h; cases d <;> exact h) rfl ⟨_, rfl⟩ (fun w => by rfl) ?_
          try simp only [Act.put, List.setIfInBounds_toArray, List.set_cons_succ, List.set_cons_zero]
          refine held_pure 8 (v := .bool true) rfl (by kernel_rfl) (by kernel_rfl) (by kernel_rfl) (by intro c a d v w h; cases d <;> exact h) rfl ⟨_, rfl⟩ (fun w => by rfl) ?_
          try simp only [Act.put, List.setIfInBounds_toArray, List.set_cons_succ, List.set_cons_zero]
          refine held_one 10 rfl (by kernel_rfl) rfl (fun K' hK' => ?_)
          refine wp_store_mid 25 (.tmp 3) (.tmp 23) rfl g 0 (knA k2) rfl rfl (show y4.w.there g 0 2 by simpa using hbg.there (n := 2) (Nat.le_refl 2)) (by kernel_rfl) (kn_all _) ?_
          have hqs : Q w2 (y4.w.setCells g 0 k2.cells) := below_setCells hgn k2.cells 0 w2 y4.w y4.q
          have hsc : Blk (y4.w.setCells g 0 k2.cells) g 25 k2.cells.toArray := by
            have := Blk.setCells k2.cells 0 _ y4.w hbg (Nat.le_refl 2)
            rwa [splice_all _ _ (by rfl)] at this
          refine hK' _ _ ⟨⟨_, hqs⟩, rfl⟩ ?_
          clear hK' K'
          try simp only [Act.put, List.setIfInBounds_toArray, List.set_cons_succ, List.set_cons_zero]
          have honly : ∀ o' v, y4.w.cell? ⟨g, o', none⟩ = some v → ∃ A n c, v = .slice A n c := by
            intro o' v hv
            rw [hbg.cell] at hv
            rcases o' with _ | _ | n
            · exact ⟨_, _, _, (Option.some.inj hv).symm⟩
            · exact ⟨_, _, _, (Option.some.inj hv).symm⟩
            · simp [KR.cells, known0, knA] at hv
          have hfar := fun b (hne : b ≠ g) => setCells_far (g := g) hne k2.cells 0 y4.w
          have hside : Aside y4.w (y4.w.setCells g 0 k2.cells) g := ⟨honly, hfar, (below_setCells (Nat.le_refl _) k2.cells 0 y4.w y4.w (Below.refl g y4.w)).size⟩
          have hK3 := hside.known hKk2
          refine held_pure 11 (v := .bool true) rfl (by kernel_rfl) (by kernel_rfl) (by kernel_rfl) (by intro c a d v w h; cases d <;> exact h) rfl ⟨⟨_, hqs⟩, rfl⟩ (fun w => by rfl) ?_
          try simp only [Act.put, List.setIfInBounds_toArray, List.set_cons_succ, List.set_cons_zero]
          refine wpAnyH_done (by kernel_rfl) ?_ _
          exact REST3 g k2 _ _ _ hqs hsc hK3 hks2 hkl2
      · have hSl := hSl.q (q_new y1.w (knA known0) 25)
        refine wp_alloc_run 25 _ rfl (alloc_known _) ?_
        have hbg := Blk.new y1.w 25 (knA known0)
        have hgn := y1.q.size
        obtain ⟨y2, hy2⟩ := Wd.next y1 (q_new y1.w (knA known0) 25)
        rw [hy2] at hbg hSl
        rw [hy2]
        obtain ⟨g, hg⟩ : ∃ g, y1.w.heap.size = g := ⟨_, rfl⟩
        rw [hg] at hbg hgn
        refine hK' _ _ ⟨y2, rfl⟩ ?_
        clear hK' K' hy2
        try simp only [Act.put, List.setIfInBounds_toArray, List.set_cons_succ, List.set_cons_zero]
        rw [hg]
        clear hg
        refine held_one 3 rfl (by kernel_rfl) rfl (fun K' hK' => ?_)
        go_simp
        refine (new_any (some ⟨gs, 0, none⟩) 1 [smY] y2.w hSl (by decide)).mono ?_
        rintro e w' ⟨k1, rfl, hks1, hkl1, hKk, hq⟩
        have hSl := hSl.q hq
        have hbg := hbg.q hq
        obtain ⟨y3, rfl⟩ := Wd.next y2 hq
        refine hK' _ _ ⟨y3, rfl⟩ ?_
        clear hK' K' hq
        try simp only [Act.put, List.setIfInBounds_toArray, List.set_cons_succ, List.set_cons_zero]
        refine held_one 5 rfl (by kernel_rfl) rfl (fun K' hK' => ?_)
        go_simp
        refine (hC.add k1 y3.w (hT2 y3) hKk hks1 hkl1).mono ?_
        rintro e w' ⟨k2, rfl, hks2, hkl2, hKk2, hq⟩
        have hSl := hSl.q hq
        have hKk := hKk.q hq
        have hbg := hbg.q hq
        obtain ⟨y4, rfl⟩ := Wd.next y3 hq
        refine hK' _ _ ⟨y4, rfl⟩ ?_
        clear hK' K' hq
        try simp only [Act.put, List.setIfInBounds_toArray, List.set_cons_succ, List.set_cons_zero]
        refine held_pure 6 (v := .tuple #[.agg (knA k2), .bool true]) rfl (by kernel_rfl) (by kernel_rfl) (by kernel_rfl) (by intro c a d v w h; cases d <;> exact h) rfl ⟨_, rfl⟩ (fun w => by rfl) ?_
        try simp only [Act.put, List.setIfInBounds_toArray, List.set_cons_succ, List.set_cons_zero]
        refine held_pure 7 (v := .agg (knA k2)) rfl (by kernel_rfl) (by kernel_rfl) (by kernel_rfl) (by intro c a d v w h; cases d <;> exact h) rfl ⟨_, rfl⟩ (fun w => by rfl) ?_
        try simp only [Act.put, List.setIfInBounds_toArray, List.set_cons_succ, List.set_cons_zero]
        refine held_pure 8 (v := .bool true) rfl (by kernel_rfl) (by kernel_rfl) (by kernel_rfl) (by intro c a d v w h; cases d <;> exact h) rfl ⟨_, rfl⟩ (fun w => by rfl) ?_
        try simp only [Act.put, List.setIfInBounds_toArray, List.set_cons_succ, List.set_cons_zero]
        refine held_one 10 rfl (by kernel_rfl) rfl (fun K' hK' => ?_)
        refine wp_store_mid 25 (.tmp 3) (.tmp 23) rfl g 0 (knA k2) rfl rfl (show y4.w.there g 0 2 by simpa using hbg.there (n := 2) (Nat.le_refl 2)) (by kernel_rfl) (kn_all _) ?_
        have hqs : Q w2 (y4.w.setCells g 0 k2.cells) := below_setCells hgn k2.cells 0 w2 y4.w y4.q
        have hsc : Blk (y4.w.setCells g 0 k2.cells) g 25 k2.cells.toArray := by
          have := Blk.setCells k2.cells 0 _ y4.w hbg (Nat.le_refl 2)
          rwa [splice_all _ _ (by rfl)] at this
        refine hK' _ _ ⟨⟨_, hqs⟩, rfl⟩ ?_
        clear hK' K'
        try simp only [Act.put, List.setIfInBounds_toArray, List.set_cons_succ, List.set_cons_zero]
        have honly : ∀ o' v, y4.w.cell? ⟨g, o', none⟩ = some v → ∃ A n c, v = .slice A n c := by
          intro o' v hv
          rw [hbg.cell] at hv
          rcases o' with _ | _ | n
          · exact ⟨_, _, _, (Option.some.inj hv).symm⟩
          · exact ⟨_, _, _, (Option.some.inj hv).symm⟩
          · simp [KR.cells, known0, knA] at hv
        have hfar := fun b (hne : b ≠ g) => setCells_far (g := g) hne k2.cells 0 y4.w
        have hside : Aside y4.w (y4.w.setCells g 0 k2.cells) g := ⟨honly, hfar, (below_setCells (Nat.le_refl _) k2.cells 0 y4.w y4.w (Below.refl g y4.w)).size⟩
        have hK3 := hside.known hKk2
        refine held_pure 11 (v := .bool true) rfl (by kernel_rfl) (by kernel_rfl) (by kernel_rfl) (by intro c a d v w h; cases d <;> exact h) rfl ⟨⟨_, hqs⟩, rfl⟩ (fun w => by rfl) ?_
        try simp only [Act.put, List.setIfInBounds_toArray, List.set_cons_succ, List.set_cons_zero]
        refine wpAnyH_done (by kernel_rfl) ?_ _
        exact REST3 g k2 _ _ _ hqs hsc hK3 hks2 hkl2
    · refine wp_alloc_run 25 _ rfl (alloc_known _) ?_
      have hbg := Blk.new y0.w 25 (knA known0)
      have hgn := y0.q.size
      obtain ⟨y1, hy2⟩ := Wd.next y0 (q_new y0.w (knA known0) 25)
      rw [hy2] at hbg
      rw [hy2]
      obtain ⟨g, hg⟩ : ∃ g, y0.w.heap.size = g := ⟨_, rfl⟩
      rw [hg] at hbg hgn
      refine hK' _ _ ⟨y1, rfl⟩ ?_
      clear hK' K' hy2
      try simp only [Act.put, List.setIfInBounds_toArray, List.set_cons_succ, List.set_cons_zero]
      rw [hg]
      clear hg
      refine held_one 2 rfl (by kernel_rfl) rfl (fun K' hK' => ?_)
      go_simp
      have hSl := ints_one y1.w smY
      have hq := q_new y1.w #[.int .i64 smY] 3
      have hbg := hbg.q hq
      obtain ⟨y2, hn⟩ := Wd.next y1 hq
      rw [hn] at hSl hbg
      rw [hn]
      clear hn
      refine hK' _ _ ⟨y2, rfl⟩ ?_
      clear hK' K' hq
      try simp only [Act.put, List.setIfInBounds_toArray, List.set_cons_succ, List.set_cons_zero]
      obtain ⟨gs, hgs⟩ : ∃ gs, y1.w.heap.size = gs := ⟨_, rfl⟩
      rw [hgs] at hSl
      rw [hgs]
      clear hgs
      refine held_one 3 rfl (by kernel_rfl) rfl (fun K' hK' => ?_)
      go_simp
      refine (new_any (some ⟨gs, 0, none⟩) 1 [smY] y2.w hSl (by decide)).mono ?_
      rintro e w' ⟨k1, rfl, hks1, hkl1, hKk, hq⟩
      have hSl := hSl.q hq
      have hbg := hbg.q hq
      obtain ⟨y3, rfl⟩ := Wd.next y2 hq
      refine hK' _ _ ⟨y3, rfl⟩ ?_
      clear hK' K' hq
      try simp only [Act.put, List.setIfInBounds_toArray, List.set_cons_succ, List.set_cons_zero]
      refine held_one 5 rfl (by kernel_rfl) rfl (fun K' hK' => ?_)
      go_simp
      refine (hC.add k1 y3.w (hT2 y3) hKk hks1 hkl1).mono ?_
      rintro e w' ⟨k2, rfl, hks2, hkl2, hKk2, hq⟩
      have hSl := hSl.q hq
      have hKk := hKk.q hq
      have hbg := hbg.q hq
      obtain ⟨y4, rfl⟩ := Wd.next y3 hq
      refine hK' _ _ ⟨y4, rfl⟩ ?_
      clear hK' K' hq
      try simp only [Act.put, List.setIfInBounds_toArray, List.set_cons_succ, List.set_cons_zero]
      refine held_pure 6 (v := .tuple #[.agg (knA k2), .bool true]) rfl (by kernel_rfl) (by kernel_rfl) (by kernel_rfl) (by intro c a d v w h; cases d <;> exact h) rfl ⟨_, rfl⟩ (fun w => by rfl) ?_
      try simp only [Act.put, List.setIfInBounds_toArray, List.set_cons_succ, List.set_cons_zero]
      refine held_pure 7 (v := .agg (knA k2)) rfl (by kernel_rfl) (by kernel_rfl) (by kernel_rfl) (by intro c a d v w h; cases d <;> exact h) rfl ⟨_, rfl⟩ (fun w => by rfl) ?_
      try simp only [Act.put, List.setIfInBounds_toArray, List.set_cons_succ, List.set_cons_zero]
      refine held_pure 8 (v := .bool true) rfl (by kernel_rfl) (by kernel_rfl) (by kernel_rfl) (by intro c a d v w h; cases d <;> exact h) rfl ⟨_, rfl⟩ (fun w => by rfl) ?_
      try simp only [Act.put, List.setIfInBounds_toArray, List.set_cons_succ, List.set_cons_zero]
      refine held_one 10 rfl (by kernel_rfl) rfl (fun K' hK' => ?_)
      refine wp_store_mid 25 (.tmp 3) (.tmp 23) rfl g 0 (knA k2) rfl rfl (show y4.w.there g 0 2 by simpa using hbg.there (n := 2) (Nat.le_refl 2)) (by kernel_rfl) (kn_all _) ?_
      have hqs : Q w2 (y4.w.setCells g 0 k2.cells) := below_setCells hgn k2.cells 0 w2 y4.w y4.q
      have hsc : Blk (y4.w.setCells g 0 k2.cells) g 25 k2.cells.toArray := by
        have := Blk.setCells k2.cells 0 _ y4.w hbg (Nat.le_refl 2)
        rwa [splice_all _ _ (by rfl)] at this
      refine hK' _ _ ⟨⟨_, hqs⟩, rfl⟩ ?_
      clear hK' K'
      try simp only [Act.put, List.setIfInBounds_toArray, List.set_cons_succ, List.set_cons_zero]
      have honly : ∀ o' v, y4.w.cell? ⟨g, o', none⟩ = some v → ∃ A n c, v = .slice A n c := by
        intro o' v hv
        rw [hbg.cell] at hv
        rcases o' with _ | _ | n
        · exact ⟨_, _, _, (Option.some.inj hv).symm⟩
        · exact ⟨_, _, _, (Option.some.inj hv).symm⟩
        · simp [KR.cells, known0, knA] at hv
      have hfar := fun b (hne : b ≠ g) => setCells_far (g := g) hne k2.cells 0 y4.w
      have hside : Aside y4.w (y4.w.setCells g 0 k2.cells) g := ⟨honly, hfar, (below_setCells (Nat.le_refl _) k2.cells 0 y4.w y4.w (Below.refl g y4.w)).size⟩
      have hK3 := hside.known hKk2
      refine held_pure 11 (v := .bool true) rfl (by kernel_rfl) (by kernel_rfl) (by kernel_rfl) (by intro c a d v w h; cases d <;> exact h) rfl ⟨⟨_, hqs⟩, rfl⟩ (fun w => by rfl) ?_
      try simp only [Act.put, List.setIfInBounds_toArray, List.set_cons_succ, List.set_cons_zero]
      refine wpAnyH_done (by kernel_rfl) ?_ _
      exact REST3 g k2 _ _ _ hqs hsc hK3 hks2 hkl2
  refine wp_region_S (fun z => ∃ y : Wd W1, z = y.w) (by kernel_rfl) ⟨⟨_, (Q.refl W1).drew⟩, rfl⟩ ?_
  rintro _ ⟨y0, rfl⟩
  refine held_read 0 (v := .agg #[.int .i64 smX, .int .i64 smY]) rfl (by kernel_rfl) (by kernel_rfl) (by kernel_rfl) (by intro c a d v w h; cases d <;> exact h) rfl ⟨_, rfl⟩ (fun z hz => exec_load 75 (.tmp 1) _ _ rfl rfl (hLk z hz)) ?_
  try simp only [Act.put, List.setIfInBounds_toArray, List.set_cons_succ, List.set_cons_zero]
  refine held_fork 1 5 rfl rfl (by kernel_rfl) rfl rfl (fun K' hK' => ?_) (fun K' hK' => ?_)
  · go_simp
    refine (Sha_any emptyT y0.w (hT1 y0) (by decide)).mono ?_
    rintro e w' ⟨rfl, hq⟩
    obtain ⟨y1, rfl⟩ := Wd.next y0 hq
    refine hK' _ _ ⟨y1, rfl⟩ ?_
    clear hK' K' hq
    try simp only [Act.put, List.setIfInBounds_toArray, List.set_cons_succ, List.set_cons_zero]
    refine held_read 2 (v := .agg (ballotA bb)) rfl (by kernel_rfl) (by kernel_rfl) (by kernel_rfl) (by intro c a d v w h; cases d <;> exact h) rfl ⟨_, rfl⟩ (fun z hz => exec_build 42 _ _ _ rfl (by simp only [List.map_toArray, List.map_cons, List.map_nil]; rfl) (hC.bal z)) ?_
    try simp only [Act.put, List.setIfInBounds_toArray, List.set_cons_succ, List.set_cons_zero]
    refine held_fork 3 5 rfl rfl (by kernel_rfl) rfl rfl (fun K' hK' => ?_) (fun K' hK' => ?_)
    · go_simp
      refine (hC.sign y1.w (hT1 y1)).mono ?_
      rintro e w' ⟨rfl, hq⟩
      obtain ⟨y2, rfl⟩ := Wd.next y1 hq
      refine hK' _ _ ⟨y2, rfl⟩ ?_
      clear hK' K' hq
      try simp only [Act.put, List.setIfInBounds_toArray, List.set_cons_succ, List.set_cons_zero]
      refine held_fork 4 5 rfl rfl (by kernel_rfl) rfl rfl (fun K' hK' => ?_) (fun K' hK' => ?_)
      · go_simp
        refine (hC.of y2.w).mono ?_
        rintro e w' ⟨rfl, hq⟩
        obtain ⟨y3, rfl⟩ := Wd.next y2 hq
        refine hK' _ _ ⟨y3, rfl⟩ ?_
        clear hK' K' hq
        try simp only [Act.put, List.setIfInBounds_toArray, List.set_cons_succ, List.set_cons_zero]
        refine held_one 5 rfl (by kernel_rfl) rfl (fun K' hK' => ?_)
        refine wp_alloc_run 46 _ rfl (alloc_item _) ?_
        have hbg := Blk.new y3.w 46 (itA item0)
        have hgn := y3.q.size
        obtain ⟨y4, hy2⟩ := Wd.next y3 (q_new y3.w (itA item0) 46)
        rw [hy2] at hbg
        rw [hy2]
        obtain ⟨g, hg⟩ : ∃ g, y3.w.heap.size = g := ⟨_, rfl⟩
        rw [hg] at hbg hgn
        refine hK' _ _ ⟨y4, rfl⟩ ?_
        clear hK' K' hy2
        try simp only [Act.put, List.setIfInBounds_toArray, List.set_cons_succ, List.set_cons_zero]
        rw [hg]
        clear hg
        refine held_one 6 rfl (by kernel_rfl) rfl (fun K' hK' => ?_)
        refine wp_store_mid 46 (.tmp 2) (.tmp 15) rfl g 0 (itA it) rfl rfl (show y4.w.there g 0 49 by simpa using hbg.there (n := 49) (Nat.le_refl 49)) (by kernel_rfl) (it_all _) ?_
        have hqs : Q W1 (y4.w.setCells g 0 it.cells) := below_setCells hgn it.cells 0 W1 y4.w y4.q
        have hsc : Blk (y4.w.setCells g 0 it.cells) g 46 it.cells.toArray := by
          have := Blk.setCells it.cells 0 _ y4.w hbg (Nat.le_refl 49)
          rwa [splice_all _ _ (by rfl)] at this
        refine hK' _ _ ⟨⟨_, hqs⟩, rfl⟩ ?_
        clear hK' K'
        try simp only [Act.put, List.setIfInBounds_toArray, List.set_cons_succ, List.set_cons_zero]
        refine wpAnyH_done (by kernel_rfl) ?_ _
        exact REST2 g _ hqs hgn hsc
      · refine wp_alloc_run 46 _ rfl (alloc_item _) ?_
        have hbg := Blk.new y2.w 46 (itA item0)
        have hgn := y2.q.size
        obtain ⟨y3, hy2⟩ := Wd.next y2 (q_new y2.w (itA item0) 46)
        rw [hy2] at hbg
        rw [hy2]
        obtain ⟨g, hg⟩ : ∃ g, y2.w.heap.size = g := ⟨_, rfl⟩
        rw [hg] at hbg hgn
        refine hK' _ _ ⟨y3, rfl⟩ ?_
        clear hK' K' hy2
        try simp only [Act.put, List.setIfInBounds_toArray, List.set_cons_succ, List.set_cons_zero]
        rw [hg]
        clear hg
        refine held_one 4 rfl (by kernel_rfl) rfl (fun K' hK' => ?_)
        go_simp
        refine (hC.of y3.w).mono ?_
        rintro e w' ⟨rfl, hq⟩
        have hbg := hbg.q hq
        obtain ⟨y4, rfl⟩ := Wd.next y3 hq
        refine hK' _ _ ⟨y4, rfl⟩ ?_
        clear hK' K' hq
        try simp only [Act.put, List.setIfInBounds_toArray, List.set_cons_succ, List.set_cons_zero]
        refine held_one 6 rfl (by kernel_rfl) rfl (fun K' hK' => ?_)
        refine wp_store_mid 46 (.tmp 2) (.tmp 15) rfl g 0 (itA it) rfl rfl (show y4.w.there g 0 49 by simpa using hbg.there (n := 49) (Nat.le_refl 49)) (by kernel_rfl) (it_all _) ?_
        have hqs : Q W1 (y4.w.setCells g 0 it.cells) := below_setCells hgn it.cells 0 W1 y4.w y4.q
        have hsc : Blk (y4.w.setCells g 0 it.cells) g 46 it.cells.toArray := by
          have := Blk.setCells it.cells 0 _ y4.w hbg (Nat.le_refl 49)
          rwa [splice_all _ _ (by rfl)] at this
        refine hK' _ _ ⟨⟨_, hqs⟩, rfl⟩ ?_
        clear hK' K'
        try simp only [Act.put, List.setIfInBounds_toArray, List.set_cons_succ, List.set_cons_zero]
        refine wpAnyH_done (by kernel_rfl) ?_ _
        exact REST2 g _ hqs hgn hsc
    · refine wp_alloc_run 46 _ rfl (alloc_item _) ?_
      have hbg := Blk.new y1.w 46 (itA item0)
      have hgn := y1.q.size
      obtain ⟨y2, hy2⟩ := Wd.next y1 (q_new y1.w (itA item0) 46)
      rw [hy2] at hbg
      rw [hy2]
      obtain ⟨g, hg⟩ : ∃ g, y1.w.heap.size = g := ⟨_, rfl⟩
      rw [hg] at hbg hgn
      refine hK' _ _ ⟨y2, rfl⟩ ?_
      clear hK' K' hy2
      try simp only [Act.put, List.setIfInBounds_toArray, List.set_cons_succ, List.set_cons_zero]
      rw [hg]
      clear hg
      refine held_one 3 rfl (by kernel_rfl) rfl (fun K' hK' => ?_)
      go_simp
      refine (hC.sign y2.w (hT1 y2)).mono ?_
      rintro e w' ⟨rfl, hq⟩
      have hbg := hbg.q hq
      obtain ⟨y3, rfl⟩ := Wd.next y2 hq
      refine hK' _ _ ⟨y3, rfl⟩ ?_
      clear hK' K' hq
      try simp only [Act.put, List.setIfInBounds_toArray, List.set_cons_succ, List.set_cons_zero]
      refine held_one 4 rfl (by kernel_rfl) rfl (fun K' hK' => ?_)
      go_simp
      refine (hC.of y3.w).mono ?_
      rintro e w' ⟨rfl, hq⟩
      have hbg := hbg.q hq
      obtain ⟨y4, rfl⟩ := Wd.next y3 hq
      refine hK' _ _ ⟨y4, rfl⟩ ?_
      clear hK' K' hq
      try simp only [Act.put, List.setIfInBounds_toArray, List.set_cons_succ, List.set_cons_zero]
      refine held_one 6 rfl (by kernel_rfl) rfl (fun K' hK' => ?_)
      refine wp_store_mid 46 (.tmp 2) (.tmp 15) rfl g 0 (itA it) rfl rfl (show y4.w.there g 0 49 by simpa using hbg.there (n := 49) (Nat.le_refl 49)) (by kernel_rfl) (it_all _) ?_
      have hqs : Q W1 (y4.w.setCells g 0 it.cells) := below_setCells hgn it.cells 0 W1 y4.w y4.q
      have hsc : Blk (y4.w.setCells g 0 it.cells) g 46 it.cells.toArray := by
        have := Blk.setCells it.cells 0 _ y4.w hbg (Nat.le_refl 49)
        rwa [splice_all _ _ (by rfl)] at this
      refine hK' _ _ ⟨⟨_, hqs⟩, rfl⟩ ?_
      clear hK' K'
      try simp only [Act.put, List.setIfInBounds_toArray, List.set_cons_succ, List.set_cons_zero]
      refine wpAnyH_done (by kernel_rfl) ?_ _
      exact REST2 g _ hqs hgn hsc
  · refine wp_alloc_run 46 _ rfl (alloc_item _) ?_
    have hbg := Blk.new y0.w 46 (itA item0)
    have hgn := y0.q.size
    obtain ⟨y1, hy2⟩ := Wd.next y0 (q_new y0.w (itA item0) 46)
    rw [hy2] at hbg
    rw [hy2]
    obtain ⟨g, hg⟩ : ∃ g, y0.w.heap.size = g := ⟨_, rfl⟩
    rw [hg] at hbg hgn
    refine hK' _ _ ⟨y1, rfl⟩ ?_
    clear hK' K' hy2
    try simp only [Act.put, List.setIfInBounds_toArray, List.set_cons_succ, List.set_cons_zero]
    rw [hg]
    clear hg
    refine held_one 1 rfl (by kernel_rfl) rfl (fun K' hK' => ?_)
    go_simp
    refine (Sha_any emptyT y1.w (hT1 y1) (by decide)).mono ?_
    rintro e w' ⟨rfl, hq⟩
    have hbg := hbg.q hq
    obtain ⟨y2, rfl⟩ := Wd.next y1 hq
    refine hK' _ _ ⟨y2, rfl⟩ ?_
    clear hK' K' hq
    try simp only [Act.put, List.setIfInBounds_toArray, List.set_cons_succ, List.set_cons_zero]
    refine held_read 2 (v := .agg (ballotA bb)) rfl (by kernel_rfl) (by kernel_rfl) (by kernel_rfl) (by intro c a d v w h; cases d <;> exact h) rfl ⟨_, rfl⟩ (fun z hz => exec_build 42 _ _ _ rfl (by simp only [List.map_toArray, List.map_cons, List.map_nil]; rfl) (hC.bal z)) ?_
    try simp only [Act.put, List.setIfInBounds_toArray, List.set_cons_succ, List.set_cons_zero]
    refine held_one 3 rfl (by kernel_rfl) rfl (fun K' hK' => ?_)
    go_simp
    refine (hC.sign y2.w (hT1 y2)).mono ?_
    rintro e w' ⟨rfl, hq⟩
    have hbg := hbg.q hq
    obtain ⟨y3, rfl⟩ := Wd.next y2 hq
    refine hK' _ _ ⟨y3, rfl⟩ ?_
    clear hK' K' hq
    try simp only [Act.put, List.setIfInBounds_toArray, List.set_cons_succ, List.set_cons_zero]
    refine held_one 4 rfl (by kernel_rfl) rfl (fun K' hK' => ?_)
    go_simp
    refine (hC.of y3.w).mono ?_
    rintro e w' ⟨rfl, hq⟩
    have hbg := hbg.q hq
    obtain ⟨y4, rfl⟩ := Wd.next y3 hq
    refine hK' _ _ ⟨y4, rfl⟩ ?_
    clear hK' K' hq
    try simp only [Act.put, List.setIfInBounds_toArray, List.set_cons_succ, List.set_cons_zero]
    refine held_one 6 rfl (by kernel_rfl) rfl (fun K' hK' => ?_)
    refine wp_store_mid 46 (.tmp 2) (.tmp 15) rfl g 0 (itA it) rfl rfl (show y4.w.there g 0 49 by simpa using hbg.there (n := 49) (Nat.le_refl 49)) (by kernel_rfl) (it_all _) ?_
    have hqs : Q W1 (y4.w.setCells g 0 it.cells) := below_setCells hgn it.cells 0 W1 y4.w y4.q
    have hsc : Blk (y4.w.setCells g 0 it.cells) g 46 it.cells.toArray := by
      have := Blk.setCells it.cells 0 _ y4.w hbg (Nat.le_refl 49)
      rwa [splice_all _ _ (by rfl)] at this
    refine hK' _ _ ⟨⟨_, hqs⟩, rfl⟩ ?_
    clear hK' K'
    try simp only [Act.put, List.setIfInBounds_toArray, List.set_cons_succ, List.set_cons_zero]
    refine wpAnyH_done (by kernel_rfl) ?_ _
    exact REST2 g _ hqs hgn hsc
theorem small_any (w : World) (hT : Tab w) : Calls Tryz.prog 8 #[] w fun e w' => e = .returned (.bool true) ∧ Q w w' := small_walk smI smB smS (digOf smI) sm_ctx w hT
end Go.Proofs.YtomkeaeegdjhnaaGreatDoor.Known

namespace Go.Proofs.YtomkeaeegdjhnaaGreatDoor.Known
open Go.RowKit Grp Mem _root_.Go.Proofs.YtomkeaeegdjhnaaGreatDoor.Code Sha Sign _root_.Go.Proofs.YtomkeaeegdjhnaaGreatDoor.Item

instance : Inhabited ActR := ⟨act0⟩
abbrev facC : Found ActR → List Value := Found.cells ActR.cells
theorem fac_len (x : Found ActR) : (facC x).length = 22 := rfl
theorem fac_one (x : Found ActR) : ∀ v ∈ facC x, v.oneCell' = true := by
  intro v hv
  simp only [facC, Found.cells, ActR.cells, List.mem_cons, List.not_mem_nil, or_false] at hv
  rcases hv with rfl | rfl | rfl | rfl | rfl | rfl | rfl | rfl | rfl | rfl | rfl | rfl | rfl | rfl | rfl | rfl | rfl | rfl | rfl | rfl | rfl | rfl <;> rfl

set_option maxRecDepth 100000 in
set_option maxHeartbeats 1000000 in
/-- pick's comparison, at ballots: it lays blocks of its own alone. -/
theorem cmpAc_any (x y : Found ActR) (W : World) : Calls Tryz.prog 119 #[.agg (facC x).toArray, .agg (facC y).toArray] W fun e w' => e = .returned (.int .i64 (cmpF x y)) ∧ ∃ q os', w' = Go.Sort.grow (W.drewN q) os' := by
  have hci := fun W' => Tryz.cmp_Compare_int x.rank y.rank W'
  have hcs := fun W' => compareS_any x.dig y.dig W'
  have HR : Hid (cmpF x y = orI (Lib.compareInt x.rank y.rank) (cmpS x.dig y.dig)) := Lib.hid rfl
  generalize cmpF x y = r at HR ⊢
  have b1 := Blk.new W 158 (facC x).toArray
  have b2 := Blk.new' (g := W.heap.size + 1) (W.alloc (.cells (facC x).toArray 158)) 158 (facC y).toArray (by simp)
  have b1 := b1.q (q_new (W.alloc (.cells (facC x).toArray 158)) (facC y).toArray 158)
  obtain ⟨W1, hW1⟩ : ∃ W1, W1 = (W.alloc (.cells (facC x).toArray 158)).alloc (.cells (facC y).toArray 158) := ⟨_, rfl⟩
  rw [← hW1] at b1 b2
  have c0 : ∀ n, (W1.drewN n).cell? ⟨W.heap.size, 0, none⟩ = some (.int .i64 x.rank) := fun n => b1.cell 0
  have c1 : ∀ n, (W1.drewN n).cell? ⟨W.heap.size, 1, none⟩ = some (.string x.dig) := fun n => b1.cell 1
  have c2 : ∀ n, (W1.drewN n).cell? ⟨W.heap.size + 1, 0, none⟩ = some (.int .i64 y.rank) := fun n => b2.cell 0
  have c3 : ∀ n, (W1.drewN n).cell? ⟨W.heap.size + 1, 1, none⟩ = some (.string y.dig) := fun n => b2.cell 1
  have HX := Lib.hid hW1
  clear hW1 b1 b2
  generalize Lib.compareInt x.rank y.rank = ri at *
  generalize cmpS x.dig y.dig = rs at *
  go_enter Tryz.func119, Tryz.ntmps119
  go_upto_region 1 with (fail)
  refine (show Code.wp _ _ _ _ W1 → Code.wp _ _ _ _ _ from fun h => by rw [HX.out] at h; exact h) ?_
  refine wp_region_open (C := fun w' => ∃ n, w' = W1.drewN n) 10 (by kernel_rfl) (by kernel_rfl) ⟨1, rfl⟩ ?_
  simp only [List.take_succ_cons, List.take_zero]
  repeat (quiet_step (first | (go_at_call 121; exact Calls.quiet_of_same (hci _)) | (go_at_call 122; exact Calls.quiet_of_same (hcs _))))
  refine wpQuiet_nil ?_
  rintro w' ⟨n, rfl⟩
  have hb := Blk.new (W1.drewN n) 3 #[.int .i64 ri, .int .i64 rs]
  have hor := or_any (W1.drewN n).heap.size 0 2 ri rs _ (hb.cell 0) (hb.cell 1)
  have HE : Hid (∃ q os', (W1.drewN n).alloc (.cells #[.int .i64 ri, .int .i64 rs] 3) = Go.Sort.grow (W.drewN q) os') := Lib.hid ⟨n, _, by rw [HX.out]; exact grow3 W n _ _ _⟩
  clear hb
  refine any_one 10 rfl (by kernel_rfl) rfl (fun K' hK' => ?_)
  go_simp
  refine hK' _ _ ?_
  clear hK' K'
  try simp only [Act.put, List.setIfInBounds_toArray, List.set_cons_succ, List.set_cons_zero]
  refine any_one 11 rfl (by kernel_rfl) rfl (fun K' hK' => ?_)
  go_simp
  refine hor.mono ?_
  rintro e w2 ⟨rfl, rfl⟩
  refine hK' _ _ ?_
  clear hK' K' hor
  try simp only [Act.put, List.setIfInBounds_toArray, List.set_cons_succ, List.set_cons_zero]
  rw [← HR.out]
  refine any_pure 12 (v := .int .i64 r) rfl (by kernel_rfl) (by kernel_rfl) (by kernel_rfl) (by intro c d v a w h; cases d <;> exact h) rfl (fun w => by rfl) ?_
  try simp only [Act.put, List.setIfInBounds_toArray, List.set_cons_succ, List.set_cons_zero]
  refine any_done (by kernel_rfl) ?_ _
  go_wp2_with fail
  go_ret
  exact ⟨rfl, HE.out⟩


set_option maxRecDepth 100000 in
set_option maxHeartbeats 1000000 in
theorem stableAc_lt (g cap : Nat) (d : Array (Found ActR)) (w : World) (hH : Go.Sort.HoldsK facC 22 w g 0 d) (hg : g < w.heap.size) (hd : d.size < 20) :
    Calls Tryz.prog 118 #[.slice (some ⟨g, 0, none⟩) d.size cap, .func (.func 119) #[] #[]] w fun e w' => e = .returned (.tuple #[]) ∧ ∃ n os, w' = sortWorldK facC 22 w g 0 n (sortA d) os := by
  have hins : Calls Tryz.prog 221 #[.slice (some ⟨g, 0, none⟩) d.size cap, .int .i64 (0 : Nat), .int .i64 (d.size : Nat), .func (.func 119) #[] #[]] w fun e w' => e = .returned (.tuple #[]) ∧ ∃ n os, w' = sortWorldK facC 22 w g 0 n (sortA d) os :=
    AnyQ.insertionSortCmpFunc Tryz.insAct 22 Tryz.isAgg158 Tryz.sizeOf158 facC fac_len fac_one cmpF 119 #[] g 0 cap 0 d.size d w (enters_of Tryz.func119 (by kernel_rfl) rfl) (fun _ _ _ _ x y => cmpAc_any x y _) hH hg (Nat.zero_le _) (Nat.le_refl _) (by omega)
  have hst : Calls Tryz.prog 167 #[.slice (some ⟨g, 0, none⟩) d.size cap, .int .i64 (d.size : Nat), .func (.func 119) #[] #[]] w fun e w' => e = .returned (.tuple #[]) ∧ ∃ n os, w' = sortWorldK facC 22 w g 0 n (sortA d) os := by
    clear hH
    generalize sortA d = r at hins ⊢
    go_enter Tryz.func167, Tryz.ntmps167
    go_wp2_with fail
    refine wp_loop_rounds 1 ?_
    rw [rounds_succ]
    go_wp2_with (go_at_call 221; refine hins.mono ?_; rintro e w' ⟨rfl, n, os, rfl⟩)
    refine wp_loop_rounds 1 ?_
    rw [rounds_succ]
    go_wp2_with fail
    go_end0
    exact ⟨rfl, n, os, rfl⟩
  clear hins hH
  generalize sortA d = r at hst ⊢
  go_enter Tryz.func118, Tryz.ntmps118
  go_wp2_with (go_at_call 167; refine hst.mono ?_; rintro e w' ⟨rfl, n, os, rfl⟩)
  go_end0
  exact ⟨rfl, n, os, rfl⟩

set_option maxRecDepth 100000 in
set_option maxHeartbeats 1000000 in
theorem insEndAc (A : Option Addr) (cap : Nat) (w : World) :
    Calls Tryz.prog 221 #[.slice A 20 cap, .int .i64 20, .int .i64 20, .func (.func 119) #[] #[]] w fun e w' => e = .returned (.tuple #[]) ∧ w' = w := by
  go_enter Tryz.func221, Tryz.ntmps221
  go_wp2_with fail
  refine wp_loop_rounds 1 ?_
  rw [rounds_succ]
  go_wp2_with fail
  go_end0
  exact ⟨rfl, rfl⟩

set_option maxRecDepth 100000 in
set_option maxHeartbeats 1000000 in
theorem stableAc_eq (g cap : Nat) (d : Array (Found ActR)) (w : World) (hH : Go.Sort.HoldsK facC 22 w g 0 d) (hg : g < w.heap.size) (hd : d.size = 20) :
    Calls Tryz.prog 118 #[.slice (some ⟨g, 0, none⟩) d.size cap, .func (.func 119) #[] #[]] w fun e w' => e = .returned (.tuple #[]) ∧ ∃ n os, w' = sortWorldK facC 22 w g 0 n (sortA d) os := by
  have hins : Calls Tryz.prog 221 #[.slice (some ⟨g, 0, none⟩) d.size cap, .int .i64 (0 : Nat), .int .i64 (d.size : Nat), .func (.func 119) #[] #[]] w fun e w' => e = .returned (.tuple #[]) ∧ ∃ n os, w' = sortWorldK facC 22 w g 0 n (sortA d) os :=
    AnyQ.insertionSortCmpFunc Tryz.insAct 22 Tryz.isAgg158 Tryz.sizeOf158 facC fac_len fac_one cmpF 119 #[] g 0 cap 0 d.size d w (enters_of Tryz.func119 (by kernel_rfl) rfl) (fun _ _ _ _ x y => cmpAc_any x y _) hH hg (Nat.zero_le _) (Nat.le_refl _) (by omega)
  have hst : Calls Tryz.prog 167 #[.slice (some ⟨g, 0, none⟩) d.size cap, .int .i64 (d.size : Nat), .func (.func 119) #[] #[]] w fun e w' => e = .returned (.tuple #[]) ∧ ∃ n os, w' = sortWorldK facC 22 w g 0 n (sortA d) os := by
    clear hH
    generalize sortA d = r at hins ⊢
    rw [hd, show ((20 : Nat) : Int) = 20 from rfl, show ((0 : Nat) : Int) = 0 from rfl] at hins
    rw [hd, show ((20 : Nat) : Int) = 20 from rfl]
    go_enter Tryz.func167, Tryz.ntmps167
    go_wp2_with fail
    refine wp_loop_rounds 2 ?_
    rw [rounds_succ]
    go_wp2_with (go_at_call 221; refine hins.mono ?_; rintro e w' ⟨rfl, n, os, rfl⟩)
    rw [rounds_succ]
    go_wp2_with (go_at_call 221; refine (insEndAc _ _ _).mono ?_; rintro e w' ⟨rfl, rfl⟩)
    refine wp_loop_rounds 1 ?_
    rw [rounds_succ]
    go_wp2_with fail
    go_end0
    exact ⟨rfl, n, os, rfl⟩
  clear hins hH
  generalize sortA d = r at hst ⊢
  have hd' : d.size ≤ 20 := by omega
  clear hd
  go_enter Tryz.func118, Tryz.ntmps118
  go_wp2_with (go_at_call 167; refine hst.mono ?_; rintro e w' ⟨rfl, n, os, rfl⟩)
  go_end0
  exact ⟨rfl, n, os, rfl⟩

theorem stableAc_any (g cap : Nat) (d : Array (Found ActR)) (w : World) (hH : Go.Sort.HoldsK facC 22 w g 0 d) (hg : g < w.heap.size) (hd : d.size ≤ 20) :
    Calls Tryz.prog 118 #[.slice (some ⟨g, 0, none⟩) d.size cap, .func (.func 119) #[] #[]] w fun e w' => e = .returned (.tuple #[]) ∧ ∃ n os, w' = sortWorldK facC 22 w g 0 n (sortA d) os := by
  rcases Nat.lt_or_eq_of_le hd with h | h
  · exact stableAc_lt g cap d w hH hg h
  · exact stableAc_eq g cap d w hH hg h

set_option maxRecDepth 100000 in
set_option maxHeartbeats 1000000 in
theorem stableAc_nil (w : World) :
    Calls Tryz.prog 118 #[.slice none 0 0, .func (.func 119) #[] #[]] w fun e w' => e = .returned (.tuple #[]) ∧ w' = w := by
  have hins : Calls Tryz.prog 221 #[.slice none 0 0, .int .i64 0, .int .i64 0, .func (.func 119) #[] #[]] w fun e w' => e = .returned (.tuple #[]) ∧ w' = w := by
    go_enter Tryz.func221, Tryz.ntmps221
    go_wp2_with fail
    refine wp_loop_rounds 1 ?_
    rw [rounds_succ]
    go_wp2_with fail
    go_end0
    exact ⟨rfl, rfl⟩
  have hst : Calls Tryz.prog 167 #[.slice none 0 0, .int .i64 0, .func (.func 119) #[] #[]] w fun e w' => e = .returned (.tuple #[]) ∧ w' = w := by
    go_enter Tryz.func167, Tryz.ntmps167
    go_wp2_with fail
    refine wp_loop_rounds 1 ?_
    rw [rounds_succ]
    go_wp2_with (go_at_call 221; refine hins.mono ?_; rintro e w' ⟨rfl, hw⟩; rw [hw])
    refine wp_loop_rounds 1 ?_
    rw [rounds_succ]
    go_wp2_with fail
    go_end0
    exact ⟨rfl, rfl⟩
  go_enter Tryz.func118, Tryz.ntmps118
  go_wp2_with (go_at_call 167; refine hst.mono ?_; rintro e w' ⟨rfl, hw⟩; rw [hw])
  go_end0
  exact ⟨rfl, rfl⟩

/-- Is an item wanted? -/
def wantAc (key : ByteArray) (x : ItemR) : Bool := decide (x.kind = 0) && decide (x.act.author = key)
structure WantFAc (w : World) (x : ItemR) (w' : World) : Prop where
  q : Q w w'
  it : Blk w' w.heap.size 46 x.cells.toArray
  r : ∃ cs : List Value, cs.length = 20 ∧ Blk w' (w.heap.size + 1) 38 cs.toArray
structure WantWAc (w0 : World) (x : ItemR) where
  w : World
  f : WantFAc w0 x w
set_option maxRecDepth 100000 in
set_option maxHeartbeats 2000000 in
theorem wantAc_any (p1 : Nat) (key : ByteArray) (x : ItemR) (w : World) (h1 : w.cell? ⟨p1, 0, none⟩ = some (.string key)) (hp1 : p1 < w.heap.size) :
    Calls Tryz.prog 65 #[.agg (itA x), .pointer (some ⟨p1, 0, none⟩)] w fun e w' => e = .returned (.tuple #[.agg (actA x.act), .int .i64 x.act.seq, .bool (wantAc key x)]) ∧ Q w w' := by
  have hbi := Blk.new w 46 (itA x)
  have hq1 := q_new w (itA x) 46
  have hbr := Blk.new' (g := w.heap.size + 1) (w.alloc (.cells (itA x) 46)) 38 (actA act0) (by simp)
  have hq2 := q_new (w.alloc (.cells (itA x) 46)) (actA act0) 38
  have hbi := hbi.q hq2
  have hq := Q.trans hq1 hq2
  clear hq1 hq2
  obtain ⟨w2, hw2⟩ : ∃ w2, w2 = (w.alloc (.cells (itA x) 46)).alloc (.cells (actA act0) 38) := ⟨_, rfl⟩
  rw [← hw2] at hbi hbr hq
  have hw2s : w2.heap.size = w.heap.size + 1 + 1 := by rw [hw2]; simp
  have hLd : ∀ y : Wd w2, (Instr.loadAt 38 (.pointer (some ⟨w.heap.size, 1, none⟩))).run Tryz.prog y.w = .ok (.agg (actA x.act)) y.w := item_act hbi.lt (Blk.range hbi)
  have HX := Lib.hid hw2
  clear hw2
  go_enter Tryz.func65, Tryz.ntmps65
  go_upto_region 1 with (fail)
  refine (show Code.wp _ _ _ _ w2 → Code.wp _ _ _ _ _ from fun h => by rw [HX.out] at h; exact h) ?_
  have hF : WantFAc w x w2 := ⟨hq, hbi, act0.cells, rfl, hbr⟩
  clear hbr hq HX hw2s hLd
  have hFd : ∃ y : WantWAc w x, ({ w2 with drawn := w2.drawn + 1 } : World) = y.w := ⟨⟨_, ⟨hF.q.drew, hF.it, hF.r⟩⟩, rfl⟩
  have cK : ∀ y : WantWAc w x, y.w.cell? ⟨w.heap.size, 0, none⟩ = some (.int .i64 x.kind) := fun y => y.f.it.cell 0
  have cA : ∀ y : WantWAc w x, y.w.cell? ⟨w.heap.size, 1, none⟩ = some (.string x.act.author) := fun y => y.f.it.cell 1
  have cR : ∀ y : WantWAc w x, y.w.cell? ⟨w.heap.size, 2, none⟩ = some (.int .i64 x.act.seq) := fun y => y.f.it.cell 2
  have c1 : ∀ y : WantWAc w x, y.w.cell? ⟨p1, 0, none⟩ = some (.string key) := fun y => (y.f.q.cell (p := ⟨p1, 0, none⟩) hp1).trans h1
  have hLb : ∀ z, (∃ y : WantWAc w x, z = y.w) → (Instr.loadAt 38 (.pointer (some ⟨w.heap.size, 1, none⟩))).run Tryz.prog z = .ok (.agg (actA x.act)) z := by
    rintro z ⟨y, rfl⟩
    exact item_act (w1 := y.w) y.f.it.lt (Blk.range y.f.it) ⟨y.w, Q.refl _⟩
  have HR : Hid (wantAc key x = (decide (x.kind = 0) && decide (x.act.author = key))) := Lib.hid rfl
  haveI hNE : Nonempty (WantWAc w x) := ⟨⟨w2, hF⟩⟩
  clear hF h1 hbi
  by_cases hk : x.kind = 0
  · rw [decide_eq_true hk, Bool.true_and] at HR
    refine wp_region_reads (S := fun w' => ∃ y : WantWAc w x, w' = y.w) 15 (by kernel_rfl) (by kernel_rfl) (by intro c a d v w h; cases d <;> exact h) hFd ?_
    simp only [List.take_succ_cons, List.take_zero]
    go_big_quiet_step (fail)
    refine wpQuiet_load_S 38 (.tmp 6) (.pointer (some ⟨w.heap.size, 1, none⟩)) (.agg (actA x.act)) rfl rfl rfl hLb ?_
    dsimp only [Act.put]
    simp only [List.setIfInBounds_toArray, List.set_cons_succ, List.set_cons_zero]
    repeat (go_big_quiet_step (fail))
    refine wpQuiet_nil ?_
    rintro w' ⟨y, rfl⟩
    obtain ⟨cs, hcs, hbr⟩ := y.f.r
    refine held_one 15 rfl (by kernel_rfl) rfl (fun K' hK' => ?_)
    refine wp_store_mid 38 (.tmp 3) (.tmp 7) rfl (w.heap.size + 1) 0 (actA x.act) rfl rfl (show y.w.there (w.heap.size + 1) 0 20 by simpa using hbr.there (n := 20) (Nat.le_of_eq hcs.symm)) (by kernel_rfl) (act_all _) ?_
    have hsc : Blk (y.w.setCells (w.heap.size + 1) 0 x.act.cells) (w.heap.size + 1) 38 x.act.cells.toArray := by
      have := Blk.setCells x.act.cells 0 _ y.w hbr (Nat.le_of_eq (by rw [hcs]; rfl))
      rwa [splice_all _ _ (by rw [hcs]; rfl)] at this
    have hfar := fun b (hne : b ≠ w.heap.size + 1) => setCells_far (g := w.heap.size + 1) hne x.act.cells 0 y.w
    have hqs : Q w (y.w.setCells (w.heap.size + 1) 0 x.act.cells) := below_setCells (Nat.le_succ _) x.act.cells 0 w y.w y.f.q
    have hFN : WantFAc w x (y.w.setCells (w.heap.size + 1) 0 x.act.cells) := ⟨hqs, (hfar _ (by omega)).trans y.f.it, x.act.cells, rfl, hsc⟩
    refine hK' _ _ ⟨⟨_, hFN⟩, rfl⟩ ?_
    clear hK' K' hbr hfar
    have HZ := Lib.hid hsc
    have HQ := Lib.hid hqs
    clear hsc hqs
    simp only [Act.put, List.setIfInBounds_toArray, List.set_cons_succ, List.set_cons_zero]
    refine held_pure 16 (v := .int .i64 x.act.seq) rfl (by kernel_rfl) (by kernel_rfl) (by kernel_rfl) (by intro c a d v w h; cases d <;> exact h) rfl ⟨⟨_, hFN⟩, rfl⟩ (fun w => by rfl) ?_
    simp only [Act.put, List.setIfInBounds_toArray, List.set_cons_succ, List.set_cons_zero]
    refine held_pure 17 (v := .bool (x.act.author.toList == key.toList)) rfl (by kernel_rfl) (by kernel_rfl) (by kernel_rfl) (by intro c a d v w h; cases d <;> exact h) rfl ⟨⟨_, hFN⟩, rfl⟩ (fun w => by rfl) ?_
    simp only [Act.put, List.setIfInBounds_toArray, List.set_cons_succ, List.set_cons_zero]
    refine wpAnyH_done (by kernel_rfl) ?_ _
    go_wp2_with fail
    exact bodyPost_ret (results_row_tmp2 rfl _ _ (w.heap.size + 1) 38 (actA x.act) (0, 0) _ _ _ rfl rfl rfl HZ.out Tryz.underlying38 rfl (by kernel_rfl)) rfl ⟨by rw [HR.out, ← beq_str]; rfl, HQ.out⟩
  · rw [decide_eq_false hk, Bool.false_and] at HR
    have hkb : (x.kind == 0) = false := by simpa using hk
    refine wp_region_reads (S := fun w' => ∃ y : WantWAc w x, w' = y.w) 15 (by kernel_rfl) (by kernel_rfl) (by intro c a d v w h; cases d <;> exact h) hFd ?_
    simp only [List.take_succ_cons, List.take_zero]
    go_big_quiet_step (fail)
    refine wpQuiet_load_S 38 (.tmp 6) (.pointer (some ⟨w.heap.size, 1, none⟩)) (.agg (actA x.act)) rfl rfl rfl hLb ?_
    dsimp only [Act.put]
    simp only [List.setIfInBounds_toArray, List.set_cons_succ, List.set_cons_zero]
    repeat (go_big_quiet_step (fail))
    refine wpQuiet_nil ?_
    rintro w' ⟨y, rfl⟩
    obtain ⟨cs, hcs, hbr⟩ := y.f.r
    refine held_one 15 rfl (by kernel_rfl) rfl (fun K' hK' => ?_)
    refine wp_store_mid 38 (.tmp 3) (.tmp 7) rfl (w.heap.size + 1) 0 (actA x.act) rfl rfl (show y.w.there (w.heap.size + 1) 0 20 by simpa using hbr.there (n := 20) (Nat.le_of_eq hcs.symm)) (by kernel_rfl) (act_all _) ?_
    have hsc : Blk (y.w.setCells (w.heap.size + 1) 0 x.act.cells) (w.heap.size + 1) 38 x.act.cells.toArray := by
      have := Blk.setCells x.act.cells 0 _ y.w hbr (Nat.le_of_eq (by rw [hcs]; rfl))
      rwa [splice_all _ _ (by rw [hcs]; rfl)] at this
    have hfar := fun b (hne : b ≠ w.heap.size + 1) => setCells_far (g := w.heap.size + 1) hne x.act.cells 0 y.w
    have hqs : Q w (y.w.setCells (w.heap.size + 1) 0 x.act.cells) := below_setCells (Nat.le_succ _) x.act.cells 0 w y.w y.f.q
    have hFN : WantFAc w x (y.w.setCells (w.heap.size + 1) 0 x.act.cells) := ⟨hqs, (hfar _ (by omega)).trans y.f.it, x.act.cells, rfl, hsc⟩
    refine hK' _ _ ⟨⟨_, hFN⟩, rfl⟩ ?_
    clear hK' K' hbr hfar
    have HZ := Lib.hid hsc
    have HQ := Lib.hid hqs
    clear hsc hqs
    simp only [Act.put, List.setIfInBounds_toArray, List.set_cons_succ, List.set_cons_zero]
    refine held_pure 16 (v := .int .i64 x.act.seq) rfl (by kernel_rfl) (by kernel_rfl) (by kernel_rfl) (by intro c a d v w h; cases d <;> exact h) rfl ⟨⟨_, hFN⟩, rfl⟩ (fun w => by rfl) ?_
    simp only [Act.put, List.setIfInBounds_toArray, List.set_cons_succ, List.set_cons_zero]
    refine held_pure 17 (v := .bool false) rfl (by kernel_rfl) (by kernel_rfl) (by kernel_rfl) (by intro c a d v w h; cases d <;> exact h) rfl ⟨⟨_, hFN⟩, rfl⟩ (fun w => by rfl) ?_
    simp only [Act.put, List.setIfInBounds_toArray, List.set_cons_succ, List.set_cons_zero]
    refine wpAnyH_done (by kernel_rfl) ?_ _
    go_wp2_with fail
    exact bodyPost_ret (results_row_tmp2 rfl _ _ (w.heap.size + 1) 38 (actA x.act) (0, 0) _ _ _ rfl rfl rfl HZ.out Tryz.underlying38 rfl (by kernel_rfl)) rfl ⟨by rw [HR.out]; rfl, HQ.out⟩

def foundAc (x : ItemR) : Found ActR := ⟨x.act.seq, digOf x, x.act⟩
def takeAc (key : ByteArray) (l : List ItemR) : List (Found ActR) := (l.filter fun x => wantAc key x && itemRight x).map foundAc
theorem takeAc_step (key : ByteArray) (l : List ItemR) (j : Nat) (h : j < l.length) : takeAc key (l.take (j + 1)) = takeAc key (l.take j) ++ if wantAc key l[j] && itemRight l[j] then [foundAc l[j]] else [] := by
  unfold takeAc
  rw [List.take_succ_eq_append_getElem h, List.filter_append, List.map_append]
  congr 1
  cases hw : wantAc key l[j] && itemRight l[j] <;> simp [List.filter, hw]
theorem takeAc_le (key : ByteArray) (l : List ItemR) (j : Nat) : (takeAc key (l.take j)).length ≤ j := by
  unfold takeAc
  rw [List.length_map]
  refine Nat.le_trans (List.length_filter_le _ _) ?_
  rw [List.length_take]
  omega
def sortAc (l : List (Found ActR)) : List (Found ActR) := (sortA l.toArray).toList
def listAc (key : ByteArray) (l : List ItemR) : List ActR := (sortAc (takeAc key l)).map (·.val)
theorem sortAc_length (l : List (Found ActR)) : (sortAc l).length = l.length := by
  unfold sortAc sortA Go.Sort.insertionSort
  rw [Array.length_toList, size_insO _ _ _ _ _ _ rfl, List.size_toArray]

theorem sortAc_nil : sortAc [] = [] := List.length_eq_zero_iff.1 (sortAc_length [])
/-- The sort, of an own row. -/
theorem sortedAc_any (A : Option Addr) (c m base : Nat) (l : List (Found ActR)) (w : World) (hm : m = l.length) (h20 : m ≤ 20) (h : Owns w base 158 22 (.slice A m c) m (l.flatMap facC)) (hB : base ≤ w.heap.size) :
    Calls Tryz.prog 118 #[.slice A m c, .func (.func 119) #[] #[]] w fun e w' => e = .returned (.tuple #[]) ∧ (RowsAt w' A 22 facC (sortAc l) ∧ Below base w w') := by
  rcases h.2 with ⟨e1, h0⟩ | ⟨g, cap, cur, fz, hv, hb, hg, _⟩
  · injection e1 with hA _ hc
    subst hA hc
    have hl : l = [] := List.length_eq_zero_iff.1 (by omega)
    subst hl
    subst hm
    refine (stableAc_nil w).mono ?_
    rintro e w' ⟨rfl, rfl⟩
    exact ⟨rfl, by rw [sortAc_nil]; exact RowsAt.nil _ _ _ _, Below.refl _ _⟩
  · injection hv with hA _ hc
    subst hA
    rcases Nat.eq_zero_or_pos m with h0 | h0
    · have hl : l = [] := List.length_eq_zero_iff.1 (by omega)
      subst hl
      have hH : Go.Sort.HoldsK facC 22 w g 0 (#[] : Array (Found ActR)) := fun t ht => by rw [Go.Sort.size_flatK] at ht; simp at ht
      have := stableAc_any g c #[] w hH (Array.getElem?_eq_some_iff.1 hg).1 (by simp)
      subst hm
      refine this.mono ?_
      rintro e w' ⟨rfl, n, os, rfl⟩
      exact ⟨rfl, by rw [sortAc_nil]; exact RowsAt.nil _ _ _ _, below_sort (Below.refl _ _) hb hB⟩
    · obtain ⟨hH, hb', hg'⟩ := holds_of fac_len h hm h0
      subst hm
      have hs : (l.toArray).size = l.length := by simp
      have hsa : (sortA l.toArray).size = l.toArray.size := by
        unfold sortA Go.Sort.insertionSort
        rw [size_insO _ _ _ _ _ _ rfl]
      have := stableAc_any g c l.toArray w hH hg' (by rw [hs]; exact h20)
      rw [hs] at this
      refine this.mono ?_
      rintro e w' ⟨rfl, n, os, rfl⟩
      refine ⟨rfl, rows_of fac_len (holdsK_sortWorldK_c facC 22 w g 0 l.toArray _ n os hH hg' hsa) ?_, below_sort (Below.refl _ _) hb hB⟩
      exact Nat.lt_of_lt_of_le hg' (size_sortWorldK_c facC 22 w g 0 n _ os)

theorem foundAc_info : (Tryz.prog.info? 158).map (fun i => (i.zero, i.size, i.bytes)) = some (some (.agg (facC default).toArray), 22, 288) := by kernel_rfl
theorem valAc_info : (Tryz.prog.info? 38).map (fun i => (i.zero, i.size, i.bytes)) = some (some (.agg (actA act0)), 20, 264) := by kernel_rfl
theorem fac_all (x : Found ActR) : (facC x).toArray.all (·.oneCell') = true := by
  rw [Array.all_eq_true_iff_forall_mem]
  intro v hv
  exact fac_one x v (by simpa using hv)
theorem buildAc_found (n : Int) (d : ByteArray) (b : ActR) (w : World) : (Instr.build 158 #[(0, .int .i64 n), (1, .string d), (2, .agg (actA b))]).run Tryz.prog w = .ok (.agg (facC ⟨n, d, b⟩).toArray) w := by kernel_rfl
theorem bsAc_found (x : Found ActR) (w : World) : (Instr.buildSlice 155 1 #[(0, .agg (facC x).toArray)]).run Tryz.prog w = .ok (.slice (some ⟨w.heap.size, 0, none⟩) 1 1) (w.alloc (.cells (facC x).toArray 158)) := by kernel_rfl
theorem bsAc_val (x : ActR) (w : World) : (Instr.buildSlice 49 1 #[(0, .agg (actA x))]).run Tryz.prog w = .ok (.slice (some ⟨w.heap.size, 0, none⟩) 1 1) (w.alloc (.cells (actA x) 38)) := by kernel_rfl
theorem valAc_len (x : ActR) : x.cells.length = 20 := rfl
theorem valAc_one (x : ActR) : ∀ v ∈ x.cells, v.oneCell' = true := by
  have := act_all x
  rw [Array.all_eq_true_iff_forall_mem] at this
  intro v hv
  exact this v (by simpa using hv)

/-- What hands back a list of ballots. -/
def ListAcAre (l : List ActR) (w : World) (e : Ending) (w' : World) : Prop := ∃ (A : Option Addr) (c : Nat), e = .returned (.slice A l.length c) ∧ l.length ≤ c ∧ c ≤ maxLen ∧ RowsAt w' A 20 ActR.cells l ∧ Q w w'
set_option maxRecDepth 100000 in
set_option maxHeartbeats 2000000 in
theorem pickAc_any (k : KR) (p1 : Nat) (key : ByteArray) (w : World) (hT : Tab w) (hK : KIn w k) (h1 : w.cell? ⟨p1, 0, none⟩ = some (.string key)) (hp1 : p1 < w.heap.size) (hn : k.l.length ≤ 20) :
    Calls Tryz.prog 64 #[.agg (knA k), .func (.func 65) #[] #[.pointer (some ⟨p1, 0, none⟩)]] w (ListAcAre (listAc key k.l) w) := by
  obtain ⟨w1, x, hx, hq1, hbk⟩ := boxedB w 25 k.cells
  have hx : w.alloc (.cells (knA k) 25) = x.w := hx
  have cI : ∀ y : Wd w1, y.w.cell? ⟨w.heap.size, 1, none⟩ = some (.slice k.iA k.l.length k.iC) := fun y => (y.blk hbk).cell 1
  have hKy : ∀ y : Wd w1, KIn y.w k := fun y => hK.q (Q.trans hq1 y.q)
  have hTy : ∀ y : Wd w1, Tab y.w := fun y => hT.q (Q.trans hq1 y.q)
  have hW1 : ∀ y : Wd w1, y.w.cell? ⟨p1, 0, none⟩ = some (.string key) := fun y => ((Q.trans hq1 y.q).cell (p := ⟨p1, 0, none⟩) hp1).trans h1
  have hP1 : ∀ y : Wd w1, p1 < y.w.heap.size := fun y => Nat.lt_of_lt_of_le hp1 (Q.trans hq1 y.q).size
  have HQ := Lib.hid hq1
  obtain ⟨i0, hi, hz0, hz1, hz2⟩ := info_parts foundAc_info
  obtain ⟨j0, hji, hy0, hy1, hy2⟩ := info_parts valAc_info
  have e99 : ∀ args w, (callFunc 65 args).run Tryz.prog w = .ok (.enter 65 args) w := enters_of Tryz.func65 (by kernel_rfl) rfl
  clear hbk hq1 h1 hp1
  go_enter Tryz.func64, Tryz.ntmps64
  go_wp2_with fail
  go_loopw [5, 17] (fun a i wr => ∃ (j c m : Nat) (A : Option Addr) (z : Wd w1), a = .slice A m c ∧ i = .int .i64 j ∧ wr = z.w ∧ j ≤ k.l.length ∧ m ≤ j ∧ m ≤ c ∧ c ≤ maxLen ∧ Hid (m = (takeAc key (k.l.take j)).length) ∧ Owns z.w w1.heap.size 158 22 (.slice A m c) m ((takeAc key (k.l.take j)).flatMap facC)) (fun _ i _ => k.l.length - (intOf i).toNat)
  case atStart => exact ⟨0, 0, 0, none, x, rfl, rfl, rfl, Nat.zero_le _, Nat.zero_le _, Nat.zero_le _, Nat.zero_le _, Lib.hid rfl, Owns.nil_ _ _ _ _⟩
  case round =>
    obtain ⟨j, c, m, A, z, rfl, rfl, rfl, hj, hmj, hmc, hcm, hm, hown⟩ := hrel
    by_cases hlt : j < k.l.length
    · obtain ⟨b, o, eA, hb, hld⟩ := (hKy z).items.load j hlt
      have hio := fun y : Wd z.w => ((hKy z).items.each _ (List.getElem_mem hlt)).q y.q
      rw [eA]
      have hTz : ∀ y : Wd z.w, Tab y.w := fun y => hTy ⟨y.w, Q.trans z.q y.q⟩
      have hzs := z.q.size
      have HTS := Lib.hid (takeAc_step key k.l j hlt)
      generalize k.l[j] = it at *
      go_wp2_with (first | (refine wpList_load_run 46 (.tmp 19) (.pointer (some ⟨b, o + j * 49, none⟩)) (.agg (itA it)) ?_ ?_ ?_ ?_ ?_; rfl; rfl; rfl; exact hld ⟨_, Q.refl _⟩) | (refine wpList_store_blk (Blk.new z.w 46 item0.cells.toArray) rfl 46 (.tmp 7) (.tmp 20) it.cells rfl rfl rfl (by kernel_rfl) (it_all _) (Nat.le_refl 49) ?_))
      intro W hW hbel
      rw [splice_all _ _ (by rfl)] at hW
      have hqz : Q z.w W := hbel _ _ (Nat.le_refl _) (q_new _ _ _)
      have hq3 : Q w1 W := Q.trans z.q hqz
      have hLi : ∀ y : Wd W, (Instr.loadAt 46 (.pointer (some ⟨z.w.heap.size, 0, none⟩))).run Tryz.prog y.w = .ok (.agg (itA it)) y.w := Wd.load hW.lt (Blk.range hW) Tryz.underlying46 rfl (by kernel_rfl)
      have hcl : ∀ y : Wd W, Calls Tryz.prog 65 #[.agg (itA it), .pointer (some ⟨p1, 0, none⟩)] y.w fun e w' => e = .returned (.tuple #[.agg (actA it.act), .int .i64 it.act.seq, .bool (wantAc key it)]) ∧ Q y.w w' := fun y => wantAc_any p1 key it y.w (hW1 ⟨y.w, Q.trans hq3 y.q⟩) (hP1 ⟨y.w, Q.trans hq3 y.q⟩)
      have hWs := hq3.size
      obtain ⟨v, hv⟩ := Wd.first W
      rw [hv]
      clear hbel hld hv eA hb cI hW1 hP1
      generalize hwt : wantAc key it = wt at *
      go_wp2_with (first | (refine wpList_load_run 46 (.tmp 7) (.pointer (some ⟨z.w.heap.size, 0, none⟩)) (.agg (itA it)) ?_ ?_ ?_ ?_ ?_; rfl; rfl; rfl; exact hLi _) | (go_at_fn 65; refine (hcl _).mono ?_; rintro e w' ⟨rfl, hq2⟩; obtain ⟨y, rfl⟩ := Wd.next _ hq2; clear hq2) | (refine wpList_store_blk (Blk.new y.w 38 act0.cells.toArray) rfl 38 (.tmp 8) (.tmp 25) it.act.cells rfl rfl rfl (by kernel_rfl) (act_all _) (Nat.le_refl 20) ?_))
      intro W2 hB2 hbel2
      rw [splice_all _ _ (by rfl)] at hB2
      have hqy : Q W W2 := hbel2 _ _ y.q.size (Q.trans y.q (q_new _ _ _))
      have hq4 : Q w1 W2 := Q.trans hq3 hqy
      have hLi2 : ∀ y : Wd W2, (Instr.loadAt 46 (.pointer (some ⟨z.w.heap.size, 0, none⟩))).run Tryz.prog y.w = .ok (.agg (itA it)) y.w := fun y => hLi ⟨y.w, Q.trans hqy y.q⟩
      have hLb2 : ∀ u : Wd W2, (Instr.loadAt 38 (.pointer (some ⟨y.w.heap.size, 0, none⟩))).run Tryz.prog u.w = .ok (.agg (actA it.act)) u.w := Wd.load hB2.lt (Blk.range hB2) Tryz.underlying38 rfl (by kernel_rfl)
      have hIi : ∀ u : Wd W2, ItemIn u.w it := fun u => hio ⟨u.w, Q.trans (Q.trans hqz hqy) u.q⟩
      have hdg2 : ∀ u : Wd W2, Calls Tryz.prog 48 #[.agg (itA it)] u.w fun e w' => e = .returned (.string (digOf it)) ∧ Q u.w w' := fun u => digest_any it u.w (hTz ⟨u.w, Q.trans (Q.trans hqz hqy) u.q⟩) (hIi u)
      have hownW : ∀ u : Wd W2, Owns u.w w1.heap.size 158 22 (.slice A m c) m ((takeAc key (k.l.take j)).flatMap facC) := fun u => hown.q (Q.trans (Q.trans hqz hqy) u.q)
      have hrg : ∀ (r : Bool), itemRight it = r → ∀ u : Wd W2, Calls Tryz.prog 37 #[.agg (itA it)] u.w fun e w' => e = .returned (.bool r) ∧ Q u.w w' := fun r hr u => right_at it r u.w (hIi u) hr
      have HQ4 := Lib.hid hq4
      have hWs2 := hq4.size
      obtain ⟨u, hu⟩ := Wd.first W2
      rw [hu]
      clear hbel2 hu hqy hq4 hq3 hqz hLi hcl hio hTz hown hTy hW hB2
      cases wt
      · have HTE := Lib.hid (show takeAc key (k.l.take (j + 1)) = takeAc key (k.l.take j) by rw [HTS.out]; simp)
        go_wp2_with fail
        exact ⟨⟨j + 1, c, m, A, ⟨u.w, Q.trans HQ4.out u.q⟩, rfl, by go_num, rfl, by omega, by omega, hmc, hcm, Lib.hid (by rw [HTE.out]; exact hm.out), by rw [HTE.out]; exact hownW u⟩, by simp only [intOf]; omega⟩
      · cases hr : itemRight it
        · have HTE := Lib.hid (show takeAc key (k.l.take (j + 1)) = takeAc key (k.l.take j) by rw [HTS.out, hr]; simp)
          have hrg0 := hrg false hr
          clear hrg hr
          go_wp2_with (first | (refine wpList_load_run 46 (.tmp 7) (.pointer (some ⟨z.w.heap.size, 0, none⟩)) (.agg (itA it)) ?_ ?_ ?_ ?_ ?_; rfl; rfl; rfl; exact hLi2 _) | (go_at_call 37; refine (hrg0 _).mono ?_; rintro e w' ⟨rfl, hq2⟩; obtain ⟨t, rfl⟩ := Wd.next _ hq2; clear hq2))
          exact ⟨⟨j + 1, c, m, A, ⟨t.w, Q.trans HQ4.out t.q⟩, rfl, by go_num, rfl, by omega, by omega, hmc, hcm, Lib.hid (by rw [HTE.out]; exact hm.out), by rw [HTE.out]; exact hownW t⟩, by simp only [intOf]; omega⟩
        · have HTE := Lib.hid (show takeAc key (k.l.take (j + 1)) = takeAc key (k.l.take j) ++ [foundAc it] by rw [HTS.out, hr]; simp)
          have hrg0 := hrg true hr
          clear hrg hr
          go_wp2_with (first | (refine wpList_load_run 46 (.tmp 7) (.pointer (some ⟨z.w.heap.size, 0, none⟩)) (.agg (itA it)) ?_ ?_ ?_ ?_ ?_; rfl; rfl; rfl; exact hLi2 _) | (go_at_call 37; refine (hrg0 _).mono ?_; rintro e w' ⟨rfl, hq2⟩; obtain ⟨t, rfl⟩ := Wd.next _ hq2; clear hq2))
          refine wp_region_wd_parts t 2 6 (by kernel_rfl) (by kernel_rfl) (by intro c d v a w h; cases d <;> exact h) ?_
          simp only [List.take_succ_cons, List.take_zero, List.drop_succ_cons, List.drop_zero]
          refine wpPure_move (.tmp 5) (.slice A m c) rfl rfl rfl ?_
          dsimp only [Act.put]
          simp only [List.setIfInBounds_toArray, List.set_cons_succ, List.set_cons_zero]
          refine wpPure_move (.tmp 9) (.int .i64 it.act.seq) rfl rfl rfl ?_
          dsimp only [Act.put]
          simp only [List.setIfInBounds_toArray, List.set_cons_succ, List.set_cons_zero]
          refine wpPure_nil ?_
          refine wpQuiet_load_run 46 (.tmp 7) (.pointer (some ⟨z.w.heap.size, 0, none⟩)) (.agg (itA it)) rfl rfl rfl hLi2 ?_
          dsimp only [Act.put]
          simp only [List.setIfInBounds_toArray, List.set_cons_succ, List.set_cons_zero]
          go_big_quiet_step (first | (go_at_call 48; exact Wd.call _ (hdg2 _)))
          refine wpQuiet_load_run 38 (.tmp 8) (.pointer (some ⟨y.w.heap.size, 0, none⟩)) (.agg (actA it.act)) rfl rfl rfl hLb2 ?_
          dsimp only [Act.put]
          simp only [List.setIfInBounds_toArray, List.set_cons_succ, List.set_cons_zero]
          refine wpQuiet_build_run 158 _ #[(0, .int .i64 it.act.seq), (1, .string (digOf it)), (2, .agg (actA it.act))] _ rfl rfl (by simp only [List.map_toArray, List.map_cons, List.map_nil]; rfl) (buildAc_found (it.act.seq) (digOf it) it.act) ?_
          dsimp only [Act.put]
          simp only [List.setIfInBounds_toArray, List.set_cons_succ, List.set_cons_zero]
          refine wpQuiet_nil ?_
          rintro w6 ⟨t2, rfl⟩
          refine wpList_buildSlice_run 155 1 _ #[(0, .agg (facC (foundAc it)).toArray)] _ rfl rfl (by simp only [List.map_toArray, List.map_cons, List.map_nil]; rfl) (bsAc_found (foundAc it) _) ?_
          dsimp only [Act.put]
          simp only [List.setIfInBounds_toArray, List.set_cons_succ, List.set_cons_zero]
          refine wpList_append_rows fac_len fac_one rfl (.tmp 33) (.tmp 39) 155 158 i0 _ 288 rfl Tryz.underlying155 hi hz0 hz1 hz2 rfl (by decide) (by decide) w1.heap.size (.slice A m c) m (takeAc key (k.l.take j)) rfl ((hownW t2).alloc (.cells (facC (foundAc it)).toArray 158)) (some ⟨t2.w.heap.size, 0, none⟩) 1 1 [foundAc it] rfl (RowsAt.one t2.w 158 (foundAc it) _ rfl) rfl (by omega) (by have := t2.q.size; simp; omega) ?_
          intro A5 c5 w5 hc5 hm5 hown5 hg5
          have hq5 : Q w1 w5 := q_grown (Q.trans (Q.trans HQ4.out t2.q) (q_new _ _ _)) (Nat.le_refl _) ((hownW t2).alloc _) hg5
          obtain ⟨y5, rfl⟩ : ∃ y5 : Wd w1, w5 = y5.w := ⟨⟨w5, hq5⟩, rfl⟩
          rw [← HTE.out] at hown5
          have HM5 : Hid (m + 1 = (takeAc key (k.l.take (j + 1))).length) := Lib.hid (by rw [HTE.out, List.length_append, ← hm.out]; rfl)
          clear hownW hg5 hq5 hdg2 hLi2 hLb2 hIi hrg0
          go_wp2_with fail
          exact ⟨⟨j + 1, c5, m + 1, A5, y5, rfl, by go_num, rfl, by omega, by omega, hc5, hm5, HM5, hown5⟩, by simp only [intOf]; omega⟩
    · have hjn : j = k.l.length := by omega
      have hm := hm.out
      rw [hjn, List.take_length] at hown hm
      have hm20 : m ≤ 20 := by omega
      have hso := sortedAc_any A c m w1.heap.size (takeAc key k.l) z.w hm hm20 hown z.q.size
      have hlen : (sortAc (takeAc key k.l)).length = m := by rw [sortAc_length]; exact hm.symm
      have HB := Lib.hid (show listAc key k.l = (sortAc (takeAc key k.l)).map (·.val) from rfl)
      have HZ := Lib.hid z.q
      generalize sortAc (takeAc key k.l) = L at hso hlen HB
      clear hown hm hjn cI hW1 hP1 hKy hTy
      go_wp2_with (first | (go_at_call 118; refine hso.mono ?_; rintro e w6 ⟨rfl, hR6, hb6⟩; have HQ6 := Lib.hid (Below.trans HZ.out hb6); clear hb6 hso; obtain ⟨y6, hy6⟩ := Wd.first w6; rw [hy6]; clear hy6) | (refine wpList_make_own _ rfl _ _ 49 rfl w6.heap.size 38 j0 _ 20 Tryz.underlying49 hji hy0 hy1 .i64 .i64 (m : Int) m rfl rfl rfl (by rw [hy2]; omega) (by simp only [maxLen]; omega) y6.q.size ?_))
      intro w7 hown0 hg0
      have hown : Owns w7 w6.heap.size 38 20 (.slice (some ⟨y6.w.heap.size, 0, none⟩) 0 m) 0 (([] : List ActR).flatMap ActR.cells) := Owns.of hown0
      have hq7 : Q w6 w7 := Below.grown y6.q hg0 y6.q.size (fun _ h => by cases h)
      obtain ⟨y7, rfl⟩ : ∃ y7 : Wd w6, w7 = y7.w := ⟨⟨w7, hq7⟩, rfl⟩
      have hRy : ∀ y : Wd w6, RowsAt y.w A 22 facC L := fun y => hR6.q y.q
      clear hown0 hg0 hq7 hR6
      go_wp2_with fail
      go_loopw [11, 49] (fun a i wr => ∃ (j c : Nat) (A : Option Addr) (z : Wd w6), a = .slice A j c ∧ i = .int .i64 j ∧ wr = z.w ∧ j ≤ m ∧ j ≤ c ∧ c ≤ maxLen ∧ Owns z.w w6.heap.size 38 20 (.slice A j c) j (((L.take j).map (·.val)).flatMap ActR.cells)) (fun _ i _ => m - (intOf i).toNat)
      case atStart => exact ⟨0, m, _, y7, rfl, rfl, rfl, Nat.zero_le _, Nat.zero_le _, by simp only [maxLen]; omega, hown⟩
      case round =>
        clear hown
        obtain ⟨j2, c2, A2, z2, rfl, rfl, rfl, hj2, hjc2, hcm2, hown⟩ := hrel
        by_cases hlt2 : j2 < m
        · obtain ⟨b, o, eA, hb, hcs⟩ := hRy z2 (by omega)
          have hld : ∀ y : Wd z2.w, (Instr.loadAt 158 (.pointer (some ⟨b, o + j2 * 22, none⟩))).run Tryz.prog y.w = .ok (.agg (facC (L[j2]'(by omega))).toArray) y.w := Wd.load hb (hcs j2 (by omega)) Tryz.underlying158 rfl (by kernel_rfl)
          have HLS := Lib.hid (show (L.take (j2 + 1)).map (·.val) = (L.take j2).map (·.val) ++ [(L[j2]'(by omega)).val] by rw [List.take_succ_eq_append_getElem (by omega), List.map_append]; rfl)
          rw [eA]
          have hzs2 := z2.q.size
          clear hcs
          generalize L[j2]'(by omega) = e2 at *
          have hbf := Blk.new z2.w 158 (facC default).toArray
          go_wp2_with (first | (refine wpList_load_run 158 (.tmp 51) (.pointer (some ⟨b, o + j2 * 22, none⟩)) (.agg (facC e2).toArray) ?_ ?_ ?_ ?_ ?_; rfl; rfl; rfl; exact hld ⟨_, Q.trans (Q.refl _) (Q.refl _)⟩) | (refine wpList_store_blk hbf rfl 158 (.tmp 13) (.tmp 52) (facC e2) rfl rfl rfl (by kernel_rfl) (fac_all _) (Nat.le_refl 22) ?_))
          intro W hW hbel
          rw [splice_all _ _ (by rfl)] at hW
          have hqz : Q z2.w W := hbel _ _ (Nat.le_refl _) (q_new _ _ _)
          have hq3 : Q w6 W := Q.trans z2.q hqz
          have hrv : W.rangeAt z2.w.heap.size 2 e2.val.cells := by
            have := range_sub (Blk.range hW) 2 20
            rw [Nat.zero_add] at this
            exact this
          have hLv : ∀ y : Wd W, (Instr.loadAt 38 (.pointer (some ⟨z2.w.heap.size, 2, none⟩))).run Tryz.prog y.w = .ok (.agg (actA e2.val)) y.w := Wd.load hW.lt hrv Tryz.underlying38 rfl (by kernel_rfl)
          have hownW : ∀ y : Wd W, Owns y.w w6.heap.size 38 20 (.slice A2 j2 c2) j2 (((L.take j2).map (·.val)).flatMap ActR.cells) := fun y => hown.q (Q.trans hqz y.q)
          have HQ3 := Lib.hid hq3
          have hWs := hq3.size
          obtain ⟨v, hv⟩ := Wd.first W
          rw [hv]
          clear hW hbel hld hv hqz hq3 hown hrv hbf
          go_wp2_with (first | (refine wpList_load_run 38 (.tmp 54) (.pointer (some ⟨z2.w.heap.size, 2, none⟩)) (.agg (actA e2.val)) ?_ ?_ ?_ ?_ ?_; rfl; rfl; rfl; exact hLv _) | (refine wpList_buildSlice_run 49 1 _ #[(0, .agg (actA e2.val))] _ rfl rfl (by simp only [List.map_toArray, List.map_cons, List.map_nil]; rfl) (bsAc_val e2.val _) ?_) | (at_builtin; refine wpList_append_rows valAc_len valAc_one rfl (.tmp 53) (.tmp 56) 49 38 j0 _ 264 rfl Tryz.underlying49 hji hy0 hy1 hy2 rfl (by decide) (by decide) w6.heap.size (.slice A2 j2 c2) j2 ((L.take j2).map (·.val)) rfl ((hownW v).alloc (.cells (actA e2.val) 38)) (some ⟨v.w.heap.size, 0, none⟩) 1 1 [e2.val] rfl (RowsAt.one v.w 38 e2.val _ rfl) rfl (by omega) (by have := v.q.size; simp; omega) ?_))
          intro A5 c5 w5 hc5 hm5 hown5 hg5
          have hq5 : Q w6 w5 := q_grown (Q.trans (Q.trans HQ3.out v.q) (q_new _ _ _)) (Nat.le_refl _) ((hownW v).alloc _) hg5
          obtain ⟨y5, rfl⟩ : ∃ y5 : Wd w6, w5 = y5.w := ⟨⟨w5, hq5⟩, rfl⟩
          have e5 : List.flatMap ActR.cells (List.take j2 (List.map (fun x => x.val) L)) ++ e2.val.cells = ((L.take (j2 + 1)).map (·.val)).flatMap ActR.cells := by
            rw [HLS.out, List.flatMap_append, List.map_take]
            simp
          rw [e5] at hown5
          clear hownW hg5 hq5 hLv e5
          go_wp2_with fail
          exact ⟨⟨j2 + 1, c5, A5, y5, rfl, by go_num, rfl, by omega, hc5, hm5, hown5⟩, by simp only [intOf]; omega⟩
        · have hjn : j2 = m := by omega
          have hall : L.take j2 = L := List.take_of_length_le (by omega)
          rw [hall, ← HB.out] at hown
          have hl : (listAc key k.l).length = j2 := by rw [HB.out, List.length_map, hlen, hjn]
          have hfin : ListAcAre (listAc key k.l) w (.returned (.slice A2 j2 c2)) z2.w := ⟨A2, c2, by rw [hl], by omega, hcm2, Owns.rows valAc_len hown hl.symm, Q.trans HQ.out (Below.trans HQ6.out (Below.mono z2.q (by have := HQ6.out.size; omega)))⟩
          have HF := Lib.hid hfin
          clear hfin hl hall hown
          go_wp2_with fail
          go_ret
          exact HF.out

set_option maxRecDepth 100000 in
set_option maxHeartbeats 2000000 in
theorem allAc_any (k : KR) (key : ByteArray) (w : World) (hT : Tab w) (hK : KIn w k) (hn : k.l.length ≤ 20) :
    Calls Tryz.prog 16 #[.agg (knA k), .string key] w (ListAcAre (listAc key k.l) w) := by
  have b1 := Blk.new w 25 (knA k)
  have q1 := q_new w (knA k) 25
  have b2 := Blk.new' (g := w.heap.size + 1) (w.alloc (.cells (knA k) 25)) 9 #[.string key] (by simp)
  have q2 := q_new (w.alloc (.cells (knA k) 25)) #[.string key] 9
  have b1 := b1.q q2
  have hq := Q.trans q1 q2
  obtain ⟨w3, hw3⟩ : ∃ w3, w3 = (w.alloc (.cells (knA k) 25)).alloc (.cells #[.string key] 9) := ⟨_, rfl⟩
  rw [← hw3] at b1 b2 hq
  have hLk := Wd.load (P := Tryz.prog) (ty := 25) b1.lt (Blk.range b1) Tryz.underlying25 rfl (by kernel_rfl) ⟨w3, Q.refl w3⟩
  have hp := pickAc_any k (w.heap.size + 1) key w3 (hT.q hq) (hK.q hq) (b2.cell 0) b2.lt hn
  have HX := Lib.hid hw3
  have HQ := Lib.hid hq
  clear q1 q2 b1 b2 hq hw3
  go_enter Tryz.func16, Tryz.ntmps16
  go_upto_region 1 with (fail)
  refine (show Code.wp _ _ _ _ w3 → Code.wp _ _ _ _ _ from fun h => by rw [HX.out] at h; exact h) ?_
  go_wp2_with (first | (refine wpList_load_run 25 (.tmp 2) (.pointer (some ⟨w.heap.size, 0, none⟩)) (.agg (knA k)) ?_ ?_ ?_ ?_ ?_; rfl; rfl; rfl; exact hLk) | (go_at_call 64; refine hp.mono ?_; rintro e w' ⟨A, c, rfl, h1, h2, h3, hq4⟩))
  go_ret
  exact ⟨A, c, rfl, h1, h2, h3, Q.trans HQ.out hq4⟩
end Go.Proofs.YtomkeaeegdjhnaaGreatDoor.Known

namespace Go.Proofs.YtomkeaeegdjhnaaGreatDoor.Known
open Go.RowKit Grp Mem _root_.Go.Proofs.YtomkeaeegdjhnaaGreatDoor.Code Sha Sign _root_.Go.Proofs.YtomkeaeegdjhnaaGreatDoor.Item

instance : Inhabited ClaimV := ⟨claim0⟩
abbrev fclC : Found ClaimV → List Value := Found.cells ClaimV.cells
theorem fcl_len (x : Found ClaimV) : (fclC x).length = 11 := rfl
theorem fcl_one (x : Found ClaimV) : ∀ v ∈ fclC x, v.oneCell' = true := by
  intro v hv
  simp only [fclC, Found.cells, ClaimV.cells, List.mem_cons, List.not_mem_nil, or_false] at hv
  rcases hv with rfl | rfl | rfl | rfl | rfl | rfl | rfl | rfl | rfl | rfl | rfl <;> rfl

set_option maxRecDepth 100000 in
set_option maxHeartbeats 1000000 in
/-- pick's comparison, at ballots: it lays blocks of its own alone. -/
theorem cmpCl_any (x y : Found ClaimV) (W : World) : Calls Tryz.prog 126 #[.agg (fclC x).toArray, .agg (fclC y).toArray] W fun e w' => e = .returned (.int .i64 (cmpF x y)) ∧ ∃ q os', w' = Go.Sort.grow (W.drewN q) os' := by
  have hci := fun W' => Tryz.cmp_Compare_int x.rank y.rank W'
  have hcs := fun W' => compareS_any x.dig y.dig W'
  have HR : Hid (cmpF x y = orI (Lib.compareInt x.rank y.rank) (cmpS x.dig y.dig)) := Lib.hid rfl
  generalize cmpF x y = r at HR ⊢
  have b1 := Blk.new W 167 (fclC x).toArray
  have b2 := Blk.new' (g := W.heap.size + 1) (W.alloc (.cells (fclC x).toArray 167)) 167 (fclC y).toArray (by simp)
  have b1 := b1.q (q_new (W.alloc (.cells (fclC x).toArray 167)) (fclC y).toArray 167)
  obtain ⟨W1, hW1⟩ : ∃ W1, W1 = (W.alloc (.cells (fclC x).toArray 167)).alloc (.cells (fclC y).toArray 167) := ⟨_, rfl⟩
  rw [← hW1] at b1 b2
  have c0 : ∀ n, (W1.drewN n).cell? ⟨W.heap.size, 0, none⟩ = some (.int .i64 x.rank) := fun n => b1.cell 0
  have c1 : ∀ n, (W1.drewN n).cell? ⟨W.heap.size, 1, none⟩ = some (.string x.dig) := fun n => b1.cell 1
  have c2 : ∀ n, (W1.drewN n).cell? ⟨W.heap.size + 1, 0, none⟩ = some (.int .i64 y.rank) := fun n => b2.cell 0
  have c3 : ∀ n, (W1.drewN n).cell? ⟨W.heap.size + 1, 1, none⟩ = some (.string y.dig) := fun n => b2.cell 1
  have HX := Lib.hid hW1
  clear hW1 b1 b2
  generalize Lib.compareInt x.rank y.rank = ri at *
  generalize cmpS x.dig y.dig = rs at *
  go_enter Tryz.func126, Tryz.ntmps126
  go_upto_region 1 with (fail)
  refine (show Code.wp _ _ _ _ W1 → Code.wp _ _ _ _ _ from fun h => by rw [HX.out] at h; exact h) ?_
  refine wp_region_open (C := fun w' => ∃ n, w' = W1.drewN n) 10 (by kernel_rfl) (by kernel_rfl) ⟨1, rfl⟩ ?_
  simp only [List.take_succ_cons, List.take_zero]
  repeat (quiet_step (first | (go_at_call 121; exact Calls.quiet_of_same (hci _)) | (go_at_call 122; exact Calls.quiet_of_same (hcs _))))
  refine wpQuiet_nil ?_
  rintro w' ⟨n, rfl⟩
  have hb := Blk.new (W1.drewN n) 3 #[.int .i64 ri, .int .i64 rs]
  have hor := or_any (W1.drewN n).heap.size 0 2 ri rs _ (hb.cell 0) (hb.cell 1)
  have HE : Hid (∃ q os', (W1.drewN n).alloc (.cells #[.int .i64 ri, .int .i64 rs] 3) = Go.Sort.grow (W.drewN q) os') := Lib.hid ⟨n, _, by rw [HX.out]; exact grow3 W n _ _ _⟩
  clear hb
  refine any_one 10 rfl (by kernel_rfl) rfl (fun K' hK' => ?_)
  go_simp
  refine hK' _ _ ?_
  clear hK' K'
  try simp only [Act.put, List.setIfInBounds_toArray, List.set_cons_succ, List.set_cons_zero]
  refine any_one 11 rfl (by kernel_rfl) rfl (fun K' hK' => ?_)
  go_simp
  refine hor.mono ?_
  rintro e w2 ⟨rfl, rfl⟩
  refine hK' _ _ ?_
  clear hK' K' hor
  try simp only [Act.put, List.setIfInBounds_toArray, List.set_cons_succ, List.set_cons_zero]
  rw [← HR.out]
  refine any_pure 12 (v := .int .i64 r) rfl (by kernel_rfl) (by kernel_rfl) (by kernel_rfl) (by intro c d v a w h; cases d <;> exact h) rfl (fun w => by rfl) ?_
  try simp only [Act.put, List.setIfInBounds_toArray, List.set_cons_succ, List.set_cons_zero]
  refine any_done (by kernel_rfl) ?_ _
  go_wp2_with fail
  go_ret
  exact ⟨rfl, HE.out⟩


set_option maxRecDepth 100000 in
set_option maxHeartbeats 1000000 in
theorem stableCl_lt (g cap : Nat) (d : Array (Found ClaimV)) (w : World) (hH : Go.Sort.HoldsK fclC 11 w g 0 d) (hg : g < w.heap.size) (hd : d.size < 20) :
    Calls Tryz.prog 125 #[.slice (some ⟨g, 0, none⟩) d.size cap, .func (.func 126) #[] #[]] w fun e w' => e = .returned (.tuple #[]) ∧ ∃ n os, w' = sortWorldK fclC 11 w g 0 n (sortA d) os := by
  have hins : Calls Tryz.prog 228 #[.slice (some ⟨g, 0, none⟩) d.size cap, .int .i64 (0 : Nat), .int .i64 (d.size : Nat), .func (.func 126) #[] #[]] w fun e w' => e = .returned (.tuple #[]) ∧ ∃ n os, w' = sortWorldK fclC 11 w g 0 n (sortA d) os :=
    AnyQ.insertionSortCmpFunc Tryz.insClaim 11 Tryz.isAgg167 Tryz.sizeOf167 fclC fcl_len fcl_one cmpF 126 #[] g 0 cap 0 d.size d w (enters_of Tryz.func126 (by kernel_rfl) rfl) (fun _ _ _ _ x y => cmpCl_any x y _) hH hg (Nat.zero_le _) (Nat.le_refl _) (by omega)
  have hst : Calls Tryz.prog 174 #[.slice (some ⟨g, 0, none⟩) d.size cap, .int .i64 (d.size : Nat), .func (.func 126) #[] #[]] w fun e w' => e = .returned (.tuple #[]) ∧ ∃ n os, w' = sortWorldK fclC 11 w g 0 n (sortA d) os := by
    clear hH
    generalize sortA d = r at hins ⊢
    go_enter Tryz.func174, Tryz.ntmps174
    go_wp2_with fail
    refine wp_loop_rounds 1 ?_
    rw [rounds_succ]
    go_wp2_with (go_at_call 228; refine hins.mono ?_; rintro e w' ⟨rfl, n, os, rfl⟩)
    refine wp_loop_rounds 1 ?_
    rw [rounds_succ]
    go_wp2_with fail
    go_end0
    exact ⟨rfl, n, os, rfl⟩
  clear hins hH
  generalize sortA d = r at hst ⊢
  go_enter Tryz.func125, Tryz.ntmps125
  go_wp2_with (go_at_call 174; refine hst.mono ?_; rintro e w' ⟨rfl, n, os, rfl⟩)
  go_end0
  exact ⟨rfl, n, os, rfl⟩

set_option maxRecDepth 100000 in
set_option maxHeartbeats 1000000 in
theorem insEndCl (A : Option Addr) (cap : Nat) (w : World) :
    Calls Tryz.prog 228 #[.slice A 20 cap, .int .i64 20, .int .i64 20, .func (.func 126) #[] #[]] w fun e w' => e = .returned (.tuple #[]) ∧ w' = w := by
  go_enter Tryz.func228, Tryz.ntmps228
  go_wp2_with fail
  refine wp_loop_rounds 1 ?_
  rw [rounds_succ]
  go_wp2_with fail
  go_end0
  exact ⟨rfl, rfl⟩

set_option maxRecDepth 100000 in
set_option maxHeartbeats 1000000 in
theorem stableCl_eq (g cap : Nat) (d : Array (Found ClaimV)) (w : World) (hH : Go.Sort.HoldsK fclC 11 w g 0 d) (hg : g < w.heap.size) (hd : d.size = 20) :
    Calls Tryz.prog 125 #[.slice (some ⟨g, 0, none⟩) d.size cap, .func (.func 126) #[] #[]] w fun e w' => e = .returned (.tuple #[]) ∧ ∃ n os, w' = sortWorldK fclC 11 w g 0 n (sortA d) os := by
  have hins : Calls Tryz.prog 228 #[.slice (some ⟨g, 0, none⟩) d.size cap, .int .i64 (0 : Nat), .int .i64 (d.size : Nat), .func (.func 126) #[] #[]] w fun e w' => e = .returned (.tuple #[]) ∧ ∃ n os, w' = sortWorldK fclC 11 w g 0 n (sortA d) os :=
    AnyQ.insertionSortCmpFunc Tryz.insClaim 11 Tryz.isAgg167 Tryz.sizeOf167 fclC fcl_len fcl_one cmpF 126 #[] g 0 cap 0 d.size d w (enters_of Tryz.func126 (by kernel_rfl) rfl) (fun _ _ _ _ x y => cmpCl_any x y _) hH hg (Nat.zero_le _) (Nat.le_refl _) (by omega)
  have hst : Calls Tryz.prog 174 #[.slice (some ⟨g, 0, none⟩) d.size cap, .int .i64 (d.size : Nat), .func (.func 126) #[] #[]] w fun e w' => e = .returned (.tuple #[]) ∧ ∃ n os, w' = sortWorldK fclC 11 w g 0 n (sortA d) os := by
    clear hH
    generalize sortA d = r at hins ⊢
    rw [hd, show ((20 : Nat) : Int) = 20 from rfl, show ((0 : Nat) : Int) = 0 from rfl] at hins
    rw [hd, show ((20 : Nat) : Int) = 20 from rfl]
    go_enter Tryz.func174, Tryz.ntmps174
    go_wp2_with fail
    refine wp_loop_rounds 2 ?_
    rw [rounds_succ]
    go_wp2_with (go_at_call 228; refine hins.mono ?_; rintro e w' ⟨rfl, n, os, rfl⟩)
    rw [rounds_succ]
    go_wp2_with (go_at_call 228; refine (insEndCl _ _ _).mono ?_; rintro e w' ⟨rfl, rfl⟩)
    refine wp_loop_rounds 1 ?_
    rw [rounds_succ]
    go_wp2_with fail
    go_end0
    exact ⟨rfl, n, os, rfl⟩
  clear hins hH
  generalize sortA d = r at hst ⊢
  have hd' : d.size ≤ 20 := by omega
  clear hd
  go_enter Tryz.func125, Tryz.ntmps125
  go_wp2_with (go_at_call 174; refine hst.mono ?_; rintro e w' ⟨rfl, n, os, rfl⟩)
  go_end0
  exact ⟨rfl, n, os, rfl⟩

theorem stableCl_any (g cap : Nat) (d : Array (Found ClaimV)) (w : World) (hH : Go.Sort.HoldsK fclC 11 w g 0 d) (hg : g < w.heap.size) (hd : d.size ≤ 20) :
    Calls Tryz.prog 125 #[.slice (some ⟨g, 0, none⟩) d.size cap, .func (.func 126) #[] #[]] w fun e w' => e = .returned (.tuple #[]) ∧ ∃ n os, w' = sortWorldK fclC 11 w g 0 n (sortA d) os := by
  rcases Nat.lt_or_eq_of_le hd with h | h
  · exact stableCl_lt g cap d w hH hg h
  · exact stableCl_eq g cap d w hH hg h

set_option maxRecDepth 100000 in
set_option maxHeartbeats 1000000 in
theorem stableCl_nil (w : World) :
    Calls Tryz.prog 125 #[.slice none 0 0, .func (.func 126) #[] #[]] w fun e w' => e = .returned (.tuple #[]) ∧ w' = w := by
  have hins : Calls Tryz.prog 228 #[.slice none 0 0, .int .i64 0, .int .i64 0, .func (.func 126) #[] #[]] w fun e w' => e = .returned (.tuple #[]) ∧ w' = w := by
    go_enter Tryz.func228, Tryz.ntmps228
    go_wp2_with fail
    refine wp_loop_rounds 1 ?_
    rw [rounds_succ]
    go_wp2_with fail
    go_end0
    exact ⟨rfl, rfl⟩
  have hst : Calls Tryz.prog 174 #[.slice none 0 0, .int .i64 0, .func (.func 126) #[] #[]] w fun e w' => e = .returned (.tuple #[]) ∧ w' = w := by
    go_enter Tryz.func174, Tryz.ntmps174
    go_wp2_with fail
    refine wp_loop_rounds 1 ?_
    rw [rounds_succ]
    go_wp2_with (go_at_call 228; refine hins.mono ?_; rintro e w' ⟨rfl, hw⟩; rw [hw])
    refine wp_loop_rounds 1 ?_
    rw [rounds_succ]
    go_wp2_with fail
    go_end0
    exact ⟨rfl, rfl⟩
  go_enter Tryz.func125, Tryz.ntmps125
  go_wp2_with (go_at_call 174; refine hst.mono ?_; rintro e w' ⟨rfl, hw⟩; rw [hw])
  go_end0
  exact ⟨rfl, rfl⟩

/-- Is an item wanted? -/
def wantCl (key : ByteArray) (x : ItemR) : Bool := decide (x.kind = 1) && decide (x.claim.actor = key)
structure WantFCl (w : World) (x : ItemR) (w' : World) : Prop where
  q : Q w w'
  it : Blk w' w.heap.size 46 x.cells.toArray
  r : ∃ cs : List Value, cs.length = 9 ∧ Blk w' (w.heap.size + 1) 40 cs.toArray
structure WantWCl (w0 : World) (x : ItemR) where
  w : World
  f : WantFCl w0 x w
set_option maxRecDepth 100000 in
set_option maxHeartbeats 2000000 in
theorem wantCl_any (p1 : Nat) (key : ByteArray) (x : ItemR) (w : World) (h1 : w.cell? ⟨p1, 0, none⟩ = some (.string key)) (hp1 : p1 < w.heap.size) :
    Calls Tryz.prog 68 #[.agg (itA x), .pointer (some ⟨p1, 0, none⟩)] w fun e w' => e = .returned (.tuple #[.agg (claimA x.claim), .int .i64 0, .bool (wantCl key x)]) ∧ Q w w' := by
  have hbi := Blk.new w 46 (itA x)
  have hq1 := q_new w (itA x) 46
  have hbr := Blk.new' (g := w.heap.size + 1) (w.alloc (.cells (itA x) 46)) 40 (claimA claim0) (by simp)
  have hq2 := q_new (w.alloc (.cells (itA x) 46)) (claimA claim0) 40
  have hbi := hbi.q hq2
  have hq := Q.trans hq1 hq2
  clear hq1 hq2
  obtain ⟨w2, hw2⟩ : ∃ w2, w2 = (w.alloc (.cells (itA x) 46)).alloc (.cells (claimA claim0) 40) := ⟨_, rfl⟩
  rw [← hw2] at hbi hbr hq
  have hw2s : w2.heap.size = w.heap.size + 1 + 1 := by rw [hw2]; simp
  have hLd : ∀ y : Wd w2, (Instr.loadAt 40 (.pointer (some ⟨w.heap.size, 21, none⟩))).run Tryz.prog y.w = .ok (.agg (claimA x.claim)) y.w := item_claim hbi.lt (Blk.range hbi)
  have HX := Lib.hid hw2
  clear hw2
  go_enter Tryz.func68, Tryz.ntmps68
  go_upto_region 1 with (fail)
  refine (show Code.wp _ _ _ _ w2 → Code.wp _ _ _ _ _ from fun h => by rw [HX.out] at h; exact h) ?_
  have hF : WantFCl w x w2 := ⟨hq, hbi, claim0.cells, rfl, hbr⟩
  clear hbr hq HX hw2s hLd
  have hFd : ∃ y : WantWCl w x, ({ w2 with drawn := w2.drawn + 1 } : World) = y.w := ⟨⟨_, ⟨hF.q.drew, hF.it, hF.r⟩⟩, rfl⟩
  have cK : ∀ y : WantWCl w x, y.w.cell? ⟨w.heap.size, 0, none⟩ = some (.int .i64 x.kind) := fun y => y.f.it.cell 0
  have cA : ∀ y : WantWCl w x, y.w.cell? ⟨w.heap.size, 21, none⟩ = some (.string x.claim.actor) := fun y => y.f.it.cell 21
  have c1 : ∀ y : WantWCl w x, y.w.cell? ⟨p1, 0, none⟩ = some (.string key) := fun y => (y.f.q.cell (p := ⟨p1, 0, none⟩) hp1).trans h1
  have hLb : ∀ z, (∃ y : WantWCl w x, z = y.w) → (Instr.loadAt 40 (.pointer (some ⟨w.heap.size, 21, none⟩))).run Tryz.prog z = .ok (.agg (claimA x.claim)) z := by
    rintro z ⟨y, rfl⟩
    exact item_claim (w1 := y.w) y.f.it.lt (Blk.range y.f.it) ⟨y.w, Q.refl _⟩
  have HR : Hid (wantCl key x = (decide (x.kind = 1) && decide (x.claim.actor = key))) := Lib.hid rfl
  haveI hNE : Nonempty (WantWCl w x) := ⟨⟨w2, hF⟩⟩
  clear hF h1 hbi
  by_cases hk : x.kind = 1
  · rw [decide_eq_true hk, Bool.true_and] at HR
    refine wp_region_reads (S := fun w' => ∃ y : WantWCl w x, w' = y.w) 12 (by kernel_rfl) (by kernel_rfl) (by intro c a d v w h; cases d <;> exact h) hFd ?_
    simp only [List.take_succ_cons, List.take_zero]
    go_big_quiet_step (fail)
    refine wpQuiet_load_S 40 (.tmp 6) (.pointer (some ⟨w.heap.size, 21, none⟩)) (.agg (claimA x.claim)) rfl rfl rfl hLb ?_
    dsimp only [Act.put]
    simp only [List.setIfInBounds_toArray, List.set_cons_succ, List.set_cons_zero]
    repeat (go_big_quiet_step (fail))
    refine wpQuiet_nil ?_
    rintro w' ⟨y, rfl⟩
    obtain ⟨cs, hcs, hbr⟩ := y.f.r
    refine held_one 12 rfl (by kernel_rfl) rfl (fun K' hK' => ?_)
    refine wp_store_mid 40 (.tmp 3) (.tmp 7) rfl (w.heap.size + 1) 0 (claimA x.claim) rfl rfl (show y.w.there (w.heap.size + 1) 0 9 by simpa using hbr.there (n := 9) (Nat.le_of_eq hcs.symm)) (by kernel_rfl) (claim_all _) ?_
    have hsc : Blk (y.w.setCells (w.heap.size + 1) 0 x.claim.cells) (w.heap.size + 1) 40 x.claim.cells.toArray := by
      have := Blk.setCells x.claim.cells 0 _ y.w hbr (Nat.le_of_eq (by rw [hcs]; rfl))
      rwa [splice_all _ _ (by rw [hcs]; rfl)] at this
    have hfar := fun b (hne : b ≠ w.heap.size + 1) => setCells_far (g := w.heap.size + 1) hne x.claim.cells 0 y.w
    have hqs : Q w (y.w.setCells (w.heap.size + 1) 0 x.claim.cells) := below_setCells (Nat.le_succ _) x.claim.cells 0 w y.w y.f.q
    have hFN : WantFCl w x (y.w.setCells (w.heap.size + 1) 0 x.claim.cells) := ⟨hqs, (hfar _ (by omega)).trans y.f.it, x.claim.cells, rfl, hsc⟩
    refine hK' _ _ ⟨⟨_, hFN⟩, rfl⟩ ?_
    clear hK' K' hbr hfar
    have HZ := Lib.hid hsc
    have HQ := Lib.hid hqs
    clear hsc hqs
    simp only [Act.put, List.setIfInBounds_toArray, List.set_cons_succ, List.set_cons_zero]
    refine held_pure 13 (v := .int .i64 0) rfl (by kernel_rfl) (by kernel_rfl) (by kernel_rfl) (by intro c a d v w h; cases d <;> exact h) rfl ⟨⟨_, hFN⟩, rfl⟩ (fun w => by rfl) ?_
    simp only [Act.put, List.setIfInBounds_toArray, List.set_cons_succ, List.set_cons_zero]
    refine held_pure 14 (v := .bool (x.claim.actor.toList == key.toList)) rfl (by kernel_rfl) (by kernel_rfl) (by kernel_rfl) (by intro c a d v w h; cases d <;> exact h) rfl ⟨⟨_, hFN⟩, rfl⟩ (fun w => by rfl) ?_
    simp only [Act.put, List.setIfInBounds_toArray, List.set_cons_succ, List.set_cons_zero]
    refine wpAnyH_done (by kernel_rfl) ?_ _
    go_wp2_with fail
    exact bodyPost_ret (results_row_tmp2 rfl _ _ (w.heap.size + 1) 40 (claimA x.claim) (0, 0) _ _ _ rfl rfl rfl HZ.out Tryz.underlying40 rfl (by kernel_rfl)) rfl ⟨by rw [HR.out, ← beq_str]; rfl, HQ.out⟩
  · rw [decide_eq_false hk, Bool.false_and] at HR
    have hkb : (x.kind == 1) = false := by simpa using hk
    refine wp_region_reads (S := fun w' => ∃ y : WantWCl w x, w' = y.w) 12 (by kernel_rfl) (by kernel_rfl) (by intro c a d v w h; cases d <;> exact h) hFd ?_
    simp only [List.take_succ_cons, List.take_zero]
    go_big_quiet_step (fail)
    refine wpQuiet_load_S 40 (.tmp 6) (.pointer (some ⟨w.heap.size, 21, none⟩)) (.agg (claimA x.claim)) rfl rfl rfl hLb ?_
    dsimp only [Act.put]
    simp only [List.setIfInBounds_toArray, List.set_cons_succ, List.set_cons_zero]
    repeat (go_big_quiet_step (fail))
    refine wpQuiet_nil ?_
    rintro w' ⟨y, rfl⟩
    obtain ⟨cs, hcs, hbr⟩ := y.f.r
    refine held_one 12 rfl (by kernel_rfl) rfl (fun K' hK' => ?_)
    refine wp_store_mid 40 (.tmp 3) (.tmp 7) rfl (w.heap.size + 1) 0 (claimA x.claim) rfl rfl (show y.w.there (w.heap.size + 1) 0 9 by simpa using hbr.there (n := 9) (Nat.le_of_eq hcs.symm)) (by kernel_rfl) (claim_all _) ?_
    have hsc : Blk (y.w.setCells (w.heap.size + 1) 0 x.claim.cells) (w.heap.size + 1) 40 x.claim.cells.toArray := by
      have := Blk.setCells x.claim.cells 0 _ y.w hbr (Nat.le_of_eq (by rw [hcs]; rfl))
      rwa [splice_all _ _ (by rw [hcs]; rfl)] at this
    have hfar := fun b (hne : b ≠ w.heap.size + 1) => setCells_far (g := w.heap.size + 1) hne x.claim.cells 0 y.w
    have hqs : Q w (y.w.setCells (w.heap.size + 1) 0 x.claim.cells) := below_setCells (Nat.le_succ _) x.claim.cells 0 w y.w y.f.q
    have hFN : WantFCl w x (y.w.setCells (w.heap.size + 1) 0 x.claim.cells) := ⟨hqs, (hfar _ (by omega)).trans y.f.it, x.claim.cells, rfl, hsc⟩
    refine hK' _ _ ⟨⟨_, hFN⟩, rfl⟩ ?_
    clear hK' K' hbr hfar
    have HZ := Lib.hid hsc
    have HQ := Lib.hid hqs
    clear hsc hqs
    simp only [Act.put, List.setIfInBounds_toArray, List.set_cons_succ, List.set_cons_zero]
    refine held_pure 13 (v := .int .i64 0) rfl (by kernel_rfl) (by kernel_rfl) (by kernel_rfl) (by intro c a d v w h; cases d <;> exact h) rfl ⟨⟨_, hFN⟩, rfl⟩ (fun w => by rfl) ?_
    simp only [Act.put, List.setIfInBounds_toArray, List.set_cons_succ, List.set_cons_zero]
    refine held_pure 14 (v := .bool false) rfl (by kernel_rfl) (by kernel_rfl) (by kernel_rfl) (by intro c a d v w h; cases d <;> exact h) rfl ⟨⟨_, hFN⟩, rfl⟩ (fun w => by rfl) ?_
    simp only [Act.put, List.setIfInBounds_toArray, List.set_cons_succ, List.set_cons_zero]
    refine wpAnyH_done (by kernel_rfl) ?_ _
    go_wp2_with fail
    exact bodyPost_ret (results_row_tmp2 rfl _ _ (w.heap.size + 1) 40 (claimA x.claim) (0, 0) _ _ _ rfl rfl rfl HZ.out Tryz.underlying40 rfl (by kernel_rfl)) rfl ⟨by rw [HR.out]; rfl, HQ.out⟩

def foundCl (x : ItemR) : Found ClaimV := ⟨0, digOf x, x.claim⟩
def takeCl (key : ByteArray) (l : List ItemR) : List (Found ClaimV) := (l.filter fun x => wantCl key x && itemRight x).map foundCl
theorem takeCl_step (key : ByteArray) (l : List ItemR) (j : Nat) (h : j < l.length) : takeCl key (l.take (j + 1)) = takeCl key (l.take j) ++ if wantCl key l[j] && itemRight l[j] then [foundCl l[j]] else [] := by
  unfold takeCl
  rw [List.take_succ_eq_append_getElem h, List.filter_append, List.map_append]
  congr 1
  cases hw : wantCl key l[j] && itemRight l[j] <;> simp [List.filter, hw]
theorem takeCl_le (key : ByteArray) (l : List ItemR) (j : Nat) : (takeCl key (l.take j)).length ≤ j := by
  unfold takeCl
  rw [List.length_map]
  refine Nat.le_trans (List.length_filter_le _ _) ?_
  rw [List.length_take]
  omega
def sortCl (l : List (Found ClaimV)) : List (Found ClaimV) := (sortA l.toArray).toList
def listCl (key : ByteArray) (l : List ItemR) : List ClaimV := (sortCl (takeCl key l)).map (·.val)
theorem sortCl_length (l : List (Found ClaimV)) : (sortCl l).length = l.length := by
  unfold sortCl sortA Go.Sort.insertionSort
  rw [Array.length_toList, size_insO _ _ _ _ _ _ rfl, List.size_toArray]

theorem sortCl_nil : sortCl [] = [] := List.length_eq_zero_iff.1 (sortCl_length [])
/-- The sort, of an own row. -/
theorem sortedCl_any (A : Option Addr) (c m base : Nat) (l : List (Found ClaimV)) (w : World) (hm : m = l.length) (h20 : m ≤ 20) (h : Owns w base 167 11 (.slice A m c) m (l.flatMap fclC)) (hB : base ≤ w.heap.size) :
    Calls Tryz.prog 125 #[.slice A m c, .func (.func 126) #[] #[]] w fun e w' => e = .returned (.tuple #[]) ∧ (RowsAt w' A 11 fclC (sortCl l) ∧ Below base w w') := by
  rcases h.2 with ⟨e1, h0⟩ | ⟨g, cap, cur, fz, hv, hb, hg, _⟩
  · injection e1 with hA _ hc
    subst hA hc
    have hl : l = [] := List.length_eq_zero_iff.1 (by omega)
    subst hl
    subst hm
    refine (stableCl_nil w).mono ?_
    rintro e w' ⟨rfl, rfl⟩
    exact ⟨rfl, by rw [sortCl_nil]; exact RowsAt.nil _ _ _ _, Below.refl _ _⟩
  · injection hv with hA _ hc
    subst hA
    rcases Nat.eq_zero_or_pos m with h0 | h0
    · have hl : l = [] := List.length_eq_zero_iff.1 (by omega)
      subst hl
      have hH : Go.Sort.HoldsK fclC 11 w g 0 (#[] : Array (Found ClaimV)) := fun t ht => by rw [Go.Sort.size_flatK] at ht; simp at ht
      have := stableCl_any g c #[] w hH (Array.getElem?_eq_some_iff.1 hg).1 (by simp)
      subst hm
      refine this.mono ?_
      rintro e w' ⟨rfl, n, os, rfl⟩
      exact ⟨rfl, by rw [sortCl_nil]; exact RowsAt.nil _ _ _ _, below_sort (Below.refl _ _) hb hB⟩
    · obtain ⟨hH, hb', hg'⟩ := holds_of fcl_len h hm h0
      subst hm
      have hs : (l.toArray).size = l.length := by simp
      have hsa : (sortA l.toArray).size = l.toArray.size := by
        unfold sortA Go.Sort.insertionSort
        rw [size_insO _ _ _ _ _ _ rfl]
      have := stableCl_any g c l.toArray w hH hg' (by rw [hs]; exact h20)
      rw [hs] at this
      refine this.mono ?_
      rintro e w' ⟨rfl, n, os, rfl⟩
      refine ⟨rfl, rows_of fcl_len (holdsK_sortWorldK_c fclC 11 w g 0 l.toArray _ n os hH hg' hsa) ?_, below_sort (Below.refl _ _) hb hB⟩
      exact Nat.lt_of_lt_of_le hg' (size_sortWorldK_c fclC 11 w g 0 n _ os)

theorem foundCl_info : (Tryz.prog.info? 167).map (fun i => (i.zero, i.size, i.bytes)) = some (some (.agg (fclC default).toArray), 11, 112) := by kernel_rfl
theorem valCl_info : (Tryz.prog.info? 40).map (fun i => (i.zero, i.size, i.bytes)) = some (some (.agg (claimA claim0)), 9, 88) := by kernel_rfl
theorem fcl_all (x : Found ClaimV) : (fclC x).toArray.all (·.oneCell') = true := by
  rw [Array.all_eq_true_iff_forall_mem]
  intro v hv
  exact fcl_one x v (by simpa using hv)
theorem buildCl_found (n : Int) (d : ByteArray) (b : ClaimV) (w : World) : (Instr.build 167 #[(0, .int .i64 n), (1, .string d), (2, .agg (claimA b))]).run Tryz.prog w = .ok (.agg (fclC ⟨n, d, b⟩).toArray) w := by kernel_rfl
theorem bsCl_found (x : Found ClaimV) (w : World) : (Instr.buildSlice 164 1 #[(0, .agg (fclC x).toArray)]).run Tryz.prog w = .ok (.slice (some ⟨w.heap.size, 0, none⟩) 1 1) (w.alloc (.cells (fclC x).toArray 167)) := by kernel_rfl
theorem bsCl_val (x : ClaimV) (w : World) : (Instr.buildSlice 51 1 #[(0, .agg (claimA x))]).run Tryz.prog w = .ok (.slice (some ⟨w.heap.size, 0, none⟩) 1 1) (w.alloc (.cells (claimA x) 40)) := by kernel_rfl
theorem valCl_len (x : ClaimV) : x.cells.length = 9 := rfl
theorem valCl_one (x : ClaimV) : ∀ v ∈ x.cells, v.oneCell' = true := by
  have := claim_all x
  rw [Array.all_eq_true_iff_forall_mem] at this
  intro v hv
  exact this v (by simpa using hv)

/-- What hands back a list of ballots. -/
def ListClAre (l : List ClaimV) (w : World) (e : Ending) (w' : World) : Prop := ∃ (A : Option Addr) (c : Nat), e = .returned (.slice A l.length c) ∧ l.length ≤ c ∧ c ≤ maxLen ∧ RowsAt w' A 9 ClaimV.cells l ∧ Q w w'
set_option maxRecDepth 100000 in
set_option maxHeartbeats 2000000 in
theorem pickCl_any (k : KR) (p1 : Nat) (key : ByteArray) (w : World) (hT : Tab w) (hK : KIn w k) (h1 : w.cell? ⟨p1, 0, none⟩ = some (.string key)) (hp1 : p1 < w.heap.size) (hn : k.l.length ≤ 20) :
    Calls Tryz.prog 67 #[.agg (knA k), .func (.func 68) #[] #[.pointer (some ⟨p1, 0, none⟩)]] w (ListClAre (listCl key k.l) w) := by
  obtain ⟨w1, x, hx, hq1, hbk⟩ := boxedB w 25 k.cells
  have hx : w.alloc (.cells (knA k) 25) = x.w := hx
  have cI : ∀ y : Wd w1, y.w.cell? ⟨w.heap.size, 1, none⟩ = some (.slice k.iA k.l.length k.iC) := fun y => (y.blk hbk).cell 1
  have hKy : ∀ y : Wd w1, KIn y.w k := fun y => hK.q (Q.trans hq1 y.q)
  have hTy : ∀ y : Wd w1, Tab y.w := fun y => hT.q (Q.trans hq1 y.q)
  have hW1 : ∀ y : Wd w1, y.w.cell? ⟨p1, 0, none⟩ = some (.string key) := fun y => ((Q.trans hq1 y.q).cell (p := ⟨p1, 0, none⟩) hp1).trans h1
  have hP1 : ∀ y : Wd w1, p1 < y.w.heap.size := fun y => Nat.lt_of_lt_of_le hp1 (Q.trans hq1 y.q).size
  have HQ := Lib.hid hq1
  obtain ⟨i0, hi, hz0, hz1, hz2⟩ := info_parts foundCl_info
  obtain ⟨j0, hji, hy0, hy1, hy2⟩ := info_parts valCl_info
  have e99 : ∀ args w, (callFunc 68 args).run Tryz.prog w = .ok (.enter 68 args) w := enters_of Tryz.func68 (by kernel_rfl) rfl
  clear hbk hq1 h1 hp1
  go_enter Tryz.func67, Tryz.ntmps67
  go_wp2_with fail
  go_loopw [5, 17] (fun a i wr => ∃ (j c m : Nat) (A : Option Addr) (z : Wd w1), a = .slice A m c ∧ i = .int .i64 j ∧ wr = z.w ∧ j ≤ k.l.length ∧ m ≤ j ∧ m ≤ c ∧ c ≤ maxLen ∧ Hid (m = (takeCl key (k.l.take j)).length) ∧ Owns z.w w1.heap.size 167 11 (.slice A m c) m ((takeCl key (k.l.take j)).flatMap fclC)) (fun _ i _ => k.l.length - (intOf i).toNat)
  case atStart => exact ⟨0, 0, 0, none, x, rfl, rfl, rfl, Nat.zero_le _, Nat.zero_le _, Nat.zero_le _, Nat.zero_le _, Lib.hid rfl, Owns.nil_ _ _ _ _⟩
  case round =>
    obtain ⟨j, c, m, A, z, rfl, rfl, rfl, hj, hmj, hmc, hcm, hm, hown⟩ := hrel
    by_cases hlt : j < k.l.length
    · obtain ⟨b, o, eA, hb, hld⟩ := (hKy z).items.load j hlt
      have hio := fun y : Wd z.w => ((hKy z).items.each _ (List.getElem_mem hlt)).q y.q
      rw [eA]
      have hTz : ∀ y : Wd z.w, Tab y.w := fun y => hTy ⟨y.w, Q.trans z.q y.q⟩
      have hzs := z.q.size
      have HTS := Lib.hid (takeCl_step key k.l j hlt)
      generalize k.l[j] = it at *
      go_wp2_with (first | (refine wpList_load_run 46 (.tmp 19) (.pointer (some ⟨b, o + j * 49, none⟩)) (.agg (itA it)) ?_ ?_ ?_ ?_ ?_; rfl; rfl; rfl; exact hld ⟨_, Q.refl _⟩) | (refine wpList_store_blk (Blk.new z.w 46 item0.cells.toArray) rfl 46 (.tmp 7) (.tmp 20) it.cells rfl rfl rfl (by kernel_rfl) (it_all _) (Nat.le_refl 49) ?_))
      intro W hW hbel
      rw [splice_all _ _ (by rfl)] at hW
      have hqz : Q z.w W := hbel _ _ (Nat.le_refl _) (q_new _ _ _)
      have hq3 : Q w1 W := Q.trans z.q hqz
      have hLi : ∀ y : Wd W, (Instr.loadAt 46 (.pointer (some ⟨z.w.heap.size, 0, none⟩))).run Tryz.prog y.w = .ok (.agg (itA it)) y.w := Wd.load hW.lt (Blk.range hW) Tryz.underlying46 rfl (by kernel_rfl)
      have hcl : ∀ y : Wd W, Calls Tryz.prog 68 #[.agg (itA it), .pointer (some ⟨p1, 0, none⟩)] y.w fun e w' => e = .returned (.tuple #[.agg (claimA it.claim), .int .i64 0, .bool (wantCl key it)]) ∧ Q y.w w' := fun y => wantCl_any p1 key it y.w (hW1 ⟨y.w, Q.trans hq3 y.q⟩) (hP1 ⟨y.w, Q.trans hq3 y.q⟩)
      have hWs := hq3.size
      obtain ⟨v, hv⟩ := Wd.first W
      rw [hv]
      clear hbel hld hv eA hb cI hW1 hP1
      generalize hwt : wantCl key it = wt at *
      go_wp2_with (first | (refine wpList_load_run 46 (.tmp 7) (.pointer (some ⟨z.w.heap.size, 0, none⟩)) (.agg (itA it)) ?_ ?_ ?_ ?_ ?_; rfl; rfl; rfl; exact hLi _) | (go_at_fn 68; refine (hcl _).mono ?_; rintro e w' ⟨rfl, hq2⟩; obtain ⟨y, rfl⟩ := Wd.next _ hq2; clear hq2) | (refine wpList_store_blk (Blk.new y.w 40 claim0.cells.toArray) rfl 40 (.tmp 8) (.tmp 25) it.claim.cells rfl rfl rfl (by kernel_rfl) (claim_all _) (Nat.le_refl 9) ?_))
      intro W2 hB2 hbel2
      rw [splice_all _ _ (by rfl)] at hB2
      have hqy : Q W W2 := hbel2 _ _ y.q.size (Q.trans y.q (q_new _ _ _))
      have hq4 : Q w1 W2 := Q.trans hq3 hqy
      have hLi2 : ∀ y : Wd W2, (Instr.loadAt 46 (.pointer (some ⟨z.w.heap.size, 0, none⟩))).run Tryz.prog y.w = .ok (.agg (itA it)) y.w := fun y => hLi ⟨y.w, Q.trans hqy y.q⟩
      have hLb2 : ∀ u : Wd W2, (Instr.loadAt 40 (.pointer (some ⟨y.w.heap.size, 0, none⟩))).run Tryz.prog u.w = .ok (.agg (claimA it.claim)) u.w := Wd.load hB2.lt (Blk.range hB2) Tryz.underlying40 rfl (by kernel_rfl)
      have hIi : ∀ u : Wd W2, ItemIn u.w it := fun u => hio ⟨u.w, Q.trans (Q.trans hqz hqy) u.q⟩
      have hdg2 : ∀ u : Wd W2, Calls Tryz.prog 48 #[.agg (itA it)] u.w fun e w' => e = .returned (.string (digOf it)) ∧ Q u.w w' := fun u => digest_any it u.w (hTz ⟨u.w, Q.trans (Q.trans hqz hqy) u.q⟩) (hIi u)
      have hownW : ∀ u : Wd W2, Owns u.w w1.heap.size 167 11 (.slice A m c) m ((takeCl key (k.l.take j)).flatMap fclC) := fun u => hown.q (Q.trans (Q.trans hqz hqy) u.q)
      have hrg : ∀ (r : Bool), itemRight it = r → ∀ u : Wd W2, Calls Tryz.prog 37 #[.agg (itA it)] u.w fun e w' => e = .returned (.bool r) ∧ Q u.w w' := fun r hr u => right_at it r u.w (hIi u) hr
      have HQ4 := Lib.hid hq4
      have hWs2 := hq4.size
      obtain ⟨u, hu⟩ := Wd.first W2
      rw [hu]
      clear hbel2 hu hqy hq4 hq3 hqz hLi hcl hio hTz hown hTy hW hB2
      cases wt
      · have HTE := Lib.hid (show takeCl key (k.l.take (j + 1)) = takeCl key (k.l.take j) by rw [HTS.out]; simp)
        go_wp2_with fail
        exact ⟨⟨j + 1, c, m, A, ⟨u.w, Q.trans HQ4.out u.q⟩, rfl, by go_num, rfl, by omega, by omega, hmc, hcm, Lib.hid (by rw [HTE.out]; exact hm.out), by rw [HTE.out]; exact hownW u⟩, by simp only [intOf]; omega⟩
      · cases hr : itemRight it
        · have HTE := Lib.hid (show takeCl key (k.l.take (j + 1)) = takeCl key (k.l.take j) by rw [HTS.out, hr]; simp)
          have hrg0 := hrg false hr
          clear hrg hr
          go_wp2_with (first | (refine wpList_load_run 46 (.tmp 7) (.pointer (some ⟨z.w.heap.size, 0, none⟩)) (.agg (itA it)) ?_ ?_ ?_ ?_ ?_; rfl; rfl; rfl; exact hLi2 _) | (go_at_call 37; refine (hrg0 _).mono ?_; rintro e w' ⟨rfl, hq2⟩; obtain ⟨t, rfl⟩ := Wd.next _ hq2; clear hq2))
          exact ⟨⟨j + 1, c, m, A, ⟨t.w, Q.trans HQ4.out t.q⟩, rfl, by go_num, rfl, by omega, by omega, hmc, hcm, Lib.hid (by rw [HTE.out]; exact hm.out), by rw [HTE.out]; exact hownW t⟩, by simp only [intOf]; omega⟩
        · have HTE := Lib.hid (show takeCl key (k.l.take (j + 1)) = takeCl key (k.l.take j) ++ [foundCl it] by rw [HTS.out, hr]; simp)
          have hrg0 := hrg true hr
          clear hrg hr
          go_wp2_with (first | (refine wpList_load_run 46 (.tmp 7) (.pointer (some ⟨z.w.heap.size, 0, none⟩)) (.agg (itA it)) ?_ ?_ ?_ ?_ ?_; rfl; rfl; rfl; exact hLi2 _) | (go_at_call 37; refine (hrg0 _).mono ?_; rintro e w' ⟨rfl, hq2⟩; obtain ⟨t, rfl⟩ := Wd.next _ hq2; clear hq2))
          refine wp_region_wd_parts t 2 6 (by kernel_rfl) (by kernel_rfl) (by intro c d v a w h; cases d <;> exact h) ?_
          simp only [List.take_succ_cons, List.take_zero, List.drop_succ_cons, List.drop_zero]
          refine wpPure_move (.tmp 5) (.slice A m c) rfl rfl rfl ?_
          dsimp only [Act.put]
          simp only [List.setIfInBounds_toArray, List.set_cons_succ, List.set_cons_zero]
          refine wpPure_move (.tmp 9) (.int .i64 0) rfl rfl rfl ?_
          dsimp only [Act.put]
          simp only [List.setIfInBounds_toArray, List.set_cons_succ, List.set_cons_zero]
          refine wpPure_nil ?_
          refine wpQuiet_load_run 46 (.tmp 7) (.pointer (some ⟨z.w.heap.size, 0, none⟩)) (.agg (itA it)) rfl rfl rfl hLi2 ?_
          dsimp only [Act.put]
          simp only [List.setIfInBounds_toArray, List.set_cons_succ, List.set_cons_zero]
          go_big_quiet_step (first | (go_at_call 48; exact Wd.call _ (hdg2 _)))
          refine wpQuiet_load_run 40 (.tmp 8) (.pointer (some ⟨y.w.heap.size, 0, none⟩)) (.agg (claimA it.claim)) rfl rfl rfl hLb2 ?_
          dsimp only [Act.put]
          simp only [List.setIfInBounds_toArray, List.set_cons_succ, List.set_cons_zero]
          refine wpQuiet_build_run 167 _ #[(0, .int .i64 0), (1, .string (digOf it)), (2, .agg (claimA it.claim))] _ rfl rfl (by simp only [List.map_toArray, List.map_cons, List.map_nil]; rfl) (buildCl_found (0) (digOf it) it.claim) ?_
          dsimp only [Act.put]
          simp only [List.setIfInBounds_toArray, List.set_cons_succ, List.set_cons_zero]
          refine wpQuiet_nil ?_
          rintro w6 ⟨t2, rfl⟩
          refine wpList_buildSlice_run 164 1 _ #[(0, .agg (fclC (foundCl it)).toArray)] _ rfl rfl (by simp only [List.map_toArray, List.map_cons, List.map_nil]; rfl) (bsCl_found (foundCl it) _) ?_
          dsimp only [Act.put]
          simp only [List.setIfInBounds_toArray, List.set_cons_succ, List.set_cons_zero]
          refine wpList_append_rows fcl_len fcl_one rfl (.tmp 33) (.tmp 39) 164 167 i0 _ 112 rfl Tryz.underlying164 hi hz0 hz1 hz2 rfl (by decide) (by decide) w1.heap.size (.slice A m c) m (takeCl key (k.l.take j)) rfl ((hownW t2).alloc (.cells (fclC (foundCl it)).toArray 167)) (some ⟨t2.w.heap.size, 0, none⟩) 1 1 [foundCl it] rfl (RowsAt.one t2.w 167 (foundCl it) _ rfl) rfl (by omega) (by have := t2.q.size; simp; omega) ?_
          intro A5 c5 w5 hc5 hm5 hown5 hg5
          have hq5 : Q w1 w5 := q_grown (Q.trans (Q.trans HQ4.out t2.q) (q_new _ _ _)) (Nat.le_refl _) ((hownW t2).alloc _) hg5
          obtain ⟨y5, rfl⟩ : ∃ y5 : Wd w1, w5 = y5.w := ⟨⟨w5, hq5⟩, rfl⟩
          rw [← HTE.out] at hown5
          have HM5 : Hid (m + 1 = (takeCl key (k.l.take (j + 1))).length) := Lib.hid (by rw [HTE.out, List.length_append, ← hm.out]; rfl)
          clear hownW hg5 hq5 hdg2 hLi2 hLb2 hIi hrg0
          go_wp2_with fail
          exact ⟨⟨j + 1, c5, m + 1, A5, y5, rfl, by go_num, rfl, by omega, by omega, hc5, hm5, HM5, hown5⟩, by simp only [intOf]; omega⟩
    · have hjn : j = k.l.length := by omega
      have hm := hm.out
      rw [hjn, List.take_length] at hown hm
      have hm20 : m ≤ 20 := by omega
      have hso := sortedCl_any A c m w1.heap.size (takeCl key k.l) z.w hm hm20 hown z.q.size
      have hlen : (sortCl (takeCl key k.l)).length = m := by rw [sortCl_length]; exact hm.symm
      have HB := Lib.hid (show listCl key k.l = (sortCl (takeCl key k.l)).map (·.val) from rfl)
      have HZ := Lib.hid z.q
      generalize sortCl (takeCl key k.l) = L at hso hlen HB
      clear hown hm hjn cI hW1 hP1 hKy hTy
      go_wp2_with (first | (go_at_call 125; refine hso.mono ?_; rintro e w6 ⟨rfl, hR6, hb6⟩; have HQ6 := Lib.hid (Below.trans HZ.out hb6); clear hb6 hso; obtain ⟨y6, hy6⟩ := Wd.first w6; rw [hy6]; clear hy6) | (refine wpList_make_own _ rfl _ _ 51 rfl w6.heap.size 40 j0 _ 9 Tryz.underlying51 hji hy0 hy1 .i64 .i64 (m : Int) m rfl rfl rfl (by rw [hy2]; omega) (by simp only [maxLen]; omega) y6.q.size ?_))
      intro w7 hown0 hg0
      have hown : Owns w7 w6.heap.size 40 9 (.slice (some ⟨y6.w.heap.size, 0, none⟩) 0 m) 0 (([] : List ClaimV).flatMap ClaimV.cells) := Owns.of hown0
      have hq7 : Q w6 w7 := Below.grown y6.q hg0 y6.q.size (fun _ h => by cases h)
      obtain ⟨y7, rfl⟩ : ∃ y7 : Wd w6, w7 = y7.w := ⟨⟨w7, hq7⟩, rfl⟩
      have hRy : ∀ y : Wd w6, RowsAt y.w A 11 fclC L := fun y => hR6.q y.q
      clear hown0 hg0 hq7 hR6
      go_wp2_with fail
      go_loopw [11, 49] (fun a i wr => ∃ (j c : Nat) (A : Option Addr) (z : Wd w6), a = .slice A j c ∧ i = .int .i64 j ∧ wr = z.w ∧ j ≤ m ∧ j ≤ c ∧ c ≤ maxLen ∧ Owns z.w w6.heap.size 40 9 (.slice A j c) j (((L.take j).map (·.val)).flatMap ClaimV.cells)) (fun _ i _ => m - (intOf i).toNat)
      case atStart => exact ⟨0, m, _, y7, rfl, rfl, rfl, Nat.zero_le _, Nat.zero_le _, by simp only [maxLen]; omega, hown⟩
      case round =>
        clear hown
        obtain ⟨j2, c2, A2, z2, rfl, rfl, rfl, hj2, hjc2, hcm2, hown⟩ := hrel
        by_cases hlt2 : j2 < m
        · obtain ⟨b, o, eA, hb, hcs⟩ := hRy z2 (by omega)
          have hld : ∀ y : Wd z2.w, (Instr.loadAt 167 (.pointer (some ⟨b, o + j2 * 11, none⟩))).run Tryz.prog y.w = .ok (.agg (fclC (L[j2]'(by omega))).toArray) y.w := Wd.load hb (hcs j2 (by omega)) Tryz.underlying167 rfl (by kernel_rfl)
          have HLS := Lib.hid (show (L.take (j2 + 1)).map (·.val) = (L.take j2).map (·.val) ++ [(L[j2]'(by omega)).val] by rw [List.take_succ_eq_append_getElem (by omega), List.map_append]; rfl)
          rw [eA]
          have hzs2 := z2.q.size
          clear hcs
          generalize L[j2]'(by omega) = e2 at *
          have hbf := Blk.new z2.w 167 (fclC default).toArray
          go_wp2_with (first | (refine wpList_load_run 167 (.tmp 51) (.pointer (some ⟨b, o + j2 * 11, none⟩)) (.agg (fclC e2).toArray) ?_ ?_ ?_ ?_ ?_; rfl; rfl; rfl; exact hld ⟨_, Q.trans (Q.refl _) (Q.refl _)⟩) | (refine wpList_store_blk hbf rfl 167 (.tmp 13) (.tmp 52) (fclC e2) rfl rfl rfl (by kernel_rfl) (fcl_all _) (Nat.le_refl 11) ?_))
          intro W hW hbel
          rw [splice_all _ _ (by rfl)] at hW
          have hqz : Q z2.w W := hbel _ _ (Nat.le_refl _) (q_new _ _ _)
          have hq3 : Q w6 W := Q.trans z2.q hqz
          have hrv : W.rangeAt z2.w.heap.size 2 e2.val.cells := by
            have := range_sub (Blk.range hW) 2 9
            rw [Nat.zero_add] at this
            exact this
          have hLv : ∀ y : Wd W, (Instr.loadAt 40 (.pointer (some ⟨z2.w.heap.size, 2, none⟩))).run Tryz.prog y.w = .ok (.agg (claimA e2.val)) y.w := Wd.load hW.lt hrv Tryz.underlying40 rfl (by kernel_rfl)
          have hownW : ∀ y : Wd W, Owns y.w w6.heap.size 40 9 (.slice A2 j2 c2) j2 (((L.take j2).map (·.val)).flatMap ClaimV.cells) := fun y => hown.q (Q.trans hqz y.q)
          have HQ3 := Lib.hid hq3
          have hWs := hq3.size
          obtain ⟨v, hv⟩ := Wd.first W
          rw [hv]
          clear hW hbel hld hv hqz hq3 hown hrv hbf
          go_wp2_with (first | (refine wpList_load_run 40 (.tmp 54) (.pointer (some ⟨z2.w.heap.size, 2, none⟩)) (.agg (claimA e2.val)) ?_ ?_ ?_ ?_ ?_; rfl; rfl; rfl; exact hLv _) | (refine wpList_buildSlice_run 51 1 _ #[(0, .agg (claimA e2.val))] _ rfl rfl (by simp only [List.map_toArray, List.map_cons, List.map_nil]; rfl) (bsCl_val e2.val _) ?_) | (at_builtin; refine wpList_append_rows valCl_len valCl_one rfl (.tmp 53) (.tmp 56) 51 40 j0 _ 88 rfl Tryz.underlying51 hji hy0 hy1 hy2 rfl (by decide) (by decide) w6.heap.size (.slice A2 j2 c2) j2 ((L.take j2).map (·.val)) rfl ((hownW v).alloc (.cells (claimA e2.val) 40)) (some ⟨v.w.heap.size, 0, none⟩) 1 1 [e2.val] rfl (RowsAt.one v.w 40 e2.val _ rfl) rfl (by omega) (by have := v.q.size; simp; omega) ?_))
          intro A5 c5 w5 hc5 hm5 hown5 hg5
          have hq5 : Q w6 w5 := q_grown (Q.trans (Q.trans HQ3.out v.q) (q_new _ _ _)) (Nat.le_refl _) ((hownW v).alloc _) hg5
          obtain ⟨y5, rfl⟩ : ∃ y5 : Wd w6, w5 = y5.w := ⟨⟨w5, hq5⟩, rfl⟩
          have e5 : List.flatMap ClaimV.cells (List.take j2 (List.map (fun x => x.val) L)) ++ e2.val.cells = ((L.take (j2 + 1)).map (·.val)).flatMap ClaimV.cells := by
            rw [HLS.out, List.flatMap_append, List.map_take]
            simp
          rw [e5] at hown5
          clear hownW hg5 hq5 hLv e5
          go_wp2_with fail
          exact ⟨⟨j2 + 1, c5, A5, y5, rfl, by go_num, rfl, by omega, hc5, hm5, hown5⟩, by simp only [intOf]; omega⟩
        · have hjn : j2 = m := by omega
          have hall : L.take j2 = L := List.take_of_length_le (by omega)
          rw [hall, ← HB.out] at hown
          have hl : (listCl key k.l).length = j2 := by rw [HB.out, List.length_map, hlen, hjn]
          have hfin : ListClAre (listCl key k.l) w (.returned (.slice A2 j2 c2)) z2.w := ⟨A2, c2, by rw [hl], by omega, hcm2, Owns.rows valCl_len hown hl.symm, Q.trans HQ.out (Below.trans HQ6.out (Below.mono z2.q (by have := HQ6.out.size; omega)))⟩
          have HF := Lib.hid hfin
          clear hfin hl hall hown
          go_wp2_with fail
          go_ret
          exact HF.out

set_option maxRecDepth 100000 in
set_option maxHeartbeats 2000000 in
theorem allCl_any (k : KR) (key : ByteArray) (w : World) (hT : Tab w) (hK : KIn w k) (hn : k.l.length ≤ 20) :
    Calls Tryz.prog 18 #[.agg (knA k), .string key] w (ListClAre (listCl key k.l) w) := by
  have b1 := Blk.new w 25 (knA k)
  have q1 := q_new w (knA k) 25
  have b2 := Blk.new' (g := w.heap.size + 1) (w.alloc (.cells (knA k) 25)) 9 #[.string key] (by simp)
  have q2 := q_new (w.alloc (.cells (knA k) 25)) #[.string key] 9
  have b1 := b1.q q2
  have hq := Q.trans q1 q2
  obtain ⟨w3, hw3⟩ : ∃ w3, w3 = (w.alloc (.cells (knA k) 25)).alloc (.cells #[.string key] 9) := ⟨_, rfl⟩
  rw [← hw3] at b1 b2 hq
  have hLk := Wd.load (P := Tryz.prog) (ty := 25) b1.lt (Blk.range b1) Tryz.underlying25 rfl (by kernel_rfl) ⟨w3, Q.refl w3⟩
  have hp := pickCl_any k (w.heap.size + 1) key w3 (hT.q hq) (hK.q hq) (b2.cell 0) b2.lt hn
  have HX := Lib.hid hw3
  have HQ := Lib.hid hq
  clear q1 q2 b1 b2 hq hw3
  go_enter Tryz.func18, Tryz.ntmps18
  go_upto_region 1 with (fail)
  refine (show Code.wp _ _ _ _ w3 → Code.wp _ _ _ _ _ from fun h => by rw [HX.out] at h; exact h) ?_
  go_wp2_with (first | (refine wpList_load_run 25 (.tmp 2) (.pointer (some ⟨w.heap.size, 0, none⟩)) (.agg (knA k)) ?_ ?_ ?_ ?_ ?_; rfl; rfl; rfl; exact hLk) | (go_at_call 67; refine hp.mono ?_; rintro e w' ⟨A, c, rfl, h1, h2, h3, hq4⟩))
  go_ret
  exact ⟨A, c, rfl, h1, h2, h3, Q.trans HQ.out hq4⟩
end Go.Proofs.YtomkeaeegdjhnaaGreatDoor.Known

namespace Go.Proofs.YtomkeaeegdjhnaaGreatDoor.Known
open Go.RowKit Grp Mem _root_.Go.Proofs.YtomkeaeegdjhnaaGreatDoor.Code Sha Sign _root_.Go.Proofs.YtomkeaeegdjhnaaGreatDoor.Item

instance : Inhabited DecR := ⟨dec0⟩
abbrev fdeC : Found DecR → List Value := Found.cells DecR.cells
theorem fde_len (x : Found DecR) : (fdeC x).length = 14 := rfl
theorem fde_one (x : Found DecR) : ∀ v ∈ fdeC x, v.oneCell' = true := by
  intro v hv
  simp only [fdeC, Found.cells, DecR.cells, List.mem_cons, List.not_mem_nil, or_false] at hv
  rcases hv with rfl | rfl | rfl | rfl | rfl | rfl | rfl | rfl | rfl | rfl | rfl | rfl | rfl | rfl <;> rfl

set_option maxRecDepth 100000 in
set_option maxHeartbeats 1000000 in
/-- pick's comparison, at ballots: it lays blocks of its own alone. -/
theorem cmpDe_any (x y : Found DecR) (W : World) : Calls Tryz.prog 130 #[.agg (fdeC x).toArray, .agg (fdeC y).toArray] W fun e w' => e = .returned (.int .i64 (cmpF x y)) ∧ ∃ q os', w' = Go.Sort.grow (W.drewN q) os' := by
  have hci := fun W' => Tryz.cmp_Compare_int x.rank y.rank W'
  have hcs := fun W' => compareS_any x.dig y.dig W'
  have HR : Hid (cmpF x y = orI (Lib.compareInt x.rank y.rank) (cmpS x.dig y.dig)) := Lib.hid rfl
  generalize cmpF x y = r at HR ⊢
  have b1 := Blk.new W 179 (fdeC x).toArray
  have b2 := Blk.new' (g := W.heap.size + 1) (W.alloc (.cells (fdeC x).toArray 179)) 179 (fdeC y).toArray (by simp)
  have b1 := b1.q (q_new (W.alloc (.cells (fdeC x).toArray 179)) (fdeC y).toArray 179)
  obtain ⟨W1, hW1⟩ : ∃ W1, W1 = (W.alloc (.cells (fdeC x).toArray 179)).alloc (.cells (fdeC y).toArray 179) := ⟨_, rfl⟩
  rw [← hW1] at b1 b2
  have c0 : ∀ n, (W1.drewN n).cell? ⟨W.heap.size, 0, none⟩ = some (.int .i64 x.rank) := fun n => b1.cell 0
  have c1 : ∀ n, (W1.drewN n).cell? ⟨W.heap.size, 1, none⟩ = some (.string x.dig) := fun n => b1.cell 1
  have c2 : ∀ n, (W1.drewN n).cell? ⟨W.heap.size + 1, 0, none⟩ = some (.int .i64 y.rank) := fun n => b2.cell 0
  have c3 : ∀ n, (W1.drewN n).cell? ⟨W.heap.size + 1, 1, none⟩ = some (.string y.dig) := fun n => b2.cell 1
  have HX := Lib.hid hW1
  clear hW1 b1 b2
  generalize Lib.compareInt x.rank y.rank = ri at *
  generalize cmpS x.dig y.dig = rs at *
  go_enter Tryz.func130, Tryz.ntmps130
  go_upto_region 1 with (fail)
  refine (show Code.wp _ _ _ _ W1 → Code.wp _ _ _ _ _ from fun h => by rw [HX.out] at h; exact h) ?_
  refine wp_region_open (C := fun w' => ∃ n, w' = W1.drewN n) 10 (by kernel_rfl) (by kernel_rfl) ⟨1, rfl⟩ ?_
  simp only [List.take_succ_cons, List.take_zero]
  repeat (quiet_step (first | (go_at_call 121; exact Calls.quiet_of_same (hci _)) | (go_at_call 122; exact Calls.quiet_of_same (hcs _))))
  refine wpQuiet_nil ?_
  rintro w' ⟨n, rfl⟩
  have hb := Blk.new (W1.drewN n) 3 #[.int .i64 ri, .int .i64 rs]
  have hor := or_any (W1.drewN n).heap.size 0 2 ri rs _ (hb.cell 0) (hb.cell 1)
  have HE : Hid (∃ q os', (W1.drewN n).alloc (.cells #[.int .i64 ri, .int .i64 rs] 3) = Go.Sort.grow (W.drewN q) os') := Lib.hid ⟨n, _, by rw [HX.out]; exact grow3 W n _ _ _⟩
  clear hb
  refine any_one 10 rfl (by kernel_rfl) rfl (fun K' hK' => ?_)
  go_simp
  refine hK' _ _ ?_
  clear hK' K'
  try simp only [Act.put, List.setIfInBounds_toArray, List.set_cons_succ, List.set_cons_zero]
  refine any_one 11 rfl (by kernel_rfl) rfl (fun K' hK' => ?_)
  go_simp
  refine hor.mono ?_
  rintro e w2 ⟨rfl, rfl⟩
  refine hK' _ _ ?_
  clear hK' K' hor
  try simp only [Act.put, List.setIfInBounds_toArray, List.set_cons_succ, List.set_cons_zero]
  rw [← HR.out]
  refine any_pure 12 (v := .int .i64 r) rfl (by kernel_rfl) (by kernel_rfl) (by kernel_rfl) (by intro c d v a w h; cases d <;> exact h) rfl (fun w => by rfl) ?_
  try simp only [Act.put, List.setIfInBounds_toArray, List.set_cons_succ, List.set_cons_zero]
  refine any_done (by kernel_rfl) ?_ _
  go_wp2_with fail
  go_ret
  exact ⟨rfl, HE.out⟩


set_option maxRecDepth 100000 in
set_option maxHeartbeats 1000000 in
theorem stableDe_lt (g cap : Nat) (d : Array (Found DecR)) (w : World) (hH : Go.Sort.HoldsK fdeC 14 w g 0 d) (hg : g < w.heap.size) (hd : d.size < 20) :
    Calls Tryz.prog 129 #[.slice (some ⟨g, 0, none⟩) d.size cap, .func (.func 130) #[] #[]] w fun e w' => e = .returned (.tuple #[]) ∧ ∃ n os, w' = sortWorldK fdeC 14 w g 0 n (sortA d) os := by
  have hins : Calls Tryz.prog 232 #[.slice (some ⟨g, 0, none⟩) d.size cap, .int .i64 (0 : Nat), .int .i64 (d.size : Nat), .func (.func 130) #[] #[]] w fun e w' => e = .returned (.tuple #[]) ∧ ∃ n os, w' = sortWorldK fdeC 14 w g 0 n (sortA d) os :=
    AnyQ.insertionSortCmpFunc Tryz.insDecision 14 Tryz.isAgg179 Tryz.sizeOf179 fdeC fde_len fde_one cmpF 130 #[] g 0 cap 0 d.size d w (enters_of Tryz.func130 (by kernel_rfl) rfl) (fun _ _ _ _ x y => cmpDe_any x y _) hH hg (Nat.zero_le _) (Nat.le_refl _) (by omega)
  have hst : Calls Tryz.prog 176 #[.slice (some ⟨g, 0, none⟩) d.size cap, .int .i64 (d.size : Nat), .func (.func 130) #[] #[]] w fun e w' => e = .returned (.tuple #[]) ∧ ∃ n os, w' = sortWorldK fdeC 14 w g 0 n (sortA d) os := by
    clear hH
    generalize sortA d = r at hins ⊢
    go_enter Tryz.func176, Tryz.ntmps176
    go_wp2_with fail
    refine wp_loop_rounds 1 ?_
    rw [rounds_succ]
    go_wp2_with (go_at_call 232; refine hins.mono ?_; rintro e w' ⟨rfl, n, os, rfl⟩)
    refine wp_loop_rounds 1 ?_
    rw [rounds_succ]
    go_wp2_with fail
    go_end0
    exact ⟨rfl, n, os, rfl⟩
  clear hins hH
  generalize sortA d = r at hst ⊢
  go_enter Tryz.func129, Tryz.ntmps129
  go_wp2_with (go_at_call 176; refine hst.mono ?_; rintro e w' ⟨rfl, n, os, rfl⟩)
  go_end0
  exact ⟨rfl, n, os, rfl⟩

set_option maxRecDepth 100000 in
set_option maxHeartbeats 1000000 in
theorem insEndDe (A : Option Addr) (cap : Nat) (w : World) :
    Calls Tryz.prog 232 #[.slice A 20 cap, .int .i64 20, .int .i64 20, .func (.func 130) #[] #[]] w fun e w' => e = .returned (.tuple #[]) ∧ w' = w := by
  go_enter Tryz.func232, Tryz.ntmps232
  go_wp2_with fail
  refine wp_loop_rounds 1 ?_
  rw [rounds_succ]
  go_wp2_with fail
  go_end0
  exact ⟨rfl, rfl⟩

set_option maxRecDepth 100000 in
set_option maxHeartbeats 1000000 in
theorem stableDe_eq (g cap : Nat) (d : Array (Found DecR)) (w : World) (hH : Go.Sort.HoldsK fdeC 14 w g 0 d) (hg : g < w.heap.size) (hd : d.size = 20) :
    Calls Tryz.prog 129 #[.slice (some ⟨g, 0, none⟩) d.size cap, .func (.func 130) #[] #[]] w fun e w' => e = .returned (.tuple #[]) ∧ ∃ n os, w' = sortWorldK fdeC 14 w g 0 n (sortA d) os := by
  have hins : Calls Tryz.prog 232 #[.slice (some ⟨g, 0, none⟩) d.size cap, .int .i64 (0 : Nat), .int .i64 (d.size : Nat), .func (.func 130) #[] #[]] w fun e w' => e = .returned (.tuple #[]) ∧ ∃ n os, w' = sortWorldK fdeC 14 w g 0 n (sortA d) os :=
    AnyQ.insertionSortCmpFunc Tryz.insDecision 14 Tryz.isAgg179 Tryz.sizeOf179 fdeC fde_len fde_one cmpF 130 #[] g 0 cap 0 d.size d w (enters_of Tryz.func130 (by kernel_rfl) rfl) (fun _ _ _ _ x y => cmpDe_any x y _) hH hg (Nat.zero_le _) (Nat.le_refl _) (by omega)
  have hst : Calls Tryz.prog 176 #[.slice (some ⟨g, 0, none⟩) d.size cap, .int .i64 (d.size : Nat), .func (.func 130) #[] #[]] w fun e w' => e = .returned (.tuple #[]) ∧ ∃ n os, w' = sortWorldK fdeC 14 w g 0 n (sortA d) os := by
    clear hH
    generalize sortA d = r at hins ⊢
    rw [hd, show ((20 : Nat) : Int) = 20 from rfl, show ((0 : Nat) : Int) = 0 from rfl] at hins
    rw [hd, show ((20 : Nat) : Int) = 20 from rfl]
    go_enter Tryz.func176, Tryz.ntmps176
    go_wp2_with fail
    refine wp_loop_rounds 2 ?_
    rw [rounds_succ]
    go_wp2_with (go_at_call 232; refine hins.mono ?_; rintro e w' ⟨rfl, n, os, rfl⟩)
    rw [rounds_succ]
    go_wp2_with (go_at_call 232; refine (insEndDe _ _ _).mono ?_; rintro e w' ⟨rfl, rfl⟩)
    refine wp_loop_rounds 1 ?_
    rw [rounds_succ]
    go_wp2_with fail
    go_end0
    exact ⟨rfl, n, os, rfl⟩
  clear hins hH
  generalize sortA d = r at hst ⊢
  have hd' : d.size ≤ 20 := by omega
  clear hd
  go_enter Tryz.func129, Tryz.ntmps129
  go_wp2_with (go_at_call 176; refine hst.mono ?_; rintro e w' ⟨rfl, n, os, rfl⟩)
  go_end0
  exact ⟨rfl, n, os, rfl⟩

theorem stableDe_any (g cap : Nat) (d : Array (Found DecR)) (w : World) (hH : Go.Sort.HoldsK fdeC 14 w g 0 d) (hg : g < w.heap.size) (hd : d.size ≤ 20) :
    Calls Tryz.prog 129 #[.slice (some ⟨g, 0, none⟩) d.size cap, .func (.func 130) #[] #[]] w fun e w' => e = .returned (.tuple #[]) ∧ ∃ n os, w' = sortWorldK fdeC 14 w g 0 n (sortA d) os := by
  rcases Nat.lt_or_eq_of_le hd with h | h
  · exact stableDe_lt g cap d w hH hg h
  · exact stableDe_eq g cap d w hH hg h

set_option maxRecDepth 100000 in
set_option maxHeartbeats 1000000 in
theorem stableDe_nil (w : World) :
    Calls Tryz.prog 129 #[.slice none 0 0, .func (.func 130) #[] #[]] w fun e w' => e = .returned (.tuple #[]) ∧ w' = w := by
  have hins : Calls Tryz.prog 232 #[.slice none 0 0, .int .i64 0, .int .i64 0, .func (.func 130) #[] #[]] w fun e w' => e = .returned (.tuple #[]) ∧ w' = w := by
    go_enter Tryz.func232, Tryz.ntmps232
    go_wp2_with fail
    refine wp_loop_rounds 1 ?_
    rw [rounds_succ]
    go_wp2_with fail
    go_end0
    exact ⟨rfl, rfl⟩
  have hst : Calls Tryz.prog 176 #[.slice none 0 0, .int .i64 0, .func (.func 130) #[] #[]] w fun e w' => e = .returned (.tuple #[]) ∧ w' = w := by
    go_enter Tryz.func176, Tryz.ntmps176
    go_wp2_with fail
    refine wp_loop_rounds 1 ?_
    rw [rounds_succ]
    go_wp2_with (go_at_call 232; refine hins.mono ?_; rintro e w' ⟨rfl, hw⟩; rw [hw])
    refine wp_loop_rounds 1 ?_
    rw [rounds_succ]
    go_wp2_with fail
    go_end0
    exact ⟨rfl, rfl⟩
  go_enter Tryz.func129, Tryz.ntmps129
  go_wp2_with (go_at_call 176; refine hst.mono ?_; rintro e w' ⟨rfl, hw⟩; rw [hw])
  go_end0
  exact ⟨rfl, rfl⟩

/-- Is an item wanted? -/
def wantDe (key : Int) (x : ItemR) : Bool := decide (x.kind = 3) && decide (x.dec.server = key)
structure WantFDe (w : World) (x : ItemR) (w' : World) : Prop where
  q : Q w w'
  it : Blk w' w.heap.size 46 x.cells.toArray
  b : Blk w' (w.heap.size + 1 + 1) 44 x.dec.cells.toArray
  r : ∃ cs : List Value, cs.length = 12 ∧ Blk w' (w.heap.size + 1) 44 cs.toArray
structure WantWDe (w0 : World) (x : ItemR) where
  w : World
  f : WantFDe w0 x w
set_option maxRecDepth 100000 in
set_option maxHeartbeats 2000000 in
theorem wantDe_any (p1 : Nat) (key : Int) (x : ItemR) (w : World) (h1 : w.cell? ⟨p1, 0, none⟩ = some (.int .i64 key)) (hp1 : p1 < w.heap.size) :
    Calls Tryz.prog 72 #[.agg (itA x), .pointer (some ⟨p1, 0, none⟩)] w fun e w' => e = .returned (.tuple #[.agg (decA x.dec), .int .i64 x.dec.number, .bool (wantDe key x)]) ∧ Q w w' := by
  have hbi := Blk.new w 46 (itA x)
  have hq1 := q_new w (itA x) 46
  have hbr := Blk.new' (g := w.heap.size + 1) (w.alloc (.cells (itA x) 46)) 44 (decA dec0) (by simp)
  have hq2 := q_new (w.alloc (.cells (itA x) 46)) (decA dec0) 44
  have hbi := hbi.q hq2
  have hq := Q.trans hq1 hq2
  clear hq1 hq2
  obtain ⟨w2, hw2⟩ : ∃ w2, w2 = (w.alloc (.cells (itA x) 46)).alloc (.cells (decA dec0) 44) := ⟨_, rfl⟩
  rw [← hw2] at hbi hbr hq
  have hw2s : w2.heap.size = w.heap.size + 1 + 1 := by rw [hw2]; simp
  have hLd : ∀ y : Wd w2, (Instr.loadAt 44 (.pointer (some ⟨w.heap.size, 37, none⟩))).run Tryz.prog y.w = .ok (.agg (decA x.dec)) y.w := item_dec hbi.lt (Blk.range hbi)
  have HX := Lib.hid hw2
  clear hw2
  have hbb := Blk.new' (g := w.heap.size + 1 + 1) w2 44 dec0.cells.toArray hw2s.symm
  go_enter Tryz.func72, Tryz.ntmps72
  go_upto_region 1 with (fail)
  refine (show Code.wp _ _ _ _ w2 → Code.wp _ _ _ _ _ from fun h => by rw [HX.out] at h; exact h) ?_
  go_wp2_with (first | (refine wpList_load_run 44 (.tmp 7) (.pointer (some ⟨w.heap.size, 37, none⟩)) (.agg (decA x.dec)) ?_ ?_ ?_ ?_ ?_; rfl; rfl; rfl; exact hLd ⟨_, Q.refl _⟩) | (refine wpList_store_blk hbb rfl 44 (.tmp 6) (.tmp 8) x.dec.cells rfl rfl rfl (by kernel_rfl) (dec_all _) (Nat.le_refl 12) ?_))
  intro W hW hbel
  rw [splice_all _ _ (by rfl)] at hW
  have hqW2 : Q w2 W := hbel _ _ (by omega) (q_new _ _ _)
  have hF : WantFDe w x W := ⟨Q.trans hq hqW2, hbi.q hqW2, hW, dec0.cells, rfl, hbr.q hqW2⟩
  clear hW hbel hqW2 hbb hLd hbr hq HX hw2s
  have hFd : ∃ y : WantWDe w x, ({ W with drawn := W.drawn + 1 } : World) = y.w := ⟨⟨_, ⟨hF.q.drew, hF.it, hF.b, hF.r⟩⟩, rfl⟩
  have cK : ∀ y : WantWDe w x, y.w.cell? ⟨w.heap.size, 0, none⟩ = some (.int .i64 x.kind) := fun y => y.f.it.cell 0
  have cA : ∀ y : WantWDe w x, y.w.cell? ⟨w.heap.size + 1 + 1, 0, none⟩ = some (.int .i64 x.dec.server) := fun y => y.f.b.cell 0
  have cR : ∀ y : WantWDe w x, y.w.cell? ⟨w.heap.size + 1 + 1, 1, none⟩ = some (.int .i64 x.dec.number) := fun y => y.f.b.cell 1
  have c1 : ∀ y : WantWDe w x, y.w.cell? ⟨p1, 0, none⟩ = some (.int .i64 key) := fun y => (y.f.q.cell (p := ⟨p1, 0, none⟩) hp1).trans h1
  have hLb : ∀ z, (∃ y : WantWDe w x, z = y.w) → (Instr.loadAt 44 (.pointer (some ⟨w.heap.size + 1 + 1, 0, none⟩))).run Tryz.prog z = .ok (.agg (decA x.dec)) z := by
    rintro z ⟨y, rfl⟩
    exact Wd.load (P := Tryz.prog) (w0 := y.w) y.f.b.lt (Blk.range y.f.b) Tryz.underlying44 rfl (by kernel_rfl) ⟨y.w, Q.refl _⟩
  have HR : Hid (wantDe key x = (decide (x.kind = 3) && decide (x.dec.server = key))) := Lib.hid rfl
  haveI hNE : Nonempty (WantWDe w x) := ⟨⟨W, hF⟩⟩
  clear hF h1 hbi
  by_cases hk : x.kind = 3
  · rw [decide_eq_true hk, Bool.true_and] at HR
    go_wp2_with fail
    refine wp_region_reads (S := fun w' => ∃ y : WantWDe w x, w' = y.w) 12 (by kernel_rfl) (by kernel_rfl) (by intro c a d v w h; cases d <;> exact h) hFd ?_
    simp only [List.take_succ_cons, List.take_zero]
    refine wpQuiet_load_S 44 (.tmp 6) (.pointer (some ⟨w.heap.size + 1 + 1, 0, none⟩)) (.agg (decA x.dec)) rfl rfl rfl hLb ?_
    dsimp only [Act.put]
    simp only [List.setIfInBounds_toArray, List.set_cons_succ, List.set_cons_zero]
    repeat (go_big_quiet_step (fail))
    refine wpQuiet_nil ?_
    rintro w' ⟨y, rfl⟩
    obtain ⟨cs, hcs, hbr⟩ := y.f.r
    refine held_one 12 rfl (by kernel_rfl) rfl (fun K' hK' => ?_)
    refine wp_store_mid 44 (.tmp 3) (.tmp 9) rfl (w.heap.size + 1) 0 (decA x.dec) rfl rfl (show y.w.there (w.heap.size + 1) 0 12 by simpa using hbr.there (n := 12) (Nat.le_of_eq hcs.symm)) (by kernel_rfl) (dec_all _) ?_
    have hsc : Blk (y.w.setCells (w.heap.size + 1) 0 x.dec.cells) (w.heap.size + 1) 44 x.dec.cells.toArray := by
      have := Blk.setCells x.dec.cells 0 _ y.w hbr (Nat.le_of_eq (by rw [hcs]; rfl))
      rwa [splice_all _ _ (by rw [hcs]; rfl)] at this
    have hfar := fun b (hne : b ≠ w.heap.size + 1) => setCells_far (g := w.heap.size + 1) hne x.dec.cells 0 y.w
    have hqs : Q w (y.w.setCells (w.heap.size + 1) 0 x.dec.cells) := below_setCells (Nat.le_succ _) x.dec.cells 0 w y.w y.f.q
    have hFN : WantFDe w x (y.w.setCells (w.heap.size + 1) 0 x.dec.cells) := ⟨hqs, (hfar _ (by omega)).trans y.f.it, (hfar _ (by omega)).trans y.f.b, x.dec.cells, rfl, hsc⟩
    refine hK' _ _ ⟨⟨_, hFN⟩, rfl⟩ ?_
    clear hK' K' hbr hfar
    have HZ := Lib.hid hsc
    have HQ := Lib.hid hqs
    clear hsc hqs
    simp only [Act.put, List.setIfInBounds_toArray, List.set_cons_succ, List.set_cons_zero]
    refine held_pure 13 (v := .int .i64 x.dec.number) rfl (by kernel_rfl) (by kernel_rfl) (by kernel_rfl) (by intro c a d v w h; cases d <;> exact h) rfl ⟨⟨_, hFN⟩, rfl⟩ (fun w => by rfl) ?_
    simp only [Act.put, List.setIfInBounds_toArray, List.set_cons_succ, List.set_cons_zero]
    refine held_pure 14 (v := .bool (x.dec.server == key)) rfl (by kernel_rfl) (by kernel_rfl) (by kernel_rfl) (by intro c a d v w h; cases d <;> exact h) rfl ⟨⟨_, hFN⟩, rfl⟩ (fun w => by rfl) ?_
    simp only [Act.put, List.setIfInBounds_toArray, List.set_cons_succ, List.set_cons_zero]
    refine wpAnyH_done (by kernel_rfl) ?_ _
    go_wp2_with fail
    exact bodyPost_ret (results_row_tmp2 rfl _ _ (w.heap.size + 1) 44 (decA x.dec) (0, 0) _ _ _ rfl rfl rfl HZ.out Tryz.underlying44 rfl (by kernel_rfl)) rfl ⟨by rw [HR.out, ← beq_int]; rfl, HQ.out⟩
  · rw [decide_eq_false hk, Bool.false_and] at HR
    have hkb : (x.kind == 3) = false := by simpa using hk
    go_wp2_with fail
    refine wp_region_reads (S := fun w' => ∃ y : WantWDe w x, w' = y.w) 12 (by kernel_rfl) (by kernel_rfl) (by intro c a d v w h; cases d <;> exact h) hFd ?_
    simp only [List.take_succ_cons, List.take_zero]
    refine wpQuiet_load_S 44 (.tmp 6) (.pointer (some ⟨w.heap.size + 1 + 1, 0, none⟩)) (.agg (decA x.dec)) rfl rfl rfl hLb ?_
    dsimp only [Act.put]
    simp only [List.setIfInBounds_toArray, List.set_cons_succ, List.set_cons_zero]
    repeat (go_big_quiet_step (fail))
    refine wpQuiet_nil ?_
    rintro w' ⟨y, rfl⟩
    obtain ⟨cs, hcs, hbr⟩ := y.f.r
    refine held_one 12 rfl (by kernel_rfl) rfl (fun K' hK' => ?_)
    refine wp_store_mid 44 (.tmp 3) (.tmp 9) rfl (w.heap.size + 1) 0 (decA x.dec) rfl rfl (show y.w.there (w.heap.size + 1) 0 12 by simpa using hbr.there (n := 12) (Nat.le_of_eq hcs.symm)) (by kernel_rfl) (dec_all _) ?_
    have hsc : Blk (y.w.setCells (w.heap.size + 1) 0 x.dec.cells) (w.heap.size + 1) 44 x.dec.cells.toArray := by
      have := Blk.setCells x.dec.cells 0 _ y.w hbr (Nat.le_of_eq (by rw [hcs]; rfl))
      rwa [splice_all _ _ (by rw [hcs]; rfl)] at this
    have hfar := fun b (hne : b ≠ w.heap.size + 1) => setCells_far (g := w.heap.size + 1) hne x.dec.cells 0 y.w
    have hqs : Q w (y.w.setCells (w.heap.size + 1) 0 x.dec.cells) := below_setCells (Nat.le_succ _) x.dec.cells 0 w y.w y.f.q
    have hFN : WantFDe w x (y.w.setCells (w.heap.size + 1) 0 x.dec.cells) := ⟨hqs, (hfar _ (by omega)).trans y.f.it, (hfar _ (by omega)).trans y.f.b, x.dec.cells, rfl, hsc⟩
    refine hK' _ _ ⟨⟨_, hFN⟩, rfl⟩ ?_
    clear hK' K' hbr hfar
    have HZ := Lib.hid hsc
    have HQ := Lib.hid hqs
    clear hsc hqs
    simp only [Act.put, List.setIfInBounds_toArray, List.set_cons_succ, List.set_cons_zero]
    refine held_pure 13 (v := .int .i64 x.dec.number) rfl (by kernel_rfl) (by kernel_rfl) (by kernel_rfl) (by intro c a d v w h; cases d <;> exact h) rfl ⟨⟨_, hFN⟩, rfl⟩ (fun w => by rfl) ?_
    simp only [Act.put, List.setIfInBounds_toArray, List.set_cons_succ, List.set_cons_zero]
    refine held_pure 14 (v := .bool false) rfl (by kernel_rfl) (by kernel_rfl) (by kernel_rfl) (by intro c a d v w h; cases d <;> exact h) rfl ⟨⟨_, hFN⟩, rfl⟩ (fun w => by rfl) ?_
    simp only [Act.put, List.setIfInBounds_toArray, List.set_cons_succ, List.set_cons_zero]
    refine wpAnyH_done (by kernel_rfl) ?_ _
    go_wp2_with fail
    exact bodyPost_ret (results_row_tmp2 rfl _ _ (w.heap.size + 1) 44 (decA x.dec) (0, 0) _ _ _ rfl rfl rfl HZ.out Tryz.underlying44 rfl (by kernel_rfl)) rfl ⟨by rw [HR.out]; rfl, HQ.out⟩

def foundDe (x : ItemR) : Found DecR := ⟨x.dec.number, digOf x, x.dec⟩
def takeDe (key : Int) (l : List ItemR) : List (Found DecR) := (l.filter fun x => wantDe key x && itemRight x).map foundDe
theorem takeDe_step (key : Int) (l : List ItemR) (j : Nat) (h : j < l.length) : takeDe key (l.take (j + 1)) = takeDe key (l.take j) ++ if wantDe key l[j] && itemRight l[j] then [foundDe l[j]] else [] := by
  unfold takeDe
  rw [List.take_succ_eq_append_getElem h, List.filter_append, List.map_append]
  congr 1
  cases hw : wantDe key l[j] && itemRight l[j] <;> simp [List.filter, hw]
theorem takeDe_le (key : Int) (l : List ItemR) (j : Nat) : (takeDe key (l.take j)).length ≤ j := by
  unfold takeDe
  rw [List.length_map]
  refine Nat.le_trans (List.length_filter_le _ _) ?_
  rw [List.length_take]
  omega
def sortDe (l : List (Found DecR)) : List (Found DecR) := (sortA l.toArray).toList
def listDe (key : Int) (l : List ItemR) : List DecR := (sortDe (takeDe key l)).map (·.val)
theorem sortDe_length (l : List (Found DecR)) : (sortDe l).length = l.length := by
  unfold sortDe sortA Go.Sort.insertionSort
  rw [Array.length_toList, size_insO _ _ _ _ _ _ rfl, List.size_toArray]

theorem sortDe_nil : sortDe [] = [] := List.length_eq_zero_iff.1 (sortDe_length [])
/-- The sort, of an own row. -/
theorem sortedDe_any (A : Option Addr) (c m base : Nat) (l : List (Found DecR)) (w : World) (hm : m = l.length) (h20 : m ≤ 20) (h : Owns w base 179 14 (.slice A m c) m (l.flatMap fdeC)) (hB : base ≤ w.heap.size) :
    Calls Tryz.prog 129 #[.slice A m c, .func (.func 130) #[] #[]] w fun e w' => e = .returned (.tuple #[]) ∧ (RowsAt w' A 14 fdeC (sortDe l) ∧ Below base w w') := by
  rcases h.2 with ⟨e1, h0⟩ | ⟨g, cap, cur, fz, hv, hb, hg, _⟩
  · injection e1 with hA _ hc
    subst hA hc
    have hl : l = [] := List.length_eq_zero_iff.1 (by omega)
    subst hl
    subst hm
    refine (stableDe_nil w).mono ?_
    rintro e w' ⟨rfl, rfl⟩
    exact ⟨rfl, by rw [sortDe_nil]; exact RowsAt.nil _ _ _ _, Below.refl _ _⟩
  · injection hv with hA _ hc
    subst hA
    rcases Nat.eq_zero_or_pos m with h0 | h0
    · have hl : l = [] := List.length_eq_zero_iff.1 (by omega)
      subst hl
      have hH : Go.Sort.HoldsK fdeC 14 w g 0 (#[] : Array (Found DecR)) := fun t ht => by rw [Go.Sort.size_flatK] at ht; simp at ht
      have := stableDe_any g c #[] w hH (Array.getElem?_eq_some_iff.1 hg).1 (by simp)
      subst hm
      refine this.mono ?_
      rintro e w' ⟨rfl, n, os, rfl⟩
      exact ⟨rfl, by rw [sortDe_nil]; exact RowsAt.nil _ _ _ _, below_sort (Below.refl _ _) hb hB⟩
    · obtain ⟨hH, hb', hg'⟩ := holds_of fde_len h hm h0
      subst hm
      have hs : (l.toArray).size = l.length := by simp
      have hsa : (sortA l.toArray).size = l.toArray.size := by
        unfold sortA Go.Sort.insertionSort
        rw [size_insO _ _ _ _ _ _ rfl]
      have := stableDe_any g c l.toArray w hH hg' (by rw [hs]; exact h20)
      rw [hs] at this
      refine this.mono ?_
      rintro e w' ⟨rfl, n, os, rfl⟩
      refine ⟨rfl, rows_of fde_len (holdsK_sortWorldK_c fdeC 14 w g 0 l.toArray _ n os hH hg' hsa) ?_, below_sort (Below.refl _ _) hb hB⟩
      exact Nat.lt_of_lt_of_le hg' (size_sortWorldK_c fdeC 14 w g 0 n _ os)

theorem foundDe_info : (Tryz.prog.info? 179).map (fun i => (i.zero, i.size, i.bytes)) = some (some (.agg (fdeC default).toArray), 14, 160) := by kernel_rfl
theorem valDe_info : (Tryz.prog.info? 44).map (fun i => (i.zero, i.size, i.bytes)) = some (some (.agg (decA dec0)), 12, 136) := by kernel_rfl
theorem fde_all (x : Found DecR) : (fdeC x).toArray.all (·.oneCell') = true := by
  rw [Array.all_eq_true_iff_forall_mem]
  intro v hv
  exact fde_one x v (by simpa using hv)
theorem buildDe_found (n : Int) (d : ByteArray) (b : DecR) (w : World) : (Instr.build 179 #[(0, .int .i64 n), (1, .string d), (2, .agg (decA b))]).run Tryz.prog w = .ok (.agg (fdeC ⟨n, d, b⟩).toArray) w := by kernel_rfl
theorem bsDe_found (x : Found DecR) (w : World) : (Instr.buildSlice 176 1 #[(0, .agg (fdeC x).toArray)]).run Tryz.prog w = .ok (.slice (some ⟨w.heap.size, 0, none⟩) 1 1) (w.alloc (.cells (fdeC x).toArray 179)) := by kernel_rfl
theorem bsDe_val (x : DecR) (w : World) : (Instr.buildSlice 55 1 #[(0, .agg (decA x))]).run Tryz.prog w = .ok (.slice (some ⟨w.heap.size, 0, none⟩) 1 1) (w.alloc (.cells (decA x) 44)) := by kernel_rfl
theorem valDe_len (x : DecR) : x.cells.length = 12 := rfl
theorem valDe_one (x : DecR) : ∀ v ∈ x.cells, v.oneCell' = true := by
  have := dec_all x
  rw [Array.all_eq_true_iff_forall_mem] at this
  intro v hv
  exact this v (by simpa using hv)

/-- What hands back a list of ballots. -/
def ListDeAre (l : List DecR) (w : World) (e : Ending) (w' : World) : Prop := ∃ (A : Option Addr) (c : Nat), e = .returned (.slice A l.length c) ∧ l.length ≤ c ∧ c ≤ maxLen ∧ RowsAt w' A 12 DecR.cells l ∧ Q w w'
set_option maxRecDepth 100000 in
set_option maxHeartbeats 2000000 in
theorem pickDe_any (k : KR) (p1 : Nat) (key : Int) (w : World) (hT : Tab w) (hK : KIn w k) (h1 : w.cell? ⟨p1, 0, none⟩ = some (.int .i64 key)) (hp1 : p1 < w.heap.size) (hn : k.l.length ≤ 20) :
    Calls Tryz.prog 71 #[.agg (knA k), .func (.func 72) #[] #[.pointer (some ⟨p1, 0, none⟩)]] w (ListDeAre (listDe key k.l) w) := by
  obtain ⟨w1, x, hx, hq1, hbk⟩ := boxedB w 25 k.cells
  have hx : w.alloc (.cells (knA k) 25) = x.w := hx
  have cI : ∀ y : Wd w1, y.w.cell? ⟨w.heap.size, 1, none⟩ = some (.slice k.iA k.l.length k.iC) := fun y => (y.blk hbk).cell 1
  have hKy : ∀ y : Wd w1, KIn y.w k := fun y => hK.q (Q.trans hq1 y.q)
  have hTy : ∀ y : Wd w1, Tab y.w := fun y => hT.q (Q.trans hq1 y.q)
  have hW1 : ∀ y : Wd w1, y.w.cell? ⟨p1, 0, none⟩ = some (.int .i64 key) := fun y => ((Q.trans hq1 y.q).cell (p := ⟨p1, 0, none⟩) hp1).trans h1
  have hP1 : ∀ y : Wd w1, p1 < y.w.heap.size := fun y => Nat.lt_of_lt_of_le hp1 (Q.trans hq1 y.q).size
  have HQ := Lib.hid hq1
  obtain ⟨i0, hi, hz0, hz1, hz2⟩ := info_parts foundDe_info
  obtain ⟨j0, hji, hy0, hy1, hy2⟩ := info_parts valDe_info
  have e99 : ∀ args w, (callFunc 72 args).run Tryz.prog w = .ok (.enter 72 args) w := enters_of Tryz.func72 (by kernel_rfl) rfl
  clear hbk hq1 h1 hp1
  go_enter Tryz.func71, Tryz.ntmps71
  go_wp2_with fail
  go_loopw [5, 17] (fun a i wr => ∃ (j c m : Nat) (A : Option Addr) (z : Wd w1), a = .slice A m c ∧ i = .int .i64 j ∧ wr = z.w ∧ j ≤ k.l.length ∧ m ≤ j ∧ m ≤ c ∧ c ≤ maxLen ∧ Hid (m = (takeDe key (k.l.take j)).length) ∧ Owns z.w w1.heap.size 179 14 (.slice A m c) m ((takeDe key (k.l.take j)).flatMap fdeC)) (fun _ i _ => k.l.length - (intOf i).toNat)
  case atStart => exact ⟨0, 0, 0, none, x, rfl, rfl, rfl, Nat.zero_le _, Nat.zero_le _, Nat.zero_le _, Nat.zero_le _, Lib.hid rfl, Owns.nil_ _ _ _ _⟩
  case round =>
    obtain ⟨j, c, m, A, z, rfl, rfl, rfl, hj, hmj, hmc, hcm, hm, hown⟩ := hrel
    by_cases hlt : j < k.l.length
    · obtain ⟨b, o, eA, hb, hld⟩ := (hKy z).items.load j hlt
      have hio := fun y : Wd z.w => ((hKy z).items.each _ (List.getElem_mem hlt)).q y.q
      rw [eA]
      have hTz : ∀ y : Wd z.w, Tab y.w := fun y => hTy ⟨y.w, Q.trans z.q y.q⟩
      have hzs := z.q.size
      have HTS := Lib.hid (takeDe_step key k.l j hlt)
      generalize k.l[j] = it at *
      go_wp2_with (first | (refine wpList_load_run 46 (.tmp 19) (.pointer (some ⟨b, o + j * 49, none⟩)) (.agg (itA it)) ?_ ?_ ?_ ?_ ?_; rfl; rfl; rfl; exact hld ⟨_, Q.refl _⟩) | (refine wpList_store_blk (Blk.new z.w 46 item0.cells.toArray) rfl 46 (.tmp 7) (.tmp 20) it.cells rfl rfl rfl (by kernel_rfl) (it_all _) (Nat.le_refl 49) ?_))
      intro W hW hbel
      rw [splice_all _ _ (by rfl)] at hW
      have hqz : Q z.w W := hbel _ _ (Nat.le_refl _) (q_new _ _ _)
      have hq3 : Q w1 W := Q.trans z.q hqz
      have hLi : ∀ y : Wd W, (Instr.loadAt 46 (.pointer (some ⟨z.w.heap.size, 0, none⟩))).run Tryz.prog y.w = .ok (.agg (itA it)) y.w := Wd.load hW.lt (Blk.range hW) Tryz.underlying46 rfl (by kernel_rfl)
      have hcl : ∀ y : Wd W, Calls Tryz.prog 72 #[.agg (itA it), .pointer (some ⟨p1, 0, none⟩)] y.w fun e w' => e = .returned (.tuple #[.agg (decA it.dec), .int .i64 it.dec.number, .bool (wantDe key it)]) ∧ Q y.w w' := fun y => wantDe_any p1 key it y.w (hW1 ⟨y.w, Q.trans hq3 y.q⟩) (hP1 ⟨y.w, Q.trans hq3 y.q⟩)
      have hWs := hq3.size
      obtain ⟨v, hv⟩ := Wd.first W
      rw [hv]
      clear hbel hld hv eA hb cI hW1 hP1
      generalize hwt : wantDe key it = wt at *
      go_wp2_with (first | (refine wpList_load_run 46 (.tmp 7) (.pointer (some ⟨z.w.heap.size, 0, none⟩)) (.agg (itA it)) ?_ ?_ ?_ ?_ ?_; rfl; rfl; rfl; exact hLi _) | (go_at_fn 72; refine (hcl _).mono ?_; rintro e w' ⟨rfl, hq2⟩; obtain ⟨y, rfl⟩ := Wd.next _ hq2; clear hq2) | (refine wpList_store_blk (Blk.new y.w 44 dec0.cells.toArray) rfl 44 (.tmp 8) (.tmp 25) it.dec.cells rfl rfl rfl (by kernel_rfl) (dec_all _) (Nat.le_refl 12) ?_))
      intro W2 hB2 hbel2
      rw [splice_all _ _ (by rfl)] at hB2
      have hqy : Q W W2 := hbel2 _ _ y.q.size (Q.trans y.q (q_new _ _ _))
      have hq4 : Q w1 W2 := Q.trans hq3 hqy
      have hLi2 : ∀ y : Wd W2, (Instr.loadAt 46 (.pointer (some ⟨z.w.heap.size, 0, none⟩))).run Tryz.prog y.w = .ok (.agg (itA it)) y.w := fun y => hLi ⟨y.w, Q.trans hqy y.q⟩
      have hLb2 : ∀ u : Wd W2, (Instr.loadAt 44 (.pointer (some ⟨y.w.heap.size, 0, none⟩))).run Tryz.prog u.w = .ok (.agg (decA it.dec)) u.w := Wd.load hB2.lt (Blk.range hB2) Tryz.underlying44 rfl (by kernel_rfl)
      have hIi : ∀ u : Wd W2, ItemIn u.w it := fun u => hio ⟨u.w, Q.trans (Q.trans hqz hqy) u.q⟩
      have hdg2 : ∀ u : Wd W2, Calls Tryz.prog 48 #[.agg (itA it)] u.w fun e w' => e = .returned (.string (digOf it)) ∧ Q u.w w' := fun u => digest_any it u.w (hTz ⟨u.w, Q.trans (Q.trans hqz hqy) u.q⟩) (hIi u)
      have hownW : ∀ u : Wd W2, Owns u.w w1.heap.size 179 14 (.slice A m c) m ((takeDe key (k.l.take j)).flatMap fdeC) := fun u => hown.q (Q.trans (Q.trans hqz hqy) u.q)
      have hrg : ∀ (r : Bool), itemRight it = r → ∀ u : Wd W2, Calls Tryz.prog 37 #[.agg (itA it)] u.w fun e w' => e = .returned (.bool r) ∧ Q u.w w' := fun r hr u => right_at it r u.w (hIi u) hr
      have HQ4 := Lib.hid hq4
      have hWs2 := hq4.size
      obtain ⟨u, hu⟩ := Wd.first W2
      rw [hu]
      clear hbel2 hu hqy hq4 hq3 hqz hLi hcl hio hTz hown hTy hW hB2
      cases wt
      · have HTE := Lib.hid (show takeDe key (k.l.take (j + 1)) = takeDe key (k.l.take j) by rw [HTS.out]; simp)
        go_wp2_with fail
        exact ⟨⟨j + 1, c, m, A, ⟨u.w, Q.trans HQ4.out u.q⟩, rfl, by go_num, rfl, by omega, by omega, hmc, hcm, Lib.hid (by rw [HTE.out]; exact hm.out), by rw [HTE.out]; exact hownW u⟩, by simp only [intOf]; omega⟩
      · cases hr : itemRight it
        · have HTE := Lib.hid (show takeDe key (k.l.take (j + 1)) = takeDe key (k.l.take j) by rw [HTS.out, hr]; simp)
          have hrg0 := hrg false hr
          clear hrg hr
          go_wp2_with (first | (refine wpList_load_run 46 (.tmp 7) (.pointer (some ⟨z.w.heap.size, 0, none⟩)) (.agg (itA it)) ?_ ?_ ?_ ?_ ?_; rfl; rfl; rfl; exact hLi2 _) | (go_at_call 37; refine (hrg0 _).mono ?_; rintro e w' ⟨rfl, hq2⟩; obtain ⟨t, rfl⟩ := Wd.next _ hq2; clear hq2))
          exact ⟨⟨j + 1, c, m, A, ⟨t.w, Q.trans HQ4.out t.q⟩, rfl, by go_num, rfl, by omega, by omega, hmc, hcm, Lib.hid (by rw [HTE.out]; exact hm.out), by rw [HTE.out]; exact hownW t⟩, by simp only [intOf]; omega⟩
        · have HTE := Lib.hid (show takeDe key (k.l.take (j + 1)) = takeDe key (k.l.take j) ++ [foundDe it] by rw [HTS.out, hr]; simp)
          have hrg0 := hrg true hr
          clear hrg hr
          go_wp2_with (first | (refine wpList_load_run 46 (.tmp 7) (.pointer (some ⟨z.w.heap.size, 0, none⟩)) (.agg (itA it)) ?_ ?_ ?_ ?_ ?_; rfl; rfl; rfl; exact hLi2 _) | (go_at_call 37; refine (hrg0 _).mono ?_; rintro e w' ⟨rfl, hq2⟩; obtain ⟨t, rfl⟩ := Wd.next _ hq2; clear hq2))
          refine wp_region_wd_parts t 2 6 (by kernel_rfl) (by kernel_rfl) (by intro c d v a w h; cases d <;> exact h) ?_
          simp only [List.take_succ_cons, List.take_zero, List.drop_succ_cons, List.drop_zero]
          refine wpPure_move (.tmp 5) (.slice A m c) rfl rfl rfl ?_
          dsimp only [Act.put]
          simp only [List.setIfInBounds_toArray, List.set_cons_succ, List.set_cons_zero]
          refine wpPure_move (.tmp 9) (.int .i64 it.dec.number) rfl rfl rfl ?_
          dsimp only [Act.put]
          simp only [List.setIfInBounds_toArray, List.set_cons_succ, List.set_cons_zero]
          refine wpPure_nil ?_
          refine wpQuiet_load_run 46 (.tmp 7) (.pointer (some ⟨z.w.heap.size, 0, none⟩)) (.agg (itA it)) rfl rfl rfl hLi2 ?_
          dsimp only [Act.put]
          simp only [List.setIfInBounds_toArray, List.set_cons_succ, List.set_cons_zero]
          go_big_quiet_step (first | (go_at_call 48; exact Wd.call _ (hdg2 _)))
          refine wpQuiet_load_run 44 (.tmp 8) (.pointer (some ⟨y.w.heap.size, 0, none⟩)) (.agg (decA it.dec)) rfl rfl rfl hLb2 ?_
          dsimp only [Act.put]
          simp only [List.setIfInBounds_toArray, List.set_cons_succ, List.set_cons_zero]
          refine wpQuiet_build_run 179 _ #[(0, .int .i64 it.dec.number), (1, .string (digOf it)), (2, .agg (decA it.dec))] _ rfl rfl (by simp only [List.map_toArray, List.map_cons, List.map_nil]; rfl) (buildDe_found (it.dec.number) (digOf it) it.dec) ?_
          dsimp only [Act.put]
          simp only [List.setIfInBounds_toArray, List.set_cons_succ, List.set_cons_zero]
          refine wpQuiet_nil ?_
          rintro w6 ⟨t2, rfl⟩
          refine wpList_buildSlice_run 176 1 _ #[(0, .agg (fdeC (foundDe it)).toArray)] _ rfl rfl (by simp only [List.map_toArray, List.map_cons, List.map_nil]; rfl) (bsDe_found (foundDe it) _) ?_
          dsimp only [Act.put]
          simp only [List.setIfInBounds_toArray, List.set_cons_succ, List.set_cons_zero]
          refine wpList_append_rows fde_len fde_one rfl (.tmp 33) (.tmp 39) 176 179 i0 _ 160 rfl Tryz.underlying176 hi hz0 hz1 hz2 rfl (by decide) (by decide) w1.heap.size (.slice A m c) m (takeDe key (k.l.take j)) rfl ((hownW t2).alloc (.cells (fdeC (foundDe it)).toArray 179)) (some ⟨t2.w.heap.size, 0, none⟩) 1 1 [foundDe it] rfl (RowsAt.one t2.w 179 (foundDe it) _ rfl) rfl (by omega) (by have := t2.q.size; simp; omega) ?_
          intro A5 c5 w5 hc5 hm5 hown5 hg5
          have hq5 : Q w1 w5 := q_grown (Q.trans (Q.trans HQ4.out t2.q) (q_new _ _ _)) (Nat.le_refl _) ((hownW t2).alloc _) hg5
          obtain ⟨y5, rfl⟩ : ∃ y5 : Wd w1, w5 = y5.w := ⟨⟨w5, hq5⟩, rfl⟩
          rw [← HTE.out] at hown5
          have HM5 : Hid (m + 1 = (takeDe key (k.l.take (j + 1))).length) := Lib.hid (by rw [HTE.out, List.length_append, ← hm.out]; rfl)
          clear hownW hg5 hq5 hdg2 hLi2 hLb2 hIi hrg0
          go_wp2_with fail
          exact ⟨⟨j + 1, c5, m + 1, A5, y5, rfl, by go_num, rfl, by omega, by omega, hc5, hm5, HM5, hown5⟩, by simp only [intOf]; omega⟩
    · have hjn : j = k.l.length := by omega
      have hm := hm.out
      rw [hjn, List.take_length] at hown hm
      have hm20 : m ≤ 20 := by omega
      have hso := sortedDe_any A c m w1.heap.size (takeDe key k.l) z.w hm hm20 hown z.q.size
      have hlen : (sortDe (takeDe key k.l)).length = m := by rw [sortDe_length]; exact hm.symm
      have HB := Lib.hid (show listDe key k.l = (sortDe (takeDe key k.l)).map (·.val) from rfl)
      have HZ := Lib.hid z.q
      generalize sortDe (takeDe key k.l) = L at hso hlen HB
      clear hown hm hjn cI hW1 hP1 hKy hTy
      go_wp2_with (first | (go_at_call 129; refine hso.mono ?_; rintro e w6 ⟨rfl, hR6, hb6⟩; have HQ6 := Lib.hid (Below.trans HZ.out hb6); clear hb6 hso; obtain ⟨y6, hy6⟩ := Wd.first w6; rw [hy6]; clear hy6) | (refine wpList_make_own _ rfl _ _ 55 rfl w6.heap.size 44 j0 _ 12 Tryz.underlying55 hji hy0 hy1 .i64 .i64 (m : Int) m rfl rfl rfl (by rw [hy2]; omega) (by simp only [maxLen]; omega) y6.q.size ?_))
      intro w7 hown0 hg0
      have hown : Owns w7 w6.heap.size 44 12 (.slice (some ⟨y6.w.heap.size, 0, none⟩) 0 m) 0 (([] : List DecR).flatMap DecR.cells) := Owns.of hown0
      have hq7 : Q w6 w7 := Below.grown y6.q hg0 y6.q.size (fun _ h => by cases h)
      obtain ⟨y7, rfl⟩ : ∃ y7 : Wd w6, w7 = y7.w := ⟨⟨w7, hq7⟩, rfl⟩
      have hRy : ∀ y : Wd w6, RowsAt y.w A 14 fdeC L := fun y => hR6.q y.q
      clear hown0 hg0 hq7 hR6
      go_wp2_with fail
      go_loopw [11, 49] (fun a i wr => ∃ (j c : Nat) (A : Option Addr) (z : Wd w6), a = .slice A j c ∧ i = .int .i64 j ∧ wr = z.w ∧ j ≤ m ∧ j ≤ c ∧ c ≤ maxLen ∧ Owns z.w w6.heap.size 44 12 (.slice A j c) j (((L.take j).map (·.val)).flatMap DecR.cells)) (fun _ i _ => m - (intOf i).toNat)
      case atStart => exact ⟨0, m, _, y7, rfl, rfl, rfl, Nat.zero_le _, Nat.zero_le _, by simp only [maxLen]; omega, hown⟩
      case round =>
        clear hown
        obtain ⟨j2, c2, A2, z2, rfl, rfl, rfl, hj2, hjc2, hcm2, hown⟩ := hrel
        by_cases hlt2 : j2 < m
        · obtain ⟨b, o, eA, hb, hcs⟩ := hRy z2 (by omega)
          have hld : ∀ y : Wd z2.w, (Instr.loadAt 179 (.pointer (some ⟨b, o + j2 * 14, none⟩))).run Tryz.prog y.w = .ok (.agg (fdeC (L[j2]'(by omega))).toArray) y.w := Wd.load hb (hcs j2 (by omega)) Tryz.underlying179 rfl (by kernel_rfl)
          have HLS := Lib.hid (show (L.take (j2 + 1)).map (·.val) = (L.take j2).map (·.val) ++ [(L[j2]'(by omega)).val] by rw [List.take_succ_eq_append_getElem (by omega), List.map_append]; rfl)
          rw [eA]
          have hzs2 := z2.q.size
          clear hcs
          generalize L[j2]'(by omega) = e2 at *
          have hbf := Blk.new z2.w 179 (fdeC default).toArray
          go_wp2_with (first | (refine wpList_load_run 179 (.tmp 51) (.pointer (some ⟨b, o + j2 * 14, none⟩)) (.agg (fdeC e2).toArray) ?_ ?_ ?_ ?_ ?_; rfl; rfl; rfl; exact hld ⟨_, Q.trans (Q.refl _) (Q.refl _)⟩) | (refine wpList_store_blk hbf rfl 179 (.tmp 13) (.tmp 52) (fdeC e2) rfl rfl rfl (by kernel_rfl) (fde_all _) (Nat.le_refl 14) ?_))
          intro W hW hbel
          rw [splice_all _ _ (by rfl)] at hW
          have hqz : Q z2.w W := hbel _ _ (Nat.le_refl _) (q_new _ _ _)
          have hq3 : Q w6 W := Q.trans z2.q hqz
          have hrv : W.rangeAt z2.w.heap.size 2 e2.val.cells := by
            have := range_sub (Blk.range hW) 2 12
            rw [Nat.zero_add] at this
            exact this
          have hLv : ∀ y : Wd W, (Instr.loadAt 44 (.pointer (some ⟨z2.w.heap.size, 2, none⟩))).run Tryz.prog y.w = .ok (.agg (decA e2.val)) y.w := Wd.load hW.lt hrv Tryz.underlying44 rfl (by kernel_rfl)
          have hownW : ∀ y : Wd W, Owns y.w w6.heap.size 44 12 (.slice A2 j2 c2) j2 (((L.take j2).map (·.val)).flatMap DecR.cells) := fun y => hown.q (Q.trans hqz y.q)
          have HQ3 := Lib.hid hq3
          have hWs := hq3.size
          obtain ⟨v, hv⟩ := Wd.first W
          rw [hv]
          clear hW hbel hld hv hqz hq3 hown hrv hbf
          go_wp2_with (first | (refine wpList_load_run 44 (.tmp 54) (.pointer (some ⟨z2.w.heap.size, 2, none⟩)) (.agg (decA e2.val)) ?_ ?_ ?_ ?_ ?_; rfl; rfl; rfl; exact hLv _) | (refine wpList_buildSlice_run 55 1 _ #[(0, .agg (decA e2.val))] _ rfl rfl (by simp only [List.map_toArray, List.map_cons, List.map_nil]; rfl) (bsDe_val e2.val _) ?_) | (at_builtin; refine wpList_append_rows valDe_len valDe_one rfl (.tmp 53) (.tmp 56) 55 44 j0 _ 136 rfl Tryz.underlying55 hji hy0 hy1 hy2 rfl (by decide) (by decide) w6.heap.size (.slice A2 j2 c2) j2 ((L.take j2).map (·.val)) rfl ((hownW v).alloc (.cells (decA e2.val) 44)) (some ⟨v.w.heap.size, 0, none⟩) 1 1 [e2.val] rfl (RowsAt.one v.w 44 e2.val _ rfl) rfl (by omega) (by have := v.q.size; simp; omega) ?_))
          intro A5 c5 w5 hc5 hm5 hown5 hg5
          have hq5 : Q w6 w5 := q_grown (Q.trans (Q.trans HQ3.out v.q) (q_new _ _ _)) (Nat.le_refl _) ((hownW v).alloc _) hg5
          obtain ⟨y5, rfl⟩ : ∃ y5 : Wd w6, w5 = y5.w := ⟨⟨w5, hq5⟩, rfl⟩
          have e5 : List.flatMap DecR.cells (List.take j2 (List.map (fun x => x.val) L)) ++ e2.val.cells = ((L.take (j2 + 1)).map (·.val)).flatMap DecR.cells := by
            rw [HLS.out, List.flatMap_append, List.map_take]
            simp
          rw [e5] at hown5
          clear hownW hg5 hq5 hLv e5
          go_wp2_with fail
          exact ⟨⟨j2 + 1, c5, A5, y5, rfl, by go_num, rfl, by omega, hc5, hm5, hown5⟩, by simp only [intOf]; omega⟩
        · have hjn : j2 = m := by omega
          have hall : L.take j2 = L := List.take_of_length_le (by omega)
          rw [hall, ← HB.out] at hown
          have hl : (listDe key k.l).length = j2 := by rw [HB.out, List.length_map, hlen, hjn]
          have hfin : ListDeAre (listDe key k.l) w (.returned (.slice A2 j2 c2)) z2.w := ⟨A2, c2, by rw [hl], by omega, hcm2, Owns.rows valDe_len hown hl.symm, Q.trans HQ.out (Below.trans HQ6.out (Below.mono z2.q (by have := HQ6.out.size; omega)))⟩
          have HF := Lib.hid hfin
          clear hfin hl hall hown
          go_wp2_with fail
          go_ret
          exact HF.out

set_option maxRecDepth 100000 in
set_option maxHeartbeats 2000000 in
theorem allDe_any (k : KR) (key : Int) (w : World) (hT : Tab w) (hK : KIn w k) (hn : k.l.length ≤ 20) :
    Calls Tryz.prog 22 #[.agg (knA k), .int .i64 key] w (ListDeAre (listDe key k.l) w) := by
  have b1 := Blk.new w 25 (knA k)
  have q1 := q_new w (knA k) 25
  have b2 := Blk.new' (g := w.heap.size + 1) (w.alloc (.cells (knA k) 25)) 3 #[.int .i64 key] (by simp)
  have q2 := q_new (w.alloc (.cells (knA k) 25)) #[.int .i64 key] 3
  have b1 := b1.q q2
  have hq := Q.trans q1 q2
  obtain ⟨w3, hw3⟩ : ∃ w3, w3 = (w.alloc (.cells (knA k) 25)).alloc (.cells #[.int .i64 key] 3) := ⟨_, rfl⟩
  rw [← hw3] at b1 b2 hq
  have hLk := Wd.load (P := Tryz.prog) (ty := 25) b1.lt (Blk.range b1) Tryz.underlying25 rfl (by kernel_rfl) ⟨w3, Q.refl w3⟩
  have hp := pickDe_any k (w.heap.size + 1) key w3 (hT.q hq) (hK.q hq) (b2.cell 0) b2.lt hn
  have HX := Lib.hid hw3
  have HQ := Lib.hid hq
  clear q1 q2 b1 b2 hq hw3
  go_enter Tryz.func22, Tryz.ntmps22
  go_upto_region 1 with (fail)
  refine (show Code.wp _ _ _ _ w3 → Code.wp _ _ _ _ _ from fun h => by rw [HX.out] at h; exact h) ?_
  go_wp2_with (first | (refine wpList_load_run 25 (.tmp 2) (.pointer (some ⟨w.heap.size, 0, none⟩)) (.agg (knA k)) ?_ ?_ ?_ ?_ ?_; rfl; rfl; rfl; exact hLk) | (go_at_call 71; refine hp.mono ?_; rintro e w' ⟨A, c, rfl, h1, h2, h3, hq4⟩))
  go_ret
  exact ⟨A, c, rfl, h1, h2, h3, Q.trans HQ.out hq4⟩
end Go.Proofs.YtomkeaeegdjhnaaGreatDoor.Known

namespace Go.Proofs.YtomkeaeegdjhnaaGreatDoor.Known
open Go.RowKit Grp Mem _root_.Go.Proofs.YtomkeaeegdjhnaaGreatDoor.Code Sha Sign _root_.Go.Proofs.YtomkeaeegdjhnaaGreatDoor.Item

def itActR (a : ActR) : ItemR := ⟨0, a, claim0, ballot0, dec0⟩
def itDecR (d : DecR) : ItemR := ⟨3, act0, claim0, ballot0, d⟩
set_option maxRecDepth 100000 in
theorem rbuild_act (a : ActR) (w : World) : (Instr.build 46 #[(0, .int .i64 0), (1, .agg (actA a))]).run Tryz.prog w = .ok (.agg (itA (itActR a))) w := by kernel_rfl
set_option maxRecDepth 100000 in
theorem rbuild_dec (d : DecR) (w : World) : (Instr.build 46 #[(0, .int .i64 3), (4, .agg (decA d))]).run Tryz.prog w = .ok (.agg (itA (itDecR d))) w := by kernel_rfl

set_option maxRecDepth 100000 in
set_option maxHeartbeats 2000000 in
theorem rofAct_any (a : ActR) (w : World) : Calls Tryz.prog 25 #[.agg (actA a)] w fun e w' => e = .returned (.agg (itA (itActR a))) ∧ Q w w' := by
  have hb1 := Blk.new w 38 (actA a)
  have hq1 := q_new w (actA a) 38
  have hbr := Blk.new' (g := w.heap.size + 1) (w.alloc (.cells (actA a) 38)) 46 (itA item0) (by simp)
  have hq2 := q_new (w.alloc (.cells (actA a) 38)) (itA item0) 46
  have hb1 := hb1.q hq2
  have hq := Q.trans hq1 hq2
  obtain ⟨w2, hw2⟩ : ∃ w2, w2 = (w.alloc (.cells (actA a) 38)).alloc (.cells (itA item0) 46) := ⟨_, rfl⟩
  rw [← hw2] at hb1 hbr hq
  have hLd := Wd.load (P := Tryz.prog) (ty := 38) hb1.lt (Blk.range hb1) Tryz.underlying38 rfl (by kernel_rfl) ⟨w2, Q.refl w2⟩
  have hLd : (Instr.loadAt 38 (.pointer (some ⟨w.heap.size, 0, none⟩))).run Tryz.prog w2 = .ok (.agg (actA a)) w2 := hLd
  have HX := Lib.hid hw2
  have HQ := Lib.hid hq
  clear hw2 hq1 hq2 hq hb1
  go_enter Tryz.func25, Tryz.ntmps25
  go_upto_region 1 with (fail)
  refine (show Code.wp _ _ _ _ w2 → Code.wp _ _ _ _ _ from fun h => by rw [HX.out] at h; exact h) ?_
  refine wp_region_lit ?_
  refine wpList_load_run 38 (.tmp 1) (.pointer (some ⟨w.heap.size, 0, none⟩)) (.agg (actA a)) rfl rfl rfl hLd ?_
  dsimp only [Act.put]
  simp only [List.setIfInBounds_toArray, List.set_cons_succ, List.set_cons_zero]
  refine wpList_build_run 46 _ #[(0, .int .i64 0), (1, .agg (actA a))] (.agg (itA (itActR a))) rfl rfl (by simp only [List.map_toArray, List.map_cons, List.map_nil]; rfl) (rbuild_act _ _) ?_
  dsimp only [Act.put]
  simp only [List.setIfInBounds_toArray, List.set_cons_succ, List.set_cons_zero]
  refine wpList_store_far hbr rfl 46 (.tmp 2) (.tmp 4) (itActR a).cells rfl rfl rfl (by kernel_rfl) (it_all _) (Nat.le_refl 49) ?_
  intro W3 hW3 hbel3 hfar3
  rw [splice_all _ _ (by rfl)] at hW3
  have hq3 : Q w W3 := hbel3 _ _ (Nat.le_succ _) HQ.out
  have HF := Lib.hid hq3
  clear hbel3 hfar3 hLd hq3 hbr
  go_wp2_with fail
  exact bodyPost_ret (results_cell_row rfl _ _ (w.heap.size + 1) 46 (itA (itActR a)) (0, 0) _ rfl hW3 Tryz.underlying46 rfl (by kernel_rfl)) rfl ⟨rfl, HF.out⟩

set_option maxRecDepth 100000 in
set_option maxHeartbeats 2000000 in
theorem rofDec_any (a : DecR) (w : World) : Calls Tryz.prog 26 #[.agg (decA a)] w fun e w' => e = .returned (.agg (itA (itDecR a))) ∧ Q w w' := by
  have hb1 := Blk.new w 44 (decA a)
  have hq1 := q_new w (decA a) 44
  have hbr := Blk.new' (g := w.heap.size + 1) (w.alloc (.cells (decA a) 44)) 46 (itA item0) (by simp)
  have hq2 := q_new (w.alloc (.cells (decA a) 44)) (itA item0) 46
  have hb1 := hb1.q hq2
  have hq := Q.trans hq1 hq2
  obtain ⟨w2, hw2⟩ : ∃ w2, w2 = (w.alloc (.cells (decA a) 44)).alloc (.cells (itA item0) 46) := ⟨_, rfl⟩
  rw [← hw2] at hb1 hbr hq
  have hLd := Wd.load (P := Tryz.prog) (ty := 44) hb1.lt (Blk.range hb1) Tryz.underlying44 rfl (by kernel_rfl) ⟨w2, Q.refl w2⟩
  have hLd : (Instr.loadAt 44 (.pointer (some ⟨w.heap.size, 0, none⟩))).run Tryz.prog w2 = .ok (.agg (decA a)) w2 := hLd
  have HX := Lib.hid hw2
  have HQ := Lib.hid hq
  clear hw2 hq1 hq2 hq hb1
  go_enter Tryz.func26, Tryz.ntmps26
  go_upto_region 1 with (fail)
  refine (show Code.wp _ _ _ _ w2 → Code.wp _ _ _ _ _ from fun h => by rw [HX.out] at h; exact h) ?_
  refine wp_region_lit ?_
  refine wpList_load_run 44 (.tmp 1) (.pointer (some ⟨w.heap.size, 0, none⟩)) (.agg (decA a)) rfl rfl rfl hLd ?_
  dsimp only [Act.put]
  simp only [List.setIfInBounds_toArray, List.set_cons_succ, List.set_cons_zero]
  refine wpList_build_run 46 _ #[(0, .int .i64 3), (4, .agg (decA a))] (.agg (itA (itDecR a))) rfl rfl (by simp only [List.map_toArray, List.map_cons, List.map_nil]; rfl) (rbuild_dec _ _) ?_
  dsimp only [Act.put]
  simp only [List.setIfInBounds_toArray, List.set_cons_succ, List.set_cons_zero]
  refine wpList_store_far hbr rfl 46 (.tmp 2) (.tmp 4) (itDecR a).cells rfl rfl rfl (by kernel_rfl) (it_all _) (Nat.le_refl 49) ?_
  intro W3 hW3 hbel3 hfar3
  rw [splice_all _ _ (by rfl)] at hW3
  have hq3 : Q w W3 := hbel3 _ _ (Nat.le_succ _) HQ.out
  have HF := Lib.hid hq3
  clear hbel3 hfar3 hLd hq3 hbr
  go_wp2_with fail
  exact bodyPost_ret (results_cell_row rfl _ _ (w.heap.size + 1) 46 (itA (itDecR a)) (0, 0) _ rfl hW3 Tryz.underlying46 rfl (by kernel_rfl)) rfl ⟨rfl, HF.out⟩
end Go.Proofs.YtomkeaeegdjhnaaGreatDoor.Known

namespace Go.Proofs.YtomkeaeegdjhnaaGreatDoor.Known
open Go.RowKit Grp Mem _root_.Go.Proofs.YtomkeaeegdjhnaaGreatDoor.Code Sha Sign _root_.Go.Proofs.YtomkeaeegdjhnaaGreatDoor.Item

def lightB (x : ItemR) : Bool := decide (x.act.to.length ≤ 100) && (decide (x.act.wraps.length ≤ 100) && (decide (x.dec.to.length ≤ 100) && (decide (x.act.text.size ≤ 10000) && decide (x.dec.text.size ≤ 10000))))
def fewB (k : KR) : Bool := decide (k.l.length ≤ 20) && (decide (k.sv.length ≤ 30) && k.l.all lightB)
theorem few_facts {k : KR} (h : fewB k = true) : k.l.length ≤ 20 ∧ k.sv.length ≤ 30 := by
  unfold fewB at h
  simp only [Bool.and_eq_true, decide_eq_true_eq] at h
  exact ⟨h.1, h.2.1⟩
set_option maxRecDepth 100000 in
set_option maxHeartbeats 4000000 in
theorem light_any (x : ItemR) (w : World) : Calls Tryz.prog 50 #[.agg (itA x)] w fun e w' => e = .returned (.bool (lightB x)) ∧ Q w w' := by
  obtain ⟨w1, y, hx, hq1, hl, hr⟩ := boxed w 46 x.cells
  have hx : w.alloc (.cells (itA x) 46) = y.w := hx
  have c10 := Wd.at0 hl hr 10 rfl
  have c11 := Wd.at0 hl hr 11 rfl
  have c16 := Wd.at0 hl hr 16 rfl
  have c42 := Wd.at0 hl hr 42 rfl
  have c43 := Wd.at0 hl hr 43 rfl
  clear hl hr
  go_enter Tryz.func50, Tryz.ntmps50
  go_wp2
  all_goals
    go_ret
    refine ⟨?_, Q.trans hq1 y.q⟩
    clear c10 c11 c16 c42 c43 hx
    refine congrArg (fun b => Ending.returned (.bool b)) ?_
    unfold lightB
    rw [Bool.eq_iff_iff]
    simp
    omega
set_option maxRecDepth 100000 in
set_option maxHeartbeats 4000000 in
theorem few_any (k : KR) (w : World) (hK : KIn w k) : Calls Tryz.prog 9 #[.agg (knA k)] w fun e w' => e = .returned (.bool (fewB k)) ∧ Q w w' := by
  obtain ⟨w1, x, hx, hq1, hbk⟩ := boxedB w 25 k.cells
  have hx : w.alloc (.cells (knA k) 25) = x.w := hx
  have cS : ∀ y : Wd w1, y.w.cell? ⟨w.heap.size, 0, none⟩ = some (.slice k.sA k.sv.length k.sC) := fun y => (y.blk hbk).cell 0
  have cI : ∀ y : Wd w1, y.w.cell? ⟨w.heap.size, 1, none⟩ = some (.slice k.iA k.l.length k.iC) := fun y => (y.blk hbk).cell 1
  have hKy : ∀ y : Wd w1, KIn y.w k := fun y => hK.q (Q.trans hq1 y.q)
  have hlb : k.l.length ≤ 9223372036854775807 := by have h8 := hK.lC.1; have h9 := hK.lC.2; simp only [maxLen] at h9; omega
  have hsb : k.sv.length ≤ 9223372036854775807 := by have h8 := hK.svC.1; have h9 := hK.svC.2; simp only [maxLen] at h9; omega
  have HQ := Lib.hid hq1
  clear hbk hq1
  by_cases h1 : 20 < k.l.length
  · have HR := Lib.hid (show fewB k = false by unfold fewB; rw [decide_eq_false (by omega)]; rfl)
    go_enter Tryz.func9, Tryz.ntmps9
    go_wp2_with fail
    go_ret
    exact ⟨by rw [HR.out]; rfl, Q.trans HQ.out x.q⟩
  by_cases h2 : 30 < k.sv.length
  · have HR := Lib.hid (show fewB k = false by unfold fewB; rw [decide_eq_false (show ¬ k.sv.length ≤ 30 by omega)]; simp)
    go_enter Tryz.func9, Tryz.ntmps9
    go_wp2_with fail
    go_ret
    exact ⟨by rw [HR.out]; rfl, Q.trans HQ.out x.q⟩
  have HFE := Lib.hid (show fewB k = k.l.all lightB by unfold fewB; rw [decide_eq_true (show k.l.length ≤ 20 by omega), decide_eq_true (show k.sv.length ≤ 30 by omega)]; rfl)
  go_enter Tryz.func9, Tryz.ntmps9
  go_wp2_with fail
  go_loopw [3] (fun i wr => ∃ (j : Nat) (z : Wd w1), i = .int .i64 j ∧ wr = z.w ∧ j ≤ k.l.length ∧ Hid ((k.l.take j).all lightB = true)) (fun i _ => k.l.length - (intOf i).toNat)
  case atStart => exact ⟨0, x, rfl, rfl, Nat.zero_le _, Lib.hid rfl⟩
  case round =>
    obtain ⟨j, z, rfl, rfl, hj, hall⟩ := hrel
    by_cases hlt : j < k.l.length
    · obtain ⟨b, o, eA, hb, hld⟩ := (hKy z).items.load j hlt
      have hst := all_take_snoc k.l lightB j hlt
      rw [hall.out, Bool.true_and] at hst
      have HNO := Lib.hid (all_not k.l lightB j hlt)
      have HST := Lib.hid hst
      have hlt' : (j : Int) < (k.l.length : Int) := by omega
      have hcI : ∀ y : Wd z.w, y.w.cell? ⟨w.heap.size, 1, none⟩ = some (.slice (some ⟨b, o, none⟩) k.l.length k.iC) := fun y => eA ▸ cI ⟨y.w, Q.trans z.q y.q⟩
      have HQ3 := Lib.hid z.q
      clear hst hall eA
      generalize k.l[j] = it at *
      have hlg := fun y : Wd z.w => light_any it y.w
      obtain ⟨v, hv⟩ := Wd.first z.w
      rw [hv]
      clear hv cI cS hKy
      cases hL : lightB it
      all_goals
        rw [hL] at hlg
        go_upto_region 6 with (fail)
        refine wp_region_lit ?_
        go_wp2_with (first | (refine wpList_index_rows 23 46 (.tmp 22) (.tmp 23) b o k.l.length k.iC j 49 rfl rfl rfl rfl Tryz.underlying23 (by kernel_rfl) Tryz.sizeOf46 hlt ?_) | (refine wpList_load_run 46 (.tmp 24) (.pointer (some ⟨b, o + j * 49, none⟩)) (.agg (itA it)) ?_ ?_ ?_ ?_ ?_; rfl; rfl; rfl; exact hld _) | (go_at_call 50; refine (hlg _).mono ?_; rintro e w' ⟨rfl, hq2⟩; obtain ⟨y, rfl⟩ := Wd.next _ hq2; clear hq2))
      · go_ret
        exact ⟨by rw [HFE.out, HNO.out hL]; rfl, Q.trans HQ.out (Q.trans HQ3.out y.q)⟩
      · exact ⟨⟨j + 1, ⟨y.w, Q.trans HQ3.out y.q⟩, by go_num, rfl, by omega, Lib.hid (by rw [HST.out]; exact hL)⟩, by simp only [intOf]; omega⟩
    · have hjn : j = k.l.length := by omega
      have hall' := hall.out
      rw [hjn, List.take_length] at hall'
      have HR := Lib.hid hall'
      clear hjn hall'
      go_wp2_with fail
      go_ret
      exact ⟨by rw [HFE.out, HR.out]; rfl, Q.trans HQ.out z.q⟩

end Go.Proofs.YtomkeaeegdjhnaaGreatDoor.Known
