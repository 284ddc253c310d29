/-
  What pick lays down, and how it is sorted: cmp.Or, cmp.Compare at strings, pick's comparison at ballots. The stable sort of fewer than twenty ballots, as pick calls it. What known.Ballots wants of an item: its closure. known.pick at ballots: what is wanted of the items, sorted. known.Ballots.
  What a right key signs is accepted; the key of the seed "a". No walk in this text. The small example of the laws about known sets, as plain data: a signed ballot in a set of its own. No walk in this text. What the walk of the laws' small example asks of the program's functions.
  The walk of agoralaw14.small.
-/
import Derived.Test.YtflgkplneekpfaaGreatDoorIdent2
import Derived.Test.YtflgkplneekpfaaGreatDoorBld2
import Derived.Test.YtflgkplneekpfaaGreatDoorShelfSort
import Derived.Deep.Cut
import Derived.Test.YtflgkplneekpfaaGreatDoorIt
import Derived.Test.YtflgkplneekpfaaGreatDoorItemZ
import Derived.Test.YtflgkplneekpfaaGreatDoorItemD
import Derived.Test.YtflgkplneekpfaaGreatDoorKn
import Derived.Test.YtflgkplneekpfaaGreatDoorSignWalk
set_option linter.unusedVariables false
set_option linter.unusedSimpArgs false
namespace Go.Proofs.YtflgkplneekpfaaGreatDoor.Known
open Go.RowKit Grp Mem _root_.Go.Proofs.YtflgkplneekpfaaGreatDoor.Code Sha Sign _root_.Go.Proofs.YtflgkplneekpfaaGreatDoor.Item

/-- What pick lays down of a statement. -/
structure Found (α : Type) where
  rank : Int
  dig : ByteArray
  val : α
instance {α : Type} [Inhabited α] : Inhabited (Found α) := ⟨⟨0, emptyT, default⟩⟩
instance : Inhabited BallotV := ⟨ballot0⟩
def Found.cells {α : Type} (c : α → List Value) (x : Found α) : List Value := .int .i64 x.rank :: .string x.dig :: c x.val
abbrev fbC : Found BallotV → List Value := Found.cells BallotV.cells
theorem fb_len (x : Found BallotV) : (fbC x).length = 9 := rfl
theorem fb_one (x : Found BallotV) : ∀ v ∈ fbC x, v.oneCell' = true := by
  intro v hv
  simp only [fbC, Found.cells, BallotV.cells, List.mem_cons, List.not_mem_nil, or_false] at hv
  rcases hv with rfl | rfl | rfl | rfl | rfl | rfl | rfl | rfl | rfl <;> rfl
def cmpS (a b : ByteArray) : Int := if lessB a b then -1 else if lessB b a then 1 else 0
def orI (x y : Int) : Int := if x = 0 then y else x
def cmpF {α : Type} (x y : Found α) : Int := orI (Lib.compareInt x.rank y.rank) (cmpS x.dig y.dig)

theorem isNaNs_any (s : ByteArray) (w : World) : Calls Tryz.prog 190 #[.string s] w fun e w' => e = .returned (.bool false) ∧ w' = w := by
  go_enter Tryz.func190, Tryz.ntmps190
  go_wp2_with fail
  all_goals (go_ret; exact ⟨by simp, rfl⟩)

set_option maxHeartbeats 1000000 in
theorem compareS_any (a b : ByteArray) (w : World) : Calls Tryz.prog 119 #[.string a, .string b] w fun e w' => e = .returned (.int .i64 (cmpS a b)) ∧ w' = w := by
  have hle := leqB_eq a b
  have HR : Hid (cmpS a b = if lessB a b then -1 else if lessB b a then 1 else 0) := Lib.hid rfl
  have h3 := lessB_asymm (a := a) (b := b)
  cases h1 : lessB a b
  all_goals cases h2 : lessB b a
  all_goals
    rw [h1, h2] at HR
    have hls : Op.bytesLess a.toList b.toList = _ := h1
    rw [h2] at hle
  case true.true => rw [h3 h1] at h2; cases h2
  all_goals
    clear h1 h2 h3
    generalize cmpS a b = r at HR ⊢
    go_enter Tryz.func119, Tryz.ntmps119
    go_wp2_with (go_at_call 190; refine (isNaNs_any _ _).mono ?_; rintro e w' ⟨rfl, hw⟩; rw [hw])
    all_goals first
      | (go_ret; exact ⟨by rw [HR.out]; rfl, rfl⟩)
      | (simp_all)

theorem or_any (b o c : Nat) (x y : Int) (w : World) (h0 : w.cell? ⟨b, o, none⟩ = some (.int .i64 x)) (h1 : w.cell? ⟨b, o + 1, none⟩ = some (.int .i64 y)) : Calls Tryz.prog 117 #[.slice (some ⟨b, o, none⟩) 2 c] w fun e w' => e = .returned (.int .i64 (orI x y)) ∧ w' = w := by
  have h0' : w.cell? ⟨b, o + 0, none⟩ = some (.int .i64 x) := h0
  have HR : Hid (orI x y = if x = 0 then y else x) := Lib.hid rfl
  generalize orI x y = r at HR ⊢
  by_cases hx : x = 0
  · rw [if_pos hx] at HR
    by_cases hy : y = 0
    · go_enter Tryz.func117, Tryz.ntmps117
      go_wp2_with fail
      refine wp_loop_rounds 3 ?_
      rw [rounds_succ]
      go_wp2_with fail
      rw [rounds_succ]
      go_wp2_with fail
      rw [rounds_succ]
      go_wp2_with fail
      go_ret
      exact ⟨by rw [HR.out, hy]; rfl, rfl⟩
    · go_enter Tryz.func117, Tryz.ntmps117
      go_wp2_with fail
      refine wp_loop_rounds 2 ?_
      rw [rounds_succ]
      go_wp2_with fail
      rw [rounds_succ]
      go_wp2_with fail
      go_ret
      exact ⟨by rw [HR.out]; rfl, rfl⟩
  · rw [if_neg hx] at HR
    go_enter Tryz.func117, Tryz.ntmps117
    go_wp2_with fail
    refine wp_loop_rounds 1 ?_
    rw [rounds_succ]
    go_wp2_with fail
    go_ret
    exact ⟨by rw [HR.out]; rfl, rfl⟩

theorem grow3 (W : World) (n : Nat) (a b c : Obj) : (((W.alloc a).alloc b).drewN n).alloc c = Go.Sort.grow (W.drewN n) #[a, b, c] := by
  rw [Go.Sort.alloc_eq_grow, Go.Sort.alloc_eq_grow, Go.Sort.alloc_eq_grow]
  show Go.Sort.grow (Go.Sort.grow (Go.Sort.grow (W.drewN n) #[a]) #[b]) #[c] = _
  rw [Go.Sort.grow_grow, Go.Sort.grow_grow]
  rfl
set_option maxRecDepth 100000 in
set_option maxHeartbeats 1000000 in
/-- pick's comparison, at ballots: it lays blocks of its own alone. -/
theorem cmpB_any (x y : Found BallotV) (W : World) : Calls Tryz.prog 213 #[.agg (fbC x).toArray, .agg (fbC y).toArray] W fun e w' => e = .returned (.int .i64 (cmpF x y)) ∧ ∃ q os', w' = Go.Sort.grow (W.drewN q) os' := by
  have hci := fun W' => Tryz.cmp_Compare_int x.rank y.rank W'
  have hcs := fun W' => compareS_any x.dig y.dig W'
  have HR : Hid (cmpF x y = orI (Lib.compareInt x.rank y.rank) (cmpS x.dig y.dig)) := Lib.hid rfl
  generalize cmpF x y = r at HR ⊢
  have b1 := Blk.new W 234 (fbC x).toArray
  have b2 := Blk.new' (g := W.heap.size + 1) (W.alloc (.cells (fbC x).toArray 234)) 234 (fbC y).toArray (by simp)
  have b1 := b1.q (q_new (W.alloc (.cells (fbC x).toArray 234)) (fbC y).toArray 234)
  obtain ⟨W1, hW1⟩ : ∃ W1, W1 = (W.alloc (.cells (fbC x).toArray 234)).alloc (.cells (fbC y).toArray 234) := ⟨_, rfl⟩
  rw [← hW1] at b1 b2
  have c0 : ∀ n, (W1.drewN n).cell? ⟨W.heap.size, 0, none⟩ = some (.int .i64 x.rank) := fun n => b1.cell 0
  have c1 : ∀ n, (W1.drewN n).cell? ⟨W.heap.size, 1, none⟩ = some (.string x.dig) := fun n => b1.cell 1
  have c2 : ∀ n, (W1.drewN n).cell? ⟨W.heap.size + 1, 0, none⟩ = some (.int .i64 y.rank) := fun n => b2.cell 0
  have c3 : ∀ n, (W1.drewN n).cell? ⟨W.heap.size + 1, 1, none⟩ = some (.string y.dig) := fun n => b2.cell 1
  have HX := Lib.hid hW1
  clear hW1 b1 b2
  generalize Lib.compareInt x.rank y.rank = ri at *
  generalize cmpS x.dig y.dig = rs at *
  go_enter Tryz.func213, Tryz.ntmps213
  go_upto_region 1 with (fail)
  refine (show Code.wp _ _ _ _ W1 → Code.wp _ _ _ _ _ from fun h => by rw [HX.out] at h; exact h) ?_
  refine wp_region_open (C := fun w' => ∃ n, w' = W1.drewN n) 10 (by kernel_rfl) (by kernel_rfl) ⟨1, rfl⟩ ?_
  simp only [List.take_succ_cons, List.take_zero]
  repeat (quiet_step (first | (go_at_call 118; exact Calls.quiet_of_same (hci _)) | (go_at_call 119; exact Calls.quiet_of_same (hcs _))))
  refine wpQuiet_nil ?_
  rintro w' ⟨n, rfl⟩
  have hb := Blk.new (W1.drewN n) 3 #[.int .i64 ri, .int .i64 rs]
  have hor := or_any (W1.drewN n).heap.size 0 2 ri rs _ (hb.cell 0) (hb.cell 1)
  have HE : Hid (∃ q os', (W1.drewN n).alloc (.cells #[.int .i64 ri, .int .i64 rs] 3) = Go.Sort.grow (W.drewN q) os') := Lib.hid ⟨n, _, by rw [HX.out]; exact grow3 W n _ _ _⟩
  clear hb
  refine any_one 10 rfl (by kernel_rfl) rfl (fun K' hK' => ?_)
  go_simp
  refine hK' _ _ ?_
  clear hK' K'
  try simp only [Act.put, List.setIfInBounds_toArray, List.set_cons_succ, List.set_cons_zero]
  refine any_one 11 rfl (by kernel_rfl) rfl (fun K' hK' => ?_)
  go_simp
  refine hor.mono ?_
  rintro e w2 ⟨rfl, rfl⟩
  refine hK' _ _ ?_
  clear hK' K' hor
  try simp only [Act.put, List.setIfInBounds_toArray, List.set_cons_succ, List.set_cons_zero]
  rw [← HR.out]
  refine any_pure 12 (v := .int .i64 r) rfl (by kernel_rfl) (by kernel_rfl) (by kernel_rfl) (by intro c d v a w h; cases d <;> exact h) rfl (fun w => by rfl) ?_
  try simp only [Act.put, List.setIfInBounds_toArray, List.set_cons_succ, List.set_cons_zero]
  refine any_done (by kernel_rfl) ?_ _
  go_wp2_with fail
  go_ret
  exact ⟨rfl, HE.out⟩

end Go.Proofs.YtflgkplneekpfaaGreatDoor.Known

namespace Go.Proofs.YtflgkplneekpfaaGreatDoor.Known
open Go.RowKit Grp Mem _root_.Go.Proofs.YtflgkplneekpfaaGreatDoor.Code Sha Sign _root_.Go.Proofs.YtflgkplneekpfaaGreatDoor.Item

/-! ### Rows as the shelf's sort knows them -/
theorem holds_of {α : Type} [Inhabited α] {f : α → List Value} {k g n cap : Nat} {w : World} {base : Nat} {e : TypeId} {l : List α} (hk : ∀ x, (f x).length = k) (h : Owns w base e k (.slice (some ⟨g, 0, none⟩) n cap) n (l.flatMap f)) (hn : n = l.length) (h0 : 0 < n) : Go.Sort.HoldsK f k w g 0 l.toArray ∧ base ≤ g ∧ g < w.heap.size := by
  subst hn
  rcases h.2 with ⟨e1, h1⟩ | ⟨g', cap', cur, fz, hv, hb, hg, hlo, hnc, hcm, hcs, htk⟩
  · omega
  · injection hv with hA _ _
    injection hA with hA
    injection hA with hA
    subst hA
    refine ⟨fun t ht => ?_, hb, (Array.getElem?_eq_some_iff.1 hg).1⟩
    rw [Go.Sort.size_flatK, List.size_toArray] at ht
    have hk0 : 0 < k := by
      rcases Nat.eq_zero_or_pos k with h2 | h2
      · subst h2; simp at ht
      · exact h2
    have h1 : t / k < l.length := Nat.div_lt_of_lt_mul (by rwa [Nat.mul_comm] at ht)
    have h2 := Nat.mod_lt t hk0
    have hcur : t < cur.size := by
      rw [hcs]
      have := Nat.mul_le_mul_right k hnc
      omega
    have e1 : cur[t]? = some (f l[t / k])[t % k]! := by
      have h3 : (cur.toList.take (l.length * k))[t]? = (l.flatMap f)[t]? := by rw [htk]
      rw [List.getElem?_take, if_pos ht] at h3
      have h4 := flat_get hk l (t / k) (t % k) h1 h2
      rw [show t / k * k + t % k = t by rw [Nat.mul_comm]; exact Nat.div_add_mod t k] at h4
      rw [h4] at h3
      rw [← Array.getElem?_toList, h3, List.getElem?_eq_getElem (by rw [hk]; exact h2), getElem!_pos (f l[t / k]) (t % k) (by rw [hk]; exact h2)]
    refine ⟨?_, ?_⟩
    · rw [Go.Sort.get_flatK _ _ _ _ (by rw [List.size_toArray]; exact ht), getElem!_pos l.toArray (t / k) (by simpa using h1)]
      unfold World.cell?
      simp only [hg, Nat.zero_add]
      simpa using e1
    · unfold World.frozen?
      simp only [hg, Nat.zero_add]
      rcases hlo with h7 | h7
      · simp only [h7]; simp
      · have : ¬ fz.1 ≤ t := by omega
        simp [this]
theorem rows_of {α : Type} [Inhabited α] {f : α → List Value} {k g : Nat} {w : World} {d : Array α} (hk : ∀ x, (f x).length = k) (h : Go.Sort.HoldsK f k w g 0 d) (hg : g < w.heap.size) : RowsAt w (some ⟨g, 0, none⟩) k f d.toList := fun _ => by
  refine ⟨g, 0, rfl, hg, fun j hj i v hv => ?_⟩
  have hj' : j < d.size := by simpa using hj
  have := HoldsK.cells h hk hj' i v (by rw [getElem!_pos d j hj']; simpa using hv)
  rw [Addr.add_mid] at this
  exact this
theorem below_sort {α : Type} [Inhabited α] {f : α → List Value} {k g B m : Nat} {w0 w : World} {d : Array α} {os : Array Obj} (h : Below B w0 w) (hg : B ≤ g) (hB : B ≤ w.heap.size) : Below B w0 (sortWorldK f k w g 0 m d os) := by
  unfold sortWorldK
  refine h.trans ⟨rfl, rfl, rfl, ?_, fun i hi => ?_⟩
  · rw [Go.Sort.size_grow, Go.Sort.size_putRowK]
    exact Nat.le_add_right _ _
  · unfold Go.Sort.putRowK Go.Sort.putRow Go.Sort.mapBlock Go.Sort.grow Go.Sort.ahead
    rw [Array.getElem?_append_left (by simp; omega), Array.getElem?_modify, if_neg (by omega)]

theorem insOuter_stop2 {α : Type} [Inhabited α] (lt : α → α → Bool) (d : Array α) (n : Nat) (h : d.size ≤ 1) : Go.Sort.insertionSort lt d 0 n = d ∨ 1 < n := by
  rcases Nat.lt_or_ge 1 n with h1 | h1
  · exact .inr h1
  · left
    unfold Go.Sort.insertionSort
    rw [Go.Sort.insOuter, if_neg (by omega)]

/-- What the sort leaves. -/
def sortA {α : Type} [Inhabited α] (d : Array (Found α)) : Array (Found α) := Go.Sort.insertionSort (ltOf cmpF) d 0 d.size

set_option maxRecDepth 100000 in
set_option maxHeartbeats 1000000 in
theorem stableB_lt (g cap : Nat) (d : Array (Found BallotV)) (w : World) (hH : Go.Sort.HoldsK fbC 9 w g 0 d) (hg : g < w.heap.size) (hd : d.size < 20) :
    Calls Tryz.prog 212 #[.slice (some ⟨g, 0, none⟩) d.size cap, .func (.func 213) #[] #[]] w fun e w' => e = .returned (.tuple #[]) ∧ ∃ n os, w' = sortWorldK fbC 9 w g 0 n (sortA d) os := by
  have hins : Calls Tryz.prog 265 #[.slice (some ⟨g, 0, none⟩) d.size cap, .int .i64 (0 : Nat), .int .i64 (d.size : Nat), .func (.func 213) #[] #[]] w fun e w' => e = .returned (.tuple #[]) ∧ ∃ n os, w' = sortWorldK fbC 9 w g 0 n (sortA d) os :=
    AnyQ.insertionSortCmpFunc Tryz.insBallot 9 Tryz.isAgg234 Tryz.sizeOf234 fbC fb_len fb_one cmpF 213 #[] g 0 cap 0 d.size d w (enters_of Tryz.func213 (by kernel_rfl) rfl) (fun _ _ _ _ x y => cmpB_any x y _) hH hg (Nat.zero_le _) (Nat.le_refl _) (by omega)
  have hst : Calls Tryz.prog 241 #[.slice (some ⟨g, 0, none⟩) d.size cap, .int .i64 (d.size : Nat), .func (.func 213) #[] #[]] w fun e w' => e = .returned (.tuple #[]) ∧ ∃ n os, w' = sortWorldK fbC 9 w g 0 n (sortA d) os := by
    clear hH
    generalize sortA d = r at hins ⊢
    go_enter Tryz.func241, Tryz.ntmps241
    go_wp2_with fail
    refine wp_loop_rounds 1 ?_
    rw [rounds_succ]
    go_wp2_with (go_at_call 265; refine hins.mono ?_; rintro e w' ⟨rfl, n, os, rfl⟩)
    refine wp_loop_rounds 1 ?_
    rw [rounds_succ]
    go_wp2_with fail
    go_end0
    exact ⟨rfl, n, os, rfl⟩
  clear hins hH
  generalize sortA d = r at hst ⊢
  go_enter Tryz.func212, Tryz.ntmps212
  go_wp2_with (go_at_call 241; refine hst.mono ?_; rintro e w' ⟨rfl, n, os, rfl⟩)
  go_end0
  exact ⟨rfl, n, os, rfl⟩

set_option maxRecDepth 100000 in
set_option maxHeartbeats 1000000 in
theorem insEndB (A : Option Addr) (cap : Nat) (w : World) :
    Calls Tryz.prog 265 #[.slice A 20 cap, .int .i64 20, .int .i64 20, .func (.func 213) #[] #[]] w fun e w' => e = .returned (.tuple #[]) ∧ w' = w := by
  go_enter Tryz.func265, Tryz.ntmps265
  go_wp2_with fail
  refine wp_loop_rounds 1 ?_
  rw [rounds_succ]
  go_wp2_with fail
  go_end0
  exact ⟨rfl, rfl⟩

set_option maxRecDepth 100000 in
set_option maxHeartbeats 1000000 in
theorem stableB_eq (g cap : Nat) (d : Array (Found BallotV)) (w : World) (hH : Go.Sort.HoldsK fbC 9 w g 0 d) (hg : g < w.heap.size) (hd : d.size = 20) :
    Calls Tryz.prog 212 #[.slice (some ⟨g, 0, none⟩) d.size cap, .func (.func 213) #[] #[]] w fun e w' => e = .returned (.tuple #[]) ∧ ∃ n os, w' = sortWorldK fbC 9 w g 0 n (sortA d) os := by
  have hins : Calls Tryz.prog 265 #[.slice (some ⟨g, 0, none⟩) d.size cap, .int .i64 (0 : Nat), .int .i64 (d.size : Nat), .func (.func 213) #[] #[]] w fun e w' => e = .returned (.tuple #[]) ∧ ∃ n os, w' = sortWorldK fbC 9 w g 0 n (sortA d) os :=
    AnyQ.insertionSortCmpFunc Tryz.insBallot 9 Tryz.isAgg234 Tryz.sizeOf234 fbC fb_len fb_one cmpF 213 #[] g 0 cap 0 d.size d w (enters_of Tryz.func213 (by kernel_rfl) rfl) (fun _ _ _ _ x y => cmpB_any x y _) hH hg (Nat.zero_le _) (Nat.le_refl _) (by omega)
  have hst : Calls Tryz.prog 241 #[.slice (some ⟨g, 0, none⟩) d.size cap, .int .i64 (d.size : Nat), .func (.func 213) #[] #[]] w fun e w' => e = .returned (.tuple #[]) ∧ ∃ n os, w' = sortWorldK fbC 9 w g 0 n (sortA d) os := by
    clear hH
    generalize sortA d = r at hins ⊢
    rw [hd, show ((20 : Nat) : Int) = 20 from rfl, show ((0 : Nat) : Int) = 0 from rfl] at hins
    rw [hd, show ((20 : Nat) : Int) = 20 from rfl]
    go_enter Tryz.func241, Tryz.ntmps241
    go_wp2_with fail
    refine wp_loop_rounds 2 ?_
    rw [rounds_succ]
    go_wp2_with (go_at_call 265; refine hins.mono ?_; rintro e w' ⟨rfl, n, os, rfl⟩)
    rw [rounds_succ]
    go_wp2_with (go_at_call 265; refine (insEndB _ _ _).mono ?_; rintro e w' ⟨rfl, rfl⟩)
    refine wp_loop_rounds 1 ?_
    rw [rounds_succ]
    go_wp2_with fail
    go_end0
    exact ⟨rfl, n, os, rfl⟩
  clear hins hH
  generalize sortA d = r at hst ⊢
  have hd' : d.size ≤ 20 := by omega
  clear hd
  go_enter Tryz.func212, Tryz.ntmps212
  go_wp2_with (go_at_call 241; refine hst.mono ?_; rintro e w' ⟨rfl, n, os, rfl⟩)
  go_end0
  exact ⟨rfl, n, os, rfl⟩

theorem stableB_any (g cap : Nat) (d : Array (Found BallotV)) (w : World) (hH : Go.Sort.HoldsK fbC 9 w g 0 d) (hg : g < w.heap.size) (hd : d.size ≤ 20) :
    Calls Tryz.prog 212 #[.slice (some ⟨g, 0, none⟩) d.size cap, .func (.func 213) #[] #[]] w fun e w' => e = .returned (.tuple #[]) ∧ ∃ n os, w' = sortWorldK fbC 9 w g 0 n (sortA d) os := by
  rcases Nat.lt_or_eq_of_le hd with h | h
  · exact stableB_lt g cap d w hH hg h
  · exact stableB_eq g cap d w hH hg h

set_option maxRecDepth 100000 in
set_option maxHeartbeats 1000000 in
theorem stableB_nil (w : World) :
    Calls Tryz.prog 212 #[.slice none 0 0, .func (.func 213) #[] #[]] w fun e w' => e = .returned (.tuple #[]) ∧ w' = w := by
  have hins : Calls Tryz.prog 265 #[.slice none 0 0, .int .i64 0, .int .i64 0, .func (.func 213) #[] #[]] w fun e w' => e = .returned (.tuple #[]) ∧ w' = w := by
    go_enter Tryz.func265, Tryz.ntmps265
    go_wp2_with fail
    refine wp_loop_rounds 1 ?_
    rw [rounds_succ]
    go_wp2_with fail
    go_end0
    exact ⟨rfl, rfl⟩
  have hst : Calls Tryz.prog 241 #[.slice none 0 0, .int .i64 0, .func (.func 213) #[] #[]] w fun e w' => e = .returned (.tuple #[]) ∧ w' = w := by
    go_enter Tryz.func241, Tryz.ntmps241
    go_wp2_with fail
    refine wp_loop_rounds 1 ?_
    rw [rounds_succ]
    go_wp2_with (go_at_call 265; refine hins.mono ?_; rintro e w' ⟨rfl, hw⟩; rw [hw])
    refine wp_loop_rounds 1 ?_
    rw [rounds_succ]
    go_wp2_with fail
    go_end0
    exact ⟨rfl, rfl⟩
  go_enter Tryz.func212, Tryz.ntmps212
  go_wp2_with (go_at_call 241; refine hst.mono ?_; rintro e w' ⟨rfl, hw⟩; rw [hw])
  go_end0
  exact ⟨rfl, rfl⟩
end Go.Proofs.YtflgkplneekpfaaGreatDoor.Known

namespace Go.Proofs.YtflgkplneekpfaaGreatDoor.Known
open Go.RowKit Grp Mem _root_.Go.Proofs.YtflgkplneekpfaaGreatDoor.Code Sha Sign _root_.Go.Proofs.YtflgkplneekpfaaGreatDoor.Item

theorem results_row_tmp2 {P : Program} {fn : Func} {p u r : Tmp} {ty : TypeId} (h : fn.results = #[.cell p ty, .tmp u, .tmp r]) (tmps : Array Value) (w : World) (g : Nat) (t : TypeId) (cs : Array Value) (fr : Nat × Nat) (d : TypeDesc) (v v2 : Value)
    (hp : tmps.getD p undef = .pointer (some ⟨g, 0, none⟩)) (hv : tmps.getD u undef = v) (hv2 : tmps.getD r undef = v2) (hg : w.heap[g]? = some (.cells cs t fr))
    (hu : P.underlying ty = some d) (hd : (match d with | .struct _ | .array _ _ => true | _ => false) = true) (hi : (P.info? ty).map (·.size) = some cs.size) :
    (results fn tmps).run P w = .ok (.tuple #[.agg cs, v, v2]) w := by
  have hp' : tmps[p]?.getD undef = .pointer (some ⟨g, 0, none⟩) := by simpa using hp
  have hv' : tmps[u]?.getD undef = v := by simpa using hv
  have hv2' : tmps[r]?.getD undef = v2 := by simpa using hv2
  simp [results, h, hp', hv', hv2', asAddr, run_loadVar_row w g t ty cs fr d hg hu hd hi]

/-- Does an item bear a ballot for an actor and a generation? -/
def wantB (actor : ByteArray) (gen : Int) (x : ItemR) : Bool := decide (x.kind = 2) && (decide (x.ballot.actor = actor) && decide (x.ballot.gen = gen))

/-- The worlds of the closure's last region. -/
structure WantF (w : World) (x : ItemR) (w' : World) : Prop where
  q : Q w w'
  it : Blk w' w.heap.size 50 x.cells.toArray
  b : Blk w' (w.heap.size + 1 + 1) 46 x.ballot.cells.toArray
  r : ∃ cs : List Value, cs.length = 7 ∧ Blk w' (w.heap.size + 1) 46 cs.toArray
structure WantW (w0 : World) (x : ItemR) where
  w : World
  f : WantF w0 x w
theorem wpQuiet_load_S {P : Program} {C : World → Prop} {ops : Array Oper} {rest : List Oper} {o : Oper} {a : Act} {K : Act → Prop} (ty : TypeId) (y : Operand) (p v : Value) (ho : o.op = .load ty y) (hw : Region.wanted o (yielded ops a.tmps) = true)
    (hy : a.eval y = p) (hr : ∀ w, C w → (Instr.loadAt ty p).run P w = .ok v w) (h : wpQuiet P ops C K rest (a.put o.dst v)) : wpQuiet P ops C K (o :: rest) a := by
  unfold wpQuiet
  rw [if_pos hw]
  refine ⟨v, fun w hC => ?_, h⟩
  unfold Oper.quietAt execOp
  simp only [ho, hy, Sem.run_bind, hr w hC, Result.andThen_ok, Sem.run_pure, Oper.quietUpon]
  exact ⟨trivial, trivial⟩

set_option maxRecDepth 100000 in
set_option maxHeartbeats 2000000 in
theorem wantB_any (p1 p2 : Nat) (actor : ByteArray) (gen : Int) (x : ItemR) (w : World) (h1 : w.cell? ⟨p1, 0, none⟩ = some (.string actor)) (hp1 : p1 < w.heap.size) (h2 : w.cell? ⟨p2, 0, none⟩ = some (.int .i64 gen)) (hp2 : p2 < w.heap.size) :
    Calls Tryz.prog 164 #[.agg (itA x), .pointer (some ⟨p1, 0, none⟩), .pointer (some ⟨p2, 0, none⟩)] w fun e w' => e = .returned (.tuple #[.agg (ballotA x.ballot), .int .i64 0, .bool (wantB actor gen x)]) ∧ Q w w' := by
  have hbi := Blk.new w 50 (itA x)
  have hq1 := q_new w (itA x) 50
  have hbr := Blk.new' (g := w.heap.size + 1) (w.alloc (.cells (itA x) 50)) 46 (ballotA ballot0) (by simp)
  have hq2 := q_new (w.alloc (.cells (itA x) 50)) (ballotA ballot0) 46
  have hbi := hbi.q hq2
  have hq := Q.trans hq1 hq2
  clear hq1 hq2
  obtain ⟨w2, hw2⟩ : ∃ w2, w2 = (w.alloc (.cells (itA x) 50)).alloc (.cells (ballotA ballot0) 46) := ⟨_, rfl⟩
  rw [← hw2] at hbi hbr hq
  have hw2s : w2.heap.size = w.heap.size + 1 + 1 := by rw [hw2]; simp
  have hLd : ∀ y : Wd w2, (Instr.loadAt 46 (.pointer (some ⟨w.heap.size, 30, none⟩))).run Tryz.prog y.w = .ok (.agg (ballotA x.ballot)) y.w := item_ballot hbi.lt (Blk.range hbi)
  have HX := Lib.hid hw2
  clear hw2
  have hbb := Blk.new' (g := w.heap.size + 1 + 1) w2 46 ballot0.cells.toArray hw2s.symm
  go_enter Tryz.func164, Tryz.ntmps164
  go_upto_region 1 with (fail)
  refine (show Code.wp _ _ _ _ w2 → Code.wp _ _ _ _ _ from fun h => by rw [HX.out] at h; exact h) ?_
  go_wp2_with (first | (refine wpList_load_run 46 (.tmp 8) (.pointer (some ⟨w.heap.size, 30, none⟩)) (.agg (ballotA x.ballot)) ?_ ?_ ?_ ?_ ?_; rfl; rfl; rfl; exact hLd ⟨_, Q.refl _⟩) | (refine wpList_store_blk hbb rfl 46 (.tmp 7) (.tmp 9) x.ballot.cells rfl rfl rfl (by kernel_rfl) (ballot_all _) (Nat.le_refl 7) ?_))
  intro W hW hbel
  rw [splice_all _ _ (by rfl)] at hW
  have hqW2 : Q w2 W := hbel _ _ (by omega) (q_new _ _ _)
  have hF : WantF w x W := ⟨Q.trans hq hqW2, hbi.q hqW2, hW, ballot0.cells, rfl, hbr.q hqW2⟩
  clear hW hbel hqW2 hbb hLd hbr hq HX hw2s
  have hFd : ∃ y : WantW w x, ({ W with drawn := W.drawn + 1 } : World) = y.w := ⟨⟨_, ⟨hF.q.drew, hF.it, hF.b, hF.r⟩⟩, rfl⟩
  have cK : ∀ y : WantW w x, y.w.cell? ⟨w.heap.size, 0, none⟩ = some (.int .i64 x.kind) := fun y => y.f.it.cell 0
  have cA : ∀ y : WantW w x, y.w.cell? ⟨w.heap.size + 1 + 1, 1, none⟩ = some (.string x.ballot.actor) := fun y => y.f.b.cell 1
  have cG : ∀ y : WantW w x, y.w.cell? ⟨w.heap.size + 1 + 1, 2, none⟩ = some (.int .i64 x.ballot.gen) := fun y => y.f.b.cell 2
  have c1 : ∀ y : WantW w x, y.w.cell? ⟨p1, 0, none⟩ = some (.string actor) := fun y => (y.f.q.cell (p := ⟨p1, 0, none⟩) hp1).trans h1
  have c2 : ∀ y : WantW w x, y.w.cell? ⟨p2, 0, none⟩ = some (.int .i64 gen) := fun y => (y.f.q.cell (p := ⟨p2, 0, none⟩) hp2).trans h2
  have hLb : ∀ z, (∃ y : WantW w x, z = y.w) → (Instr.loadAt 46 (.pointer (some ⟨w.heap.size + 1 + 1, 0, none⟩))).run Tryz.prog z = .ok (.agg (ballotA x.ballot)) z := by
    rintro z ⟨y, rfl⟩
    exact Wd.load (P := Tryz.prog) (w0 := y.w) y.f.b.lt (Blk.range y.f.b) Tryz.underlying46 rfl (by kernel_rfl) ⟨y.w, Q.refl _⟩
  have HR : Hid (wantB actor gen x = (decide (x.kind = 2) && (decide (x.ballot.actor = actor) && decide (x.ballot.gen = gen)))) := Lib.hid rfl
  have HF := Lib.hid hF
  haveI hNE : Nonempty (WantW w x) := ⟨⟨W, hF⟩⟩
  clear hF h1 h2 hbi
  by_cases hk : x.kind = 2
  · rw [decide_eq_true hk, Bool.true_and] at HR
    by_cases ha : x.ballot.actor = actor
    · rw [decide_eq_true ha, Bool.true_and] at HR
      go_wp2_with fail
      refine wp_region_reads (S := fun w' => ∃ y : WantW w x, w' = y.w) 16 (by kernel_rfl) (by kernel_rfl) (by intro c a d v w h; cases d <;> exact h) hFd ?_
      simp only [List.take_succ_cons, List.take_zero]
      refine wpQuiet_load_S 46 (.tmp 7) (.pointer (some ⟨w.heap.size + 1 + 1, 0, none⟩)) (.agg (ballotA x.ballot)) rfl rfl rfl hLb ?_
      dsimp only [Act.put]
      simp only [List.setIfInBounds_toArray, List.set_cons_succ, List.set_cons_zero]
      repeat (go_big_quiet_step (fail))
      refine wpQuiet_nil ?_
      rintro w' ⟨y, rfl⟩
      obtain ⟨cs, hcs, hbr⟩ := y.f.r
      refine held_one 16 rfl (by kernel_rfl) rfl (fun K' hK' => ?_)
      refine wp_store_mid 46 (.tmp 4) (.tmp 10) rfl (w.heap.size + 1) 0 (ballotA x.ballot) rfl rfl (show y.w.there (w.heap.size + 1) 0 7 by simpa using hbr.there (n := 7) (Nat.le_of_eq hcs.symm)) (by kernel_rfl) (ballot_all _) ?_
      have hsc : Blk (y.w.setCells (w.heap.size + 1) 0 x.ballot.cells) (w.heap.size + 1) 46 x.ballot.cells.toArray := by
        have := Blk.setCells x.ballot.cells 0 _ y.w hbr (Nat.le_of_eq (by rw [hcs]; rfl))
        rwa [splice_all _ _ (by rw [hcs]; rfl)] at this
      have hfar := fun b (hne : b ≠ w.heap.size + 1) => setCells_far (g := w.heap.size + 1) hne x.ballot.cells 0 y.w
      have hqs : Q w (y.w.setCells (w.heap.size + 1) 0 x.ballot.cells) := below_setCells (Nat.le_succ _) x.ballot.cells 0 w y.w y.f.q
      have hFN : WantF w x (y.w.setCells (w.heap.size + 1) 0 x.ballot.cells) := ⟨hqs, (hfar _ (by omega)).trans y.f.it, (hfar _ (by omega)).trans y.f.b, x.ballot.cells, rfl, hsc⟩
      refine hK' _ _ ⟨⟨_, hFN⟩, rfl⟩ ?_
      clear hK' K' hbr hfar
      have HZ := Lib.hid hsc
      have HQ := Lib.hid hqs
      clear hsc hqs
      simp only [Act.put, List.setIfInBounds_toArray, List.set_cons_succ, List.set_cons_zero]
      refine held_pure 17 (v := .int .i64 0) rfl (by kernel_rfl) (by kernel_rfl) (by kernel_rfl) (by intro c a d v w h; cases d <;> exact h) rfl ⟨⟨_, hFN⟩, rfl⟩ (fun w => by rfl) ?_
      simp only [Act.put, List.setIfInBounds_toArray, List.set_cons_succ, List.set_cons_zero]
      refine held_pure 18 (v := .bool (x.ballot.gen == gen)) rfl (by kernel_rfl) (by kernel_rfl) (by kernel_rfl) (by intro c a d v w h; cases d <;> exact h) rfl ⟨⟨_, hFN⟩, rfl⟩ (fun w => by rfl) ?_
      simp only [Act.put, List.setIfInBounds_toArray, List.set_cons_succ, List.set_cons_zero]
      refine wpAnyH_done (by kernel_rfl) ?_ _
      go_wp2_with fail
      exact bodyPost_ret (results_row_tmp2 rfl _ _ (w.heap.size + 1) 46 (ballotA x.ballot) (0, 0) _ _ _ rfl rfl rfl HZ.out Tryz.underlying46 rfl (by kernel_rfl)) rfl ⟨by rw [HR.out, ← beq_int]; rfl, HQ.out⟩
    · rw [decide_eq_false ha, Bool.false_and] at HR
      have hab : (x.ballot.actor.toList == actor.toList) = false := by rw [beq_str, decide_eq_false ha]
      go_wp2_with fail
      refine wp_region_reads (S := fun w' => ∃ y : WantW w x, w' = y.w) 16 (by kernel_rfl) (by kernel_rfl) (by intro c a d v w h; cases d <;> exact h) hFd ?_
      simp only [List.take_succ_cons, List.take_zero]
      refine wpQuiet_load_S 46 (.tmp 7) (.pointer (some ⟨w.heap.size + 1 + 1, 0, none⟩)) (.agg (ballotA x.ballot)) rfl rfl rfl hLb ?_
      dsimp only [Act.put]
      simp only [List.setIfInBounds_toArray, List.set_cons_succ, List.set_cons_zero]
      repeat (go_big_quiet_step (fail))
      refine wpQuiet_nil ?_
      rintro w' ⟨y, rfl⟩
      obtain ⟨cs, hcs, hbr⟩ := y.f.r
      refine held_one 16 rfl (by kernel_rfl) rfl (fun K' hK' => ?_)
      refine wp_store_mid 46 (.tmp 4) (.tmp 10) rfl (w.heap.size + 1) 0 (ballotA x.ballot) rfl rfl (show y.w.there (w.heap.size + 1) 0 7 by simpa using hbr.there (n := 7) (Nat.le_of_eq hcs.symm)) (by kernel_rfl) (ballot_all _) ?_
      have hsc : Blk (y.w.setCells (w.heap.size + 1) 0 x.ballot.cells) (w.heap.size + 1) 46 x.ballot.cells.toArray := by
        have := Blk.setCells x.ballot.cells 0 _ y.w hbr (Nat.le_of_eq (by rw [hcs]; rfl))
        rwa [splice_all _ _ (by rw [hcs]; rfl)] at this
      have hfar := fun b (hne : b ≠ w.heap.size + 1) => setCells_far (g := w.heap.size + 1) hne x.ballot.cells 0 y.w
      have hqs : Q w (y.w.setCells (w.heap.size + 1) 0 x.ballot.cells) := below_setCells (Nat.le_succ _) x.ballot.cells 0 w y.w y.f.q
      have hFN : WantF w x (y.w.setCells (w.heap.size + 1) 0 x.ballot.cells) := ⟨hqs, (hfar _ (by omega)).trans y.f.it, (hfar _ (by omega)).trans y.f.b, x.ballot.cells, rfl, hsc⟩
      refine hK' _ _ ⟨⟨_, hFN⟩, rfl⟩ ?_
      clear hK' K' hbr hfar
      have HZ := Lib.hid hsc
      have HQ := Lib.hid hqs
      clear hsc hqs
      simp only [Act.put, List.setIfInBounds_toArray, List.set_cons_succ, List.set_cons_zero]
      refine held_pure 17 (v := .int .i64 0) rfl (by kernel_rfl) (by kernel_rfl) (by kernel_rfl) (by intro c a d v w h; cases d <;> exact h) rfl ⟨⟨_, hFN⟩, rfl⟩ (fun w => by rfl) ?_
      simp only [Act.put, List.setIfInBounds_toArray, List.set_cons_succ, List.set_cons_zero]
      refine held_pure 18 (v := .bool false) rfl (by kernel_rfl) (by kernel_rfl) (by kernel_rfl) (by intro c a d v w h; cases d <;> exact h) rfl ⟨⟨_, hFN⟩, rfl⟩ (fun w => by rfl) ?_
      simp only [Act.put, List.setIfInBounds_toArray, List.set_cons_succ, List.set_cons_zero]
      refine wpAnyH_done (by kernel_rfl) ?_ _
      go_wp2_with fail
      exact bodyPost_ret (results_row_tmp2 rfl _ _ (w.heap.size + 1) 46 (ballotA x.ballot) (0, 0) _ _ _ rfl rfl rfl HZ.out Tryz.underlying46 rfl (by kernel_rfl)) rfl ⟨by rw [HR.out]; rfl, HQ.out⟩
  · rw [decide_eq_false hk, Bool.false_and] at HR
    have hkb : (x.kind == 2) = false := by simpa using hk
    go_wp2_with fail
    refine wp_region_reads (S := fun w' => ∃ y : WantW w x, w' = y.w) 16 (by kernel_rfl) (by kernel_rfl) (by intro c a d v w h; cases d <;> exact h) hFd ?_
    simp only [List.take_succ_cons, List.take_zero]
    refine wpQuiet_load_S 46 (.tmp 7) (.pointer (some ⟨w.heap.size + 1 + 1, 0, none⟩)) (.agg (ballotA x.ballot)) rfl rfl rfl hLb ?_
    dsimp only [Act.put]
    simp only [List.setIfInBounds_toArray, List.set_cons_succ, List.set_cons_zero]
    repeat (go_big_quiet_step (fail))
    refine wpQuiet_nil ?_
    rintro w' ⟨y, rfl⟩
    obtain ⟨cs, hcs, hbr⟩ := y.f.r
    refine held_one 16 rfl (by kernel_rfl) rfl (fun K' hK' => ?_)
    refine wp_store_mid 46 (.tmp 4) (.tmp 10) rfl (w.heap.size + 1) 0 (ballotA x.ballot) rfl rfl (show y.w.there (w.heap.size + 1) 0 7 by simpa using hbr.there (n := 7) (Nat.le_of_eq hcs.symm)) (by kernel_rfl) (ballot_all _) ?_
    have hsc : Blk (y.w.setCells (w.heap.size + 1) 0 x.ballot.cells) (w.heap.size + 1) 46 x.ballot.cells.toArray := by
      have := Blk.setCells x.ballot.cells 0 _ y.w hbr (Nat.le_of_eq (by rw [hcs]; rfl))
      rwa [splice_all _ _ (by rw [hcs]; rfl)] at this
    have hfar := fun b (hne : b ≠ w.heap.size + 1) => setCells_far (g := w.heap.size + 1) hne x.ballot.cells 0 y.w
    have hqs : Q w (y.w.setCells (w.heap.size + 1) 0 x.ballot.cells) := below_setCells (Nat.le_succ _) x.ballot.cells 0 w y.w y.f.q
    have hFN : WantF w x (y.w.setCells (w.heap.size + 1) 0 x.ballot.cells) := ⟨hqs, (hfar _ (by omega)).trans y.f.it, (hfar _ (by omega)).trans y.f.b, x.ballot.cells, rfl, hsc⟩
    refine hK' _ _ ⟨⟨_, hFN⟩, rfl⟩ ?_
    clear hK' K' hbr hfar
    have HZ := Lib.hid hsc
    have HQ := Lib.hid hqs
    clear hsc hqs
    simp only [Act.put, List.setIfInBounds_toArray, List.set_cons_succ, List.set_cons_zero]
    refine held_pure 17 (v := .int .i64 0) rfl (by kernel_rfl) (by kernel_rfl) (by kernel_rfl) (by intro c a d v w h; cases d <;> exact h) rfl ⟨⟨_, hFN⟩, rfl⟩ (fun w => by rfl) ?_
    simp only [Act.put, List.setIfInBounds_toArray, List.set_cons_succ, List.set_cons_zero]
    refine held_pure 18 (v := .bool false) rfl (by kernel_rfl) (by kernel_rfl) (by kernel_rfl) (by intro c a d v w h; cases d <;> exact h) rfl ⟨⟨_, hFN⟩, rfl⟩ (fun w => by rfl) ?_
    simp only [Act.put, List.setIfInBounds_toArray, List.set_cons_succ, List.set_cons_zero]
    refine wpAnyH_done (by kernel_rfl) ?_ _
    go_wp2_with fail
    exact bodyPost_ret (results_row_tmp2 rfl _ _ (w.heap.size + 1) 46 (ballotA x.ballot) (0, 0) _ _ _ rfl rfl rfl HZ.out Tryz.underlying46 rfl (by kernel_rfl)) rfl ⟨by rw [HR.out]; rfl, HQ.out⟩
end Go.Proofs.YtflgkplneekpfaaGreatDoor.Known

namespace Go.Proofs.YtflgkplneekpfaaGreatDoor.Known
open Go.RowKit Grp Mem _root_.Go.Proofs.YtflgkplneekpfaaGreatDoor.Code Sha Sign _root_.Go.Proofs.YtflgkplneekpfaaGreatDoor.Item

def foundB (x : ItemR) : Found BallotV := ⟨0, digOf x, x.ballot⟩
def takeB (actor : ByteArray) (gen : Int) (l : List ItemR) : List (Found BallotV) := (l.filter fun x => wantB actor gen x && itemRight x).map foundB
theorem takeB_step (actor : ByteArray) (gen : Int) (l : List ItemR) (j : Nat) (h : j < l.length) : takeB actor gen (l.take (j + 1)) = takeB actor gen (l.take j) ++ if wantB actor gen l[j] && itemRight l[j] then [foundB l[j]] else [] := by
  unfold takeB
  rw [List.take_succ_eq_append_getElem h, List.filter_append, List.map_append]
  congr 1
  cases hw : wantB actor gen l[j] && itemRight l[j] <;> simp [List.filter, hw]
theorem takeB_le (actor : ByteArray) (gen : Int) (l : List ItemR) (j : Nat) : (takeB actor gen (l.take j)).length ≤ j := by
  unfold takeB
  rw [List.length_map]
  refine Nat.le_trans (List.length_filter_le _ _) ?_
  rw [List.length_take]
  omega
def sortB (l : List (Found BallotV)) : List (Found BallotV) := (sortA l.toArray).toList
def ballotsK (actor : ByteArray) (gen : Int) (l : List ItemR) : List BallotV := (sortB (takeB actor gen l)).map (·.val)
theorem size_swp2 {α : Type} [Inhabited α] (lt : α → α → Bool) (a : Nat) : ∀ (j : Nat) (d : Array α), (Go.Sort.insInner lt a j d).size = d.size
  | 0, d => rfl
  | j + 1, d => by
    rw [Go.Sort.insInner]
    split
    · rw [size_swp2 lt a j, Go.Sort.size_swp]
    · rfl
theorem size_insO {α : Type} [Inhabited α] (lt : α → α → Bool) (a b : Nat) : ∀ (n i : Nat) (d : Array α), b - i = n → (Go.Sort.insOuter lt a b i d).size = d.size := by
  intro n
  induction n with
  | zero => intro i d h; rw [Go.Sort.insOuter, if_neg (by omega)]
  | succ n ih =>
    intro i d h
    rw [Go.Sort.insOuter, if_pos (by omega), ih (i + 1) _ (by omega), size_swp2]
theorem sortB_length (l : List (Found BallotV)) : (sortB l).length = l.length := by
  unfold sortB sortA Go.Sort.insertionSort
  rw [Array.length_toList, size_insO _ _ _ _ _ _ rfl, List.size_toArray]

theorem sortB_nil : sortB [] = [] := List.length_eq_zero_iff.1 (sortB_length [])
/-- The sort, of an own row. -/
theorem sorted_any (A : Option Addr) (c m base : Nat) (l : List (Found BallotV)) (w : World) (hm : m = l.length) (h20 : m ≤ 20) (h : Owns w base 234 9 (.slice A m c) m (l.flatMap fbC)) (hB : base ≤ w.heap.size) :
    Calls Tryz.prog 212 #[.slice A m c, .func (.func 213) #[] #[]] w fun e w' => e = .returned (.tuple #[]) ∧ (RowsAt w' A 9 fbC (sortB l) ∧ Below base w w') := by
  rcases h.2 with ⟨e1, h0⟩ | ⟨g, cap, cur, fz, hv, hb, hg, _⟩
  · injection e1 with hA _ hc
    subst hA hc
    have hl : l = [] := List.length_eq_zero_iff.1 (by omega)
    subst hl
    subst hm
    refine (stableB_nil w).mono ?_
    rintro e w' ⟨rfl, rfl⟩
    exact ⟨rfl, by rw [sortB_nil]; exact RowsAt.nil _ _ _ _, Below.refl _ _⟩
  · injection hv with hA _ hc
    subst hA
    rcases Nat.eq_zero_or_pos m with h0 | h0
    · have hl : l = [] := List.length_eq_zero_iff.1 (by omega)
      subst hl
      have hH : Go.Sort.HoldsK fbC 9 w g 0 (#[] : Array (Found BallotV)) := fun t ht => by rw [Go.Sort.size_flatK] at ht; simp at ht
      have := stableB_any g c #[] w hH (Array.getElem?_eq_some_iff.1 hg).1 (by simp)
      subst hm
      refine this.mono ?_
      rintro e w' ⟨rfl, n, os, rfl⟩
      exact ⟨rfl, by rw [sortB_nil]; exact RowsAt.nil _ _ _ _, below_sort (Below.refl _ _) hb hB⟩
    · obtain ⟨hH, hb', hg'⟩ := holds_of fb_len h hm h0
      subst hm
      have hs : (l.toArray).size = l.length := by simp
      have hsa : (sortA l.toArray).size = l.toArray.size := by
        unfold sortA Go.Sort.insertionSort
        rw [size_insO _ _ _ _ _ _ rfl]
      have := stableB_any g c l.toArray w hH hg' (by rw [hs]; exact h20)
      rw [hs] at this
      refine this.mono ?_
      rintro e w' ⟨rfl, n, os, rfl⟩
      refine ⟨rfl, rows_of fb_len (holdsK_sortWorldK_c fbC 9 w g 0 l.toArray _ n os hH hg' hsa) ?_, below_sort (Below.refl _ _) hb hB⟩
      exact Nat.lt_of_lt_of_le hg' (size_sortWorldK_c fbC 9 w g 0 n _ os)

theorem found_info : (Tryz.prog.info? 234).map (fun i => (i.zero, i.size, i.bytes)) = some (some (.agg (fbC default).toArray), 9, 96) := by kernel_rfl
theorem bal_info : (Tryz.prog.info? 46).map (fun i => (i.zero, i.size, i.bytes)) = some (some (.agg (ballotA ballot0)), 7, 72) := by kernel_rfl
theorem wpQuiet_build_run {P : Program} {C : World → Prop} {ops : Array Oper} {rest : List Oper} {o : Oper} {a : Act} {K : Act → Prop} (ty : TypeId) (parts : Array (Nat × Operand)) (vs : Array (Nat × Value)) (v : Value) (ho : o.op = .build ty parts) (hw : Region.wanted o (yielded ops a.tmps) = true)
    (hp : (parts.map fun x => (x.1, a.eval x.2)) = vs) (hr : ∀ w, (Instr.build ty vs).run P w = .ok v w) (h : wpQuiet P ops C K rest (a.put o.dst v)) : wpQuiet P ops C K (o :: rest) a := by
  unfold wpQuiet
  rw [if_pos hw]
  refine ⟨v, fun w hC => ?_, h⟩
  subst hp
  unfold Oper.quietAt execOp
  simp only [ho, Sem.run_bind, hr w, Result.andThen_ok, Sem.run_pure, Oper.quietUpon]
  exact ⟨trivial, trivial⟩
theorem fb_all (x : Found BallotV) : (fbC x).toArray.all (·.oneCell') = true := by
  rw [Array.all_eq_true_iff_forall_mem]
  intro v hv
  exact fb_one x v (by simpa using hv)
theorem build_found (d : ByteArray) (b : BallotV) (w : World) : (Instr.build 234 #[(0, .int .i64 0), (1, .string d), (2, .agg (ballotA b))]).run Tryz.prog w = .ok (.agg (fbC ⟨0, d, b⟩).toArray) w := by kernel_rfl
theorem bs_found (x : Found BallotV) (w : World) : (Instr.buildSlice 231 1 #[(0, .agg (fbC x).toArray)]).run Tryz.prog w = .ok (.slice (some ⟨w.heap.size, 0, none⟩) 1 1) (w.alloc (.cells (fbC x).toArray 234)) := by kernel_rfl
theorem bs_ballot (x : BallotV) (w : World) : (Instr.buildSlice 149 1 #[(0, .agg (ballotA x))]).run Tryz.prog w = .ok (.slice (some ⟨w.heap.size, 0, none⟩) 1 1) (w.alloc (.cells (ballotA x) 46)) := by kernel_rfl
theorem bal_len (x : BallotV) : x.cells.length = 7 := rfl
theorem bal_one (x : BallotV) : ∀ v ∈ x.cells, v.oneCell' = true := by
  have := ballot_all x
  rw [Array.all_eq_true_iff_forall_mem] at this
  intro v hv
  exact this v (by simpa using hv)

/-- What hands back a list of ballots. -/
def BallotsAre (l : List BallotV) (w : World) (e : Ending) (w' : World) : Prop := ∃ (A : Option Addr) (c : Nat), e = .returned (.slice A l.length c) ∧ l.length ≤ c ∧ c ≤ maxLen ∧ RowsAt w' A 7 BallotV.cells l ∧ Q w w'
set_option maxRecDepth 100000 in
set_option maxHeartbeats 2000000 in
theorem pickB_any (k : KR) (p1 p2 : Nat) (actor : ByteArray) (gen : Int) (w : World) (hT : Tab w) (hK : KIn w k) (h1 : w.cell? ⟨p1, 0, none⟩ = some (.string actor)) (hp1 : p1 < w.heap.size) (h2 : w.cell? ⟨p2, 0, none⟩ = some (.int .i64 gen)) (hp2 : p2 < w.heap.size) (hn : k.l.length ≤ 20) :
    Calls Tryz.prog 163 #[.agg (knA k), .func (.func 164) #[] #[.pointer (some ⟨p1, 0, none⟩), .pointer (some ⟨p2, 0, none⟩)]] w (BallotsAre (ballotsK actor gen k.l) w) := by
  obtain ⟨w1, x, hx, hq1, hbk⟩ := boxedB w 31 k.cells
  have hx : w.alloc (.cells (knA k) 31) = x.w := hx
  have cI : ∀ y : Wd w1, y.w.cell? ⟨w.heap.size, 1, none⟩ = some (.slice k.iA k.l.length k.iC) := fun y => (y.blk hbk).cell 1
  have hKy : ∀ y : Wd w1, KIn y.w k := fun y => hK.q (Q.trans hq1 y.q)
  have hTy : ∀ y : Wd w1, Tab y.w := fun y => hT.q (Q.trans hq1 y.q)
  have hW1 : ∀ y : Wd w1, y.w.cell? ⟨p1, 0, none⟩ = some (.string actor) := fun y => ((Q.trans hq1 y.q).cell (p := ⟨p1, 0, none⟩) hp1).trans h1
  have hW2 : ∀ y : Wd w1, y.w.cell? ⟨p2, 0, none⟩ = some (.int .i64 gen) := fun y => ((Q.trans hq1 y.q).cell (p := ⟨p2, 0, none⟩) hp2).trans h2
  have hP1 : ∀ y : Wd w1, p1 < y.w.heap.size := fun y => Nat.lt_of_lt_of_le hp1 (Q.trans hq1 y.q).size
  have hP2 : ∀ y : Wd w1, p2 < y.w.heap.size := fun y => Nat.lt_of_lt_of_le hp2 (Q.trans hq1 y.q).size
  have HQ := Lib.hid hq1
  obtain ⟨i0, hi, hz0, hz1, hz2⟩ := info_parts found_info
  obtain ⟨j0, hji, hy0, hy1, hy2⟩ := info_parts bal_info
  have e99 : ∀ args w, (callFunc 164 args).run Tryz.prog w = .ok (.enter 164 args) w := enters_of Tryz.func164 (by kernel_rfl) rfl
  clear hbk hq1 h1 h2 hp1 hp2
  go_enter Tryz.func163, Tryz.ntmps163
  go_wp2_with fail
  go_loopw [5, 17] (fun a i wr => ∃ (j c m : Nat) (A : Option Addr) (z : Wd w1), a = .slice A m c ∧ i = .int .i64 j ∧ wr = z.w ∧ j ≤ k.l.length ∧ m ≤ j ∧ m ≤ c ∧ c ≤ maxLen ∧ Hid (m = (takeB actor gen (k.l.take j)).length) ∧ Owns z.w w1.heap.size 234 9 (.slice A m c) m ((takeB actor gen (k.l.take j)).flatMap fbC)) (fun _ i _ => k.l.length - (intOf i).toNat)
  case atStart => exact ⟨0, 0, 0, none, x, rfl, rfl, rfl, Nat.zero_le _, Nat.zero_le _, Nat.zero_le _, Nat.zero_le _, Lib.hid rfl, Owns.nil_ _ _ _ _⟩
  case round =>
    obtain ⟨j, c, m, A, z, rfl, rfl, rfl, hj, hmj, hmc, hcm, hm, hown⟩ := hrel
    by_cases hlt : j < k.l.length
    · obtain ⟨b, o, eA, hb, hld⟩ := (hKy z).items.load j hlt
      have hio := fun y : Wd z.w => ((hKy z).items.each _ (List.getElem_mem hlt)).q y.q
      rw [eA]
      have hTz : ∀ y : Wd z.w, Tab y.w := fun y => hTy ⟨y.w, Q.trans z.q y.q⟩
      have hzs := z.q.size
      have HTS := Lib.hid (takeB_step actor gen k.l j hlt)
      generalize k.l[j] = it at *
      go_wp2_with (first | (refine wpList_load_run 50 (.tmp 19) (.pointer (some ⟨b, o + j * 49, none⟩)) (.agg (itA it)) ?_ ?_ ?_ ?_ ?_; rfl; rfl; rfl; exact hld ⟨_, Q.refl _⟩) | (refine wpList_store_blk (Blk.new z.w 50 item0.cells.toArray) rfl 50 (.tmp 7) (.tmp 20) it.cells rfl rfl rfl (by kernel_rfl) (it_all _) (Nat.le_refl 49) ?_))
      intro W hW hbel
      rw [splice_all _ _ (by rfl)] at hW
      have hqz : Q z.w W := hbel _ _ (Nat.le_refl _) (q_new _ _ _)
      have hq3 : Q w1 W := Q.trans z.q hqz
      have hLi : ∀ y : Wd W, (Instr.loadAt 50 (.pointer (some ⟨z.w.heap.size, 0, none⟩))).run Tryz.prog y.w = .ok (.agg (itA it)) y.w := Wd.load hW.lt (Blk.range hW) Tryz.underlying50 rfl (by kernel_rfl)
      have hcl : ∀ y : Wd W, Calls Tryz.prog 164 #[.agg (itA it), .pointer (some ⟨p1, 0, none⟩), .pointer (some ⟨p2, 0, none⟩)] y.w fun e w' => e = .returned (.tuple #[.agg (ballotA it.ballot), .int .i64 0, .bool (wantB actor gen it)]) ∧ Q y.w w' := fun y => wantB_any p1 p2 actor gen it y.w (hW1 ⟨y.w, Q.trans hq3 y.q⟩) (hP1 ⟨y.w, Q.trans hq3 y.q⟩) (hW2 ⟨y.w, Q.trans hq3 y.q⟩) (hP2 ⟨y.w, Q.trans hq3 y.q⟩)
      have hWs := hq3.size
      obtain ⟨v, hv⟩ := Wd.first W
      rw [hv]
      clear hbel hld hv eA hb cI hW1 hW2 hP1 hP2
      generalize hwt : wantB actor gen it = wt at *
      go_wp2_with (first | (refine wpList_load_run 50 (.tmp 7) (.pointer (some ⟨z.w.heap.size, 0, none⟩)) (.agg (itA it)) ?_ ?_ ?_ ?_ ?_; rfl; rfl; rfl; exact hLi _) | (go_at_fn 164; refine (hcl _).mono ?_; rintro e w' ⟨rfl, hq2⟩; obtain ⟨y, rfl⟩ := Wd.next _ hq2; clear hq2) | (refine wpList_store_blk (Blk.new y.w 46 ballot0.cells.toArray) rfl 46 (.tmp 8) (.tmp 25) it.ballot.cells rfl rfl rfl (by kernel_rfl) (ballot_all _) (Nat.le_refl 7) ?_))
      intro W2 hB2 hbel2
      rw [splice_all _ _ (by rfl)] at hB2
      have hqy : Q W W2 := hbel2 _ _ y.q.size (Q.trans y.q (q_new _ _ _))
      have hq4 : Q w1 W2 := Q.trans hq3 hqy
      have hLi2 : ∀ y : Wd W2, (Instr.loadAt 50 (.pointer (some ⟨z.w.heap.size, 0, none⟩))).run Tryz.prog y.w = .ok (.agg (itA it)) y.w := fun y => hLi ⟨y.w, Q.trans hqy y.q⟩
      have hLb2 : ∀ u : Wd W2, (Instr.loadAt 46 (.pointer (some ⟨y.w.heap.size, 0, none⟩))).run Tryz.prog u.w = .ok (.agg (ballotA it.ballot)) u.w := Wd.load hB2.lt (Blk.range hB2) Tryz.underlying46 rfl (by kernel_rfl)
      have hIi : ∀ u : Wd W2, ItemIn u.w it := fun u => hio ⟨u.w, Q.trans (Q.trans hqz hqy) u.q⟩
      have hdg2 : ∀ u : Wd W2, Calls Tryz.prog 25 #[.agg (itA it)] u.w fun e w' => e = .returned (.string (digOf it)) ∧ Q u.w w' := fun u => digest_any it u.w (hTz ⟨u.w, Q.trans (Q.trans hqz hqy) u.q⟩) (hIi u)
      have hownW : ∀ u : Wd W2, Owns u.w w1.heap.size 234 9 (.slice A m c) m ((takeB actor gen (k.l.take j)).flatMap fbC) := fun u => hown.q (Q.trans (Q.trans hqz hqy) u.q)
      have hrg : ∀ (r : Bool), itemRight it = r → ∀ u : Wd W2, Calls Tryz.prog 12 #[.agg (itA it)] u.w fun e w' => e = .returned (.bool r) ∧ Q u.w w' := fun r hr u => right_at it r u.w (hIi u) hr
      have HQ4 := Lib.hid hq4
      have hWs2 := hq4.size
      obtain ⟨u, hu⟩ := Wd.first W2
      rw [hu]
      clear hbel2 hu hqy hq4 hq3 hqz hLi hcl hio hTz hown hTy hW hB2
      cases wt
      · have HTE := Lib.hid (show takeB actor gen (k.l.take (j + 1)) = takeB actor gen (k.l.take j) by rw [HTS.out]; simp)
        go_wp2_with fail
        exact ⟨⟨j + 1, c, m, A, ⟨u.w, Q.trans HQ4.out u.q⟩, rfl, by go_num, rfl, by omega, by omega, hmc, hcm, Lib.hid (by rw [HTE.out]; exact hm.out), by rw [HTE.out]; exact hownW u⟩, by simp only [intOf]; omega⟩
      · cases hr : itemRight it
        · have HTE := Lib.hid (show takeB actor gen (k.l.take (j + 1)) = takeB actor gen (k.l.take j) by rw [HTS.out, hr]; simp)
          have hrg0 := hrg false hr
          clear hrg hr
          go_wp2_with (first | (refine wpList_load_run 50 (.tmp 7) (.pointer (some ⟨z.w.heap.size, 0, none⟩)) (.agg (itA it)) ?_ ?_ ?_ ?_ ?_; rfl; rfl; rfl; exact hLi2 _) | (go_at_call 12; refine (hrg0 _).mono ?_; rintro e w' ⟨rfl, hq2⟩; obtain ⟨t, rfl⟩ := Wd.next _ hq2; clear hq2))
          exact ⟨⟨j + 1, c, m, A, ⟨t.w, Q.trans HQ4.out t.q⟩, rfl, by go_num, rfl, by omega, by omega, hmc, hcm, Lib.hid (by rw [HTE.out]; exact hm.out), by rw [HTE.out]; exact hownW t⟩, by simp only [intOf]; omega⟩
        · have HTE := Lib.hid (show takeB actor gen (k.l.take (j + 1)) = takeB actor gen (k.l.take j) ++ [foundB it] by rw [HTS.out, hr]; simp)
          have hrg0 := hrg true hr
          clear hrg hr
          go_wp2_with (first | (refine wpList_load_run 50 (.tmp 7) (.pointer (some ⟨z.w.heap.size, 0, none⟩)) (.agg (itA it)) ?_ ?_ ?_ ?_ ?_; rfl; rfl; rfl; exact hLi2 _) | (go_at_call 12; refine (hrg0 _).mono ?_; rintro e w' ⟨rfl, hq2⟩; obtain ⟨t, rfl⟩ := Wd.next _ hq2; clear hq2))
          refine wp_region_wd_parts t 2 6 (by kernel_rfl) (by kernel_rfl) (by intro c d v a w h; cases d <;> exact h) ?_
          simp only [List.take_succ_cons, List.take_zero, List.drop_succ_cons, List.drop_zero]
          refine wpPure_move (.tmp 5) (.slice A m c) rfl rfl rfl ?_
          dsimp only [Act.put]
          simp only [List.setIfInBounds_toArray, List.set_cons_succ, List.set_cons_zero]
          refine wpPure_move (.tmp 9) (.int .i64 0) rfl rfl rfl ?_
          dsimp only [Act.put]
          simp only [List.setIfInBounds_toArray, List.set_cons_succ, List.set_cons_zero]
          refine wpPure_nil ?_
          refine wpQuiet_load_run 50 (.tmp 7) (.pointer (some ⟨z.w.heap.size, 0, none⟩)) (.agg (itA it)) rfl rfl rfl hLi2 ?_
          dsimp only [Act.put]
          simp only [List.setIfInBounds_toArray, List.set_cons_succ, List.set_cons_zero]
          go_big_quiet_step (first | (go_at_call 25; exact Wd.call _ (hdg2 _)))
          refine wpQuiet_load_run 46 (.tmp 8) (.pointer (some ⟨y.w.heap.size, 0, none⟩)) (.agg (ballotA it.ballot)) rfl rfl rfl hLb2 ?_
          dsimp only [Act.put]
          simp only [List.setIfInBounds_toArray, List.set_cons_succ, List.set_cons_zero]
          refine wpQuiet_build_run 234 _ #[(0, .int .i64 0), (1, .string (digOf it)), (2, .agg (ballotA it.ballot))] _ rfl rfl (by simp only [List.map_toArray, List.map_cons, List.map_nil]; rfl) (build_found (digOf it) it.ballot) ?_
          dsimp only [Act.put]
          simp only [List.setIfInBounds_toArray, List.set_cons_succ, List.set_cons_zero]
          refine wpQuiet_nil ?_
          rintro w6 ⟨t2, rfl⟩
          refine wpList_buildSlice_run 231 1 _ #[(0, .agg (fbC (foundB it)).toArray)] _ rfl rfl (by simp only [List.map_toArray, List.map_cons, List.map_nil]; rfl) (bs_found (foundB it) _) ?_
          dsimp only [Act.put]
          simp only [List.setIfInBounds_toArray, List.set_cons_succ, List.set_cons_zero]
          refine wpList_append_rows fb_len fb_one rfl (.tmp 33) (.tmp 39) 231 234 i0 _ 96 rfl Tryz.underlying231 hi hz0 hz1 hz2 rfl (by decide) (by decide) w1.heap.size (.slice A m c) m (takeB actor gen (k.l.take j)) rfl ((hownW t2).alloc (.cells (fbC (foundB it)).toArray 234)) (some ⟨t2.w.heap.size, 0, none⟩) 1 1 [foundB it] rfl (RowsAt.one t2.w 234 (foundB it) _ rfl) rfl (by omega) (by have := t2.q.size; simp; omega) ?_
          intro A5 c5 w5 hc5 hm5 hown5 hg5
          have hq5 : Q w1 w5 := q_grown (Q.trans (Q.trans HQ4.out t2.q) (q_new _ _ _)) (Nat.le_refl _) ((hownW t2).alloc _) hg5
          obtain ⟨y5, rfl⟩ : ∃ y5 : Wd w1, w5 = y5.w := ⟨⟨w5, hq5⟩, rfl⟩
          rw [← HTE.out] at hown5
          have HM5 : Hid (m + 1 = (takeB actor gen (k.l.take (j + 1))).length) := Lib.hid (by rw [HTE.out, List.length_append, ← hm.out]; rfl)
          clear hownW hg5 hq5 hdg2 hLi2 hLb2 hIi hrg0
          go_wp2_with fail
          exact ⟨⟨j + 1, c5, m + 1, A5, y5, rfl, by go_num, rfl, by omega, by omega, hc5, hm5, HM5, hown5⟩, by simp only [intOf]; omega⟩
    · have hjn : j = k.l.length := by omega
      have hm := hm.out
      rw [hjn, List.take_length] at hown hm
      have hm20 : m ≤ 20 := by omega
      have hso := sorted_any A c m w1.heap.size (takeB actor gen k.l) z.w hm hm20 hown z.q.size
      have hlen : (sortB (takeB actor gen k.l)).length = m := by rw [sortB_length]; exact hm.symm
      have HB := Lib.hid (show ballotsK actor gen k.l = (sortB (takeB actor gen k.l)).map (·.val) from rfl)
      have HZ := Lib.hid z.q
      generalize sortB (takeB actor gen k.l) = L at hso hlen HB
      clear hown hm hjn cI hW1 hW2 hP1 hP2 hKy hTy
      go_wp2_with (first | (go_at_call 212; refine hso.mono ?_; rintro e w6 ⟨rfl, hR6, hb6⟩; have HQ6 := Lib.hid (Below.trans HZ.out hb6); clear hb6 hso; obtain ⟨y6, hy6⟩ := Wd.first w6; rw [hy6]; clear hy6) | (refine wpList_make_own _ rfl _ _ 149 rfl w6.heap.size 46 j0 _ 7 Tryz.underlying149 hji hy0 hy1 .i64 .i64 (m : Int) m rfl rfl rfl (by rw [hy2]; omega) (by simp only [maxLen]; omega) y6.q.size ?_))
      intro w7 hown0 hg0
      have hown : Owns w7 w6.heap.size 46 7 (.slice (some ⟨y6.w.heap.size, 0, none⟩) 0 m) 0 (([] : List BallotV).flatMap BallotV.cells) := Owns.of hown0
      have hq7 : Q w6 w7 := Below.grown y6.q hg0 y6.q.size (fun _ h => by cases h)
      obtain ⟨y7, rfl⟩ : ∃ y7 : Wd w6, w7 = y7.w := ⟨⟨w7, hq7⟩, rfl⟩
      have hRy : ∀ y : Wd w6, RowsAt y.w A 9 fbC L := fun y => hR6.q y.q
      clear hown0 hg0 hq7 hR6
      go_wp2_with fail
      go_loopw [11, 49] (fun a i wr => ∃ (j c : Nat) (A : Option Addr) (z : Wd w6), a = .slice A j c ∧ i = .int .i64 j ∧ wr = z.w ∧ j ≤ m ∧ j ≤ c ∧ c ≤ maxLen ∧ Owns z.w w6.heap.size 46 7 (.slice A j c) j (((L.take j).map (·.val)).flatMap BallotV.cells)) (fun _ i _ => m - (intOf i).toNat)
      case atStart => exact ⟨0, m, _, y7, rfl, rfl, rfl, Nat.zero_le _, Nat.zero_le _, by simp only [maxLen]; omega, hown⟩
      case round =>
        clear hown
        obtain ⟨j2, c2, A2, z2, rfl, rfl, rfl, hj2, hjc2, hcm2, hown⟩ := hrel
        by_cases hlt2 : j2 < m
        · obtain ⟨b, o, eA, hb, hcs⟩ := hRy z2 (by omega)
          have hld : ∀ y : Wd z2.w, (Instr.loadAt 234 (.pointer (some ⟨b, o + j2 * 9, none⟩))).run Tryz.prog y.w = .ok (.agg (fbC (L[j2]'(by omega))).toArray) y.w := Wd.load hb (hcs j2 (by omega)) Tryz.underlying234 rfl (by kernel_rfl)
          have HLS := Lib.hid (show (L.take (j2 + 1)).map (·.val) = (L.take j2).map (·.val) ++ [(L[j2]'(by omega)).val] by rw [List.take_succ_eq_append_getElem (by omega), List.map_append]; rfl)
          rw [eA]
          have hzs2 := z2.q.size
          clear hcs
          generalize L[j2]'(by omega) = e2 at *
          have hbf := Blk.new z2.w 234 (fbC default).toArray
          go_wp2_with (first | (refine wpList_load_run 234 (.tmp 51) (.pointer (some ⟨b, o + j2 * 9, none⟩)) (.agg (fbC e2).toArray) ?_ ?_ ?_ ?_ ?_; rfl; rfl; rfl; exact hld ⟨_, Q.trans (Q.refl _) (Q.refl _)⟩) | (refine wpList_store_blk hbf rfl 234 (.tmp 13) (.tmp 52) (fbC e2) rfl rfl rfl (by kernel_rfl) (fb_all _) (Nat.le_refl 9) ?_))
          intro W hW hbel
          rw [splice_all _ _ (by rfl)] at hW
          have hqz : Q z2.w W := hbel _ _ (Nat.le_refl _) (q_new _ _ _)
          have hq3 : Q w6 W := Q.trans z2.q hqz
          have hrv : W.rangeAt z2.w.heap.size 2 e2.val.cells := by
            have := range_sub (Blk.range hW) 2 7
            rw [Nat.zero_add] at this
            exact this
          have hLv : ∀ y : Wd W, (Instr.loadAt 46 (.pointer (some ⟨z2.w.heap.size, 2, none⟩))).run Tryz.prog y.w = .ok (.agg (ballotA e2.val)) y.w := Wd.load hW.lt hrv Tryz.underlying46 rfl (by kernel_rfl)
          have hownW : ∀ y : Wd W, Owns y.w w6.heap.size 46 7 (.slice A2 j2 c2) j2 (((L.take j2).map (·.val)).flatMap BallotV.cells) := fun y => hown.q (Q.trans hqz y.q)
          have HQ3 := Lib.hid hq3
          have hWs := hq3.size
          obtain ⟨v, hv⟩ := Wd.first W
          rw [hv]
          clear hW hbel hld hv hqz hq3 hown hrv hbf
          go_wp2_with (first | (refine wpList_load_run 46 (.tmp 54) (.pointer (some ⟨z2.w.heap.size, 2, none⟩)) (.agg (ballotA e2.val)) ?_ ?_ ?_ ?_ ?_; rfl; rfl; rfl; exact hLv _) | (refine wpList_buildSlice_run 149 1 _ #[(0, .agg (ballotA e2.val))] _ rfl rfl (by simp only [List.map_toArray, List.map_cons, List.map_nil]; rfl) (bs_ballot e2.val _) ?_) | (at_builtin; refine wpList_append_rows bal_len bal_one rfl (.tmp 53) (.tmp 56) 149 46 j0 _ 72 rfl Tryz.underlying149 hji hy0 hy1 hy2 rfl (by decide) (by decide) w6.heap.size (.slice A2 j2 c2) j2 ((L.take j2).map (·.val)) rfl ((hownW v).alloc (.cells (ballotA e2.val) 46)) (some ⟨v.w.heap.size, 0, none⟩) 1 1 [e2.val] rfl (RowsAt.one v.w 46 e2.val _ rfl) rfl (by omega) (by have := v.q.size; simp; omega) ?_))
          intro A5 c5 w5 hc5 hm5 hown5 hg5
          have hq5 : Q w6 w5 := q_grown (Q.trans (Q.trans HQ3.out v.q) (q_new _ _ _)) (Nat.le_refl _) ((hownW v).alloc _) hg5
          obtain ⟨y5, rfl⟩ : ∃ y5 : Wd w6, w5 = y5.w := ⟨⟨w5, hq5⟩, rfl⟩
          have e5 : List.flatMap BallotV.cells (List.take j2 (List.map (fun x => x.val) L)) ++ e2.val.cells = ((L.take (j2 + 1)).map (·.val)).flatMap BallotV.cells := by
            rw [HLS.out, List.flatMap_append, List.map_take]
            simp
          rw [e5] at hown5
          clear hownW hg5 hq5 hLv e5
          go_wp2_with fail
          exact ⟨⟨j2 + 1, c5, A5, y5, rfl, by go_num, rfl, by omega, hc5, hm5, hown5⟩, by simp only [intOf]; omega⟩
        · have hjn : j2 = m := by omega
          have hall : L.take j2 = L := List.take_of_length_le (by omega)
          rw [hall, ← HB.out] at hown
          have hl : (ballotsK actor gen k.l).length = j2 := by rw [HB.out, List.length_map, hlen, hjn]
          have hfin : BallotsAre (ballotsK actor gen k.l) w (.returned (.slice A2 j2 c2)) z2.w := ⟨A2, c2, by rw [hl], by omega, hcm2, Owns.rows bal_len hown hl.symm, Q.trans HQ.out (Below.trans HQ6.out (Below.mono z2.q (by have := HQ6.out.size; omega)))⟩
          have HF := Lib.hid hfin
          clear hfin hl hall hown
          go_wp2_with fail
          go_ret
          exact HF.out
end Go.Proofs.YtflgkplneekpfaaGreatDoor.Known

namespace Go.Proofs.YtflgkplneekpfaaGreatDoor.Known
open Go.RowKit Grp Mem _root_.Go.Proofs.YtflgkplneekpfaaGreatDoor.Code Sha Sign _root_.Go.Proofs.YtflgkplneekpfaaGreatDoor.Item

set_option maxRecDepth 100000 in
set_option maxHeartbeats 2000000 in
theorem ballots_any (k : KR) (actor : ByteArray) (gen : Int) (w : World) (hT : Tab w) (hK : KIn w k) (hn : k.l.length ≤ 20) :
    Calls Tryz.prog 102 #[.agg (knA k), .string actor, .int .i64 gen] w (BallotsAre (ballotsK actor gen k.l) w) := by
  have b1 := Blk.new w 31 (knA k)
  have q1 := q_new w (knA k) 31
  have b2 := Blk.new' (g := w.heap.size + 1) (w.alloc (.cells (knA k) 31)) 9 #[.string actor] (by simp)
  have q2 := q_new (w.alloc (.cells (knA k) 31)) #[.string actor] 9
  have b3 := Blk.new' (g := w.heap.size + 1 + 1) ((w.alloc (.cells (knA k) 31)).alloc (.cells #[.string actor] 9)) 3 #[.int .i64 gen] (by simp)
  have q3 := q_new ((w.alloc (.cells (knA k) 31)).alloc (.cells #[.string actor] 9)) #[.int .i64 gen] 3
  have b1 := (b1.q q2).q q3
  have b2 := b2.q q3
  have hq := Q.trans (Q.trans q1 q2) q3
  obtain ⟨w3, hw3⟩ : ∃ w3, w3 = ((w.alloc (.cells (knA k) 31)).alloc (.cells #[.string actor] 9)).alloc (.cells #[.int .i64 gen] 3) := ⟨_, rfl⟩
  rw [← hw3] at b1 b2 b3 hq
  have hLk := Wd.load (P := Tryz.prog) (ty := 31) b1.lt (Blk.range b1) Tryz.underlying31 rfl (by kernel_rfl) ⟨w3, Q.refl w3⟩
  have hp := pickB_any k (w.heap.size + 1) (w.heap.size + 1 + 1) actor gen w3 (hT.q hq) (hK.q hq) (b2.cell 0) b2.lt (b3.cell 0) b3.lt hn
  have HX := Lib.hid hw3
  have HQ := Lib.hid hq
  clear q1 q2 q3 b1 b2 b3 hq hw3
  go_enter Tryz.func102, Tryz.ntmps102
  go_upto_region 1 with (fail)
  refine (show Code.wp _ _ _ _ w3 → Code.wp _ _ _ _ _ from fun h => by rw [HX.out] at h; exact h) ?_
  go_wp2_with (first | (refine wpList_load_run 31 (.tmp 3) (.pointer (some ⟨w.heap.size, 0, none⟩)) (.agg (knA k)) ?_ ?_ ?_ ?_ ?_; rfl; rfl; rfl; exact hLk) | (go_at_call 163; refine hp.mono ?_; rintro e w' ⟨A, c, rfl, h1, h2, h3, hq4⟩))
  go_ret
  exact ⟨A, c, rfl, h1, h2, h3, Q.trans HQ.out hq4⟩
end Go.Proofs.YtflgkplneekpfaaGreatDoor.Known

namespace Go.Proofs.YtflgkplneekpfaaGreatDoor.Sign
open Go.RowKit Grp Mem _root_.Go.Proofs.YtflgkplneekpfaaGreatDoor.Code Sha

theorem keyOf_right (x : Int) (h0 : 1 ≤ x) (h1 : x ≤ 2305843009213693949) : keyOf x = (x, gexp 37 x) := by
  unfold keyOf
  rw [if_neg (by omega)]
theorem rightI_of (x : Int) (h0 : 1 ≤ x) (h1 : x ≤ 2305843009213693949) : rightI (x, gexp 37 x) = true := by
  unfold rightI
  dsimp only
  rw [keyOf_right x h0 h1]
  simp [h0]
/-- The commitment of a signature that was made with u. -/
theorem comm_of (x u e : Int) (hx0 : 1 ≤ x) (hx1 : x ≤ 2305843009213693949) (hu0 : 0 ≤ u) (hu1 : u ≤ 9223372036854775807) (he0 : 0 ≤ e) (he1 : e < 2305843009213693950) :
    commI (gexp 37 x) (e, gaddN u (gmulN e x)) = gexp 37 u := by
  have hn : (37 : Int) % 2305843009213693951 ≠ 0 := by decide
  unfold commI gmul
  dsimp only
  have hs : 0 ≤ gaddN u (gmulN e x) ∧ gaddN u (gmulN e x) < 2305843009213693950 := emod_bd _ (by decide)
  rw [gexp_gexp 37 x (2305843009213693950 - e) (by omega) (by omega) hn]
  have hb := emod_bd (x * (2305843009213693950 - e)) (show (0:Int) < 2305843009213693950 by decide)
  rw [gexp_add 37 _ _ (by omega) (by omega) hn]
  refine gexp_mod 37 _ _ ?_ (by omega) hn ?_
  · have := emod_bd (gaddN u (gmulN e x) + x * (2305843009213693950 - e) % 2305843009213693950) (show (0:Int) < 2305843009213693950 by decide)
    omega
  · unfold gaddN gmulN
    rw [Int.mul_sub, Int.mul_comm x 2305843009213693950, Int.mul_comm x e]
    generalize e * x = t
    omega
theorem chalI_bd (r y : Int) (m : ByteArray) : 0 ≤ chalI r y m ∧ chalI r y m < 2305843009213693950 := emod_bd _ (by decide)
theorem gpub (x : Int) (h : x ≤ 9223372036854775807) : 1 ≤ gexp 37 x ∧ gexp 37 x < 2305843009213693951 := by
  have h1 := gexp_bd 37 x
  have h2 := gexp_ne 37 x h (by decide)
  omega
theorem sig_of (x : Int) (m : ByteArray) (h0 : 1 ≤ x) (h1 : x ≤ 2305843009213693949) : sigOf (x, gexp 37 x) m = (sigE x (gexp 37 x) m, sigS x (gexp 37 x) m) := by
  unfold sigOf
  rw [rightI_of x h0 h1, if_pos rfl]
theorem in_of {n : Int} (h : 0 ≤ n ∧ n < 2305843009213693950) : inI n = true := by
  unfold inI
  simp [h.1, h.2]
theorem range_of {p : Int} {s : Int × Int} (hp : 1 ≤ p ∧ p < 2305843009213693951) (h1 : 0 ≤ s.1 ∧ s.1 < 2305843009213693950) (h2 : 0 ≤ s.2 ∧ s.2 < 2305843009213693950) : rangeI p s = true := by
  unfold rangeI
  rw [in_of h1, in_of h2]
  simp [hp.1, hp.2]
/-- What a right key signs is accepted. -/
theorem ver_of (x : Int) (m : ByteArray) (h0 : 1 ≤ x) (h1 : x ≤ 2305843009213693949) : verI (gexp 37 x) m (sigE x (gexp 37 x) m, sigS x (gexp 37 x) m) = true := by
  have hn : 1 ≤ nonceI x m ∧ nonceI x m ≤ 2305843009213693949 := redI_bd _
  have he : 0 ≤ sigE x (gexp 37 x) m ∧ sigE x (gexp 37 x) m < 2305843009213693950 := chalI_bd _ _ _
  have hs : 0 ≤ sigS x (gexp 37 x) m ∧ sigS x (gexp 37 x) m < 2305843009213693950 := emod_bd _ (by decide)
  unfold verI
  rw [range_of (gpub x (by omega)) he hs]
  have hc : commI (gexp 37 x) (sigE x (gexp 37 x) m, sigS x (gexp 37 x) m) = gexp 37 (nonceI x m) := comm_of x _ _ h0 h1 (by omega) (by omega) he.1 he.2
  rw [hc]
  unfold sigE
  simp
abbrev aT : ByteArray := ⟨#[97]⟩
set_option maxRecDepth 100000
theorem f1 : seedKey aT = 361080046605472372 := by decide +kernel
theorem f2 : keyOf 361080046605472372 = (361080046605472372, 2287805972299522828) := by decide +kernel
theorem fg : keyOf (seedKey aT) = (361080046605472372, 2287805972299522828) := by rw [f1, f2]
end Go.Proofs.YtflgkplneekpfaaGreatDoor.Sign

namespace Go.Proofs.YtflgkplneekpfaaGreatDoor.Known
open Go.RowKit Grp Mem _root_.Go.Proofs.YtflgkplneekpfaaGreatDoor.Code Sha Sign _root_.Go.Proofs.YtflgkplneekpfaaGreatDoor.Item

def smT : ByteArray := ⟨#[48, 48, 48, 48, 48, 48, 48, 48, 48, 48, 48, 48, 48, 48, 48, 49]⟩
abbrev smX : Int := 361080046605472372
abbrev smY : Int := 2287805972299522828
def smB : BallotV := ⟨0, smT, 0, sha emptyT, 0, 0, 0⟩
def smS : BallotV := signBallot (smX, smY) smB
def smI : ItemR := itBallot smS

theorem smY_eq : smY = gexp 37 smX := by
  have h := keyOf_right smX (by decide) (by decide)
  rw [f2] at h
  exact congrArg Prod.snd h
theorem sm_sig (m : ByteArray) : sigOf (smX, smY) m = (sigE smX smY m, sigS smX smY m) := by
  rw [smY_eq]
  exact sig_of smX m (by decide) (by decide)
theorem sm_ver (m : ByteArray) : verI smY m (sigOf (smX, smY) m) = true := by
  rw [sm_sig, smY_eq]
  exact ver_of smX m (by decide) (by decide)
theorem sm_small : SmallB smB := ⟨by decide, by show (sha emptyT).size ≤ 1000000; rw [sha_size]; decide, by intro n hn; simp [smB] at hn; omega⟩
theorem ord_of {n : Int} (h : 0 ≤ n ∧ n < 2305843009213693950) : inOrd n = true := by
  unfold inOrd withinB
  rw [decide_eq_true h.1, decide_eq_true (show n ≤ 2305843009213693949 by omega)]
  rfl
theorem smI_right : itemRight smI = true := by
  have he : inOrd smS.e = true := by
    show inOrd (sigOf (smX, smY) (messageB (itBallot smB))).1 = true
    rw [sm_sig]
    exact ord_of (chalI_bd _ _ _)
  have hs : inOrd smS.s = true := by
    show inOrd (sigOf (smX, smY) (messageB (itBallot smB))).2 = true
    rw [sm_sig]
    exact ord_of (emod_bd _ (by decide))
  have hd : digestB smS.claim = true := by
    show digestB (sha emptyT) = true
    unfold digestB
    rw [sha_size]
    rfl
  have hb : ballotRight smS = true := by
    unfold ballotRight
    rw [he, hs, hd]
    rfl
  show (ballotRight smS && (act0.same act0 && (claim0.same claim0 && dec0.same dec0))) = true
  rw [hb]
  decide
theorem sign_msg (k : Int × Int) (b : BallotV) : messageB (itBallot (signBallot k b)) = messageB (itBallot b) := rfl
theorem sign_sig (k : Int × Int) (b : BallotV) : sigV (itBallot (signBallot k b)) = sigOf k (messageB (itBallot b)) := rfl
theorem smI_signed : signedB [smY] smI = true := by
  unfold signedB
  rw [smI_right, Bool.true_and]
  show (if (2 : Int) = 2 then decide ((0 : Int) < ([smY].length : Int)) && verI ([smY].getD (0 : Int).toNat 0) (messageB smI) (sigV smI) else _) = true
  rw [if_pos rfl]
  show (true && verI smY (messageB smI) (sigV smI)) = true
  rw [Bool.true_and]
  have h1 : messageB smI = messageB (itBallot smB) := sign_msg _ _
  have h2 : sigV smI = sigOf (smX, smY) (messageB (itBallot smB)) := sign_sig _ _
  rw [h1, h2]
  exact sm_ver _
theorem sm_add : addOk [smY] [] smI = true := by
  unfold addOk
  rw [smI_signed]
  rfl
theorem sm_set : addK [smY] [] smI = [smI] := by
  unfold addK
  rw [sm_add]
  rfl
theorem hasD_self (x : ItemR) : hasD [x] (digOf x) = true := (hasD_iff _ _).2 (by unfold digs; rw [List.map_cons]; exact List.mem_cons_self ..)
theorem sm_hasD : hasD [smI] (digOf smI) = true := hasD_self smI
theorem sm_again : addOk [smY] [smI] smI = false := by
  unfold addOk
  rw [sm_hasD]
  simp
theorem sm_want : wantB smT 0 smI = true := rfl
theorem sort_one (x : Found BallotV) : sortB [x] = [x] := by
  unfold sortB sortA
  rcases insOuter_stop2 (ltOf cmpF) [x].toArray [x].toArray.size (by simp) with h | h
  · rw [h]
  · simp at h
theorem sm_ballots : ballotsK smT 0 [smI] = [smS] := by
  unfold ballotsK takeB
  rw [show List.filter (fun x => wantB smT 0 x && itemRight x) [smI] = [smI] by rw [List.filter_cons, sm_want, smI_right]; rfl]
  rw [List.map_cons, List.map_nil, sort_one]
  rfl
theorem sm_filled : Filled [smY] [smI] := by
  have := (Filled.nil [smY]).add smI
  rwa [sm_set] at this
theorem sm_right : rightK [smY] [smI] = true := sm_filled.right (by decide) (by decide)
theorem sm_size : (digOf smI).size = 32 := digOf_size smI_signed
theorem sm_has : hasE [smI] (digOf smI) = true := by
  unfold hasE
  rw [sm_hasD]
  simp [noneB, sm_size]
theorem sm_hasnt (l : List ItemR) : hasE l emptyT = false := rfl
theorem found_self (x : ItemR) (h : noneB (digOf x) = false) : foundIt [x] (digOf x) = x := by
  unfold foundIt findK
  rw [h]
  simp
theorem sm_find : foundIt [smI] (digOf smI) = smI := by
  exact found_self smI (by simp [noneB, sm_size])
theorem sm_dig : setDig [] [] = sha ⟨#[0, 0]⟩ := by
  unfold setDig
  congr 1
end Go.Proofs.YtflgkplneekpfaaGreatDoor.Known

namespace Go.Proofs.YtflgkplneekpfaaGreatDoor.Known
open Go.RowKit Grp Mem _root_.Go.Proofs.YtflgkplneekpfaaGreatDoor.Code Sha Sign _root_.Go.Proofs.YtflgkplneekpfaaGreatDoor.Item

set_option maxRecDepth 100000 in
set_option maxHeartbeats 1000000 in
theorem new_nil (w : World) : Calls Tryz.prog 36 #[.slice none 0 0] w fun e w' => e = .returned (.agg (knA known0)) ∧ Q w w' := by
  have hq0 := q_new w known0.cells.toArray 31
  have hb := Blk.new w 31 known0.cells.toArray
  obtain ⟨w1, hw1⟩ : ∃ w1, w1 = w.alloc (.cells known0.cells.toArray 31) := ⟨_, rfl⟩
  rw [← hw1] at hq0 hb
  go_enter Tryz.func36, Tryz.ntmps36
  go_wp2_with fail
  refine (show Calls _ _ _ w1 _ → Calls _ _ _ _ _ from fun h => by rw [hw1] at h; exact h) ?_
  refine (Tryz.slices_Clone_int_nil 0 0 w1).mono ?_
  rintro e w' ⟨rfl, hw'⟩
  rw [hw']
  clear hw1 hw'
  go_wp2_with (refine wpList_store_far hb rfl 31 (.tmp 2) (.tmp 5) known0.cells rfl rfl rfl (by kernel_rfl) (kn_all _) (Nat.le_refl 2) ?_)
  intro W hW hbel hfar
  rw [splice_all _ _ (by rfl)] at hW
  have hqW : Q w W := hbel _ _ (Nat.le_refl _) hq0
  clear hfar hbel
  go_wp2_with fail
  exact bodyPost_ret (results_cell_row rfl _ _ w.heap.size 31 (knA known0) (0, 0) _ rfl hW Tryz.underlying31 rfl (by kernel_rfl)) rfl ⟨rfl, hqW⟩

end Go.Proofs.YtflgkplneekpfaaGreatDoor.Known

namespace Go.Proofs.YtflgkplneekpfaaGreatDoor.Known
open Go.RowKit Grp Mem _root_.Go.Proofs.YtflgkplneekpfaaGreatDoor.Code Sha Sign _root_.Go.Proofs.YtflgkplneekpfaaGreatDoor.Item

theorem alloc_item (w : World) : (Instr.alloc 50 true (.tuple #[])).run Tryz.prog w = .ok (.pointer (some ⟨w.heap.size, 0, none⟩)) (w.alloc (.cells (itA item0) 50)) := by kernel_rfl
theorem alloc_known (w : World) : (Instr.alloc 31 true (.tuple #[])).run Tryz.prog w = .ok (.pointer (some ⟨w.heap.size, 0, none⟩)) (w.alloc (.cells (knA known0) 31)) := by kernel_rfl
theorem ints_one (w : World) (n : Int) : Ints (w.alloc (.cells #[.int .i64 n] 3)) (some ⟨w.heap.size, 0, none⟩) [n] := ints_of (RowsAt.one (k := 1) (f := fun n : Int => [Value.int .i64 n]) w 3 n _ rfl)

end Go.Proofs.YtflgkplneekpfaaGreatDoor.Known
