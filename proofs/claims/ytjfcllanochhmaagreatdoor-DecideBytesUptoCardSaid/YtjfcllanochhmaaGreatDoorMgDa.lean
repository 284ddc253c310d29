/-
  What pick lays down, and how it is sorted: cmp.Or, cmp.Compare at strings, pick's comparison at ballots. The stable sort of fewer than twenty ballots, as pick calls it. What known.Ballots wants of an item: its closure. known.pick at ballots: what is wanted of the items, sorted. known.Ballots. What a right key signs is accepted; the key of the seed "a". No walk in this text. The small example of the laws about known sets, as plain data: a signed ballot in a set of its own. No walk in this text. What the walk of the laws' small example asks of the program's functions. The walk of agoralaw14.small.
  item.OfDecision (out of Parts).
  known.pick at decisions.
  Decisions as plain data: the same decision at another place, a signed one, the valid ones of a list. No walk in this text.
  item.SignDecision.
  The law's helpers of layer 35: key, publics, pick.
  The law's helper of layer 35: signed.
-/
import Derived.Test.YtjfcllanochhmaaGreatDoorIdent2
import Derived.Test.YtjfcllanochhmaaGreatDoorBld2
import Derived.Test.YtjfcllanochhmaaGreatDoorShelfSort
import Derived.Deep.Cut
import Derived.Test.YtjfcllanochhmaaGreatDoorIt
import Derived.Test.YtjfcllanochhmaaGreatDoorItemZ
import Derived.Test.YtjfcllanochhmaaGreatDoorItemD
import Derived.Test.YtjfcllanochhmaaGreatDoorKn
import Derived.Test.YtjfcllanochhmaaGreatDoorSignWalk
import Derived.Test.YtjfcllanochhmaaGreatDoorOpenItem
import Derived.Lib.SliceRun
set_option linter.unusedVariables false
set_option linter.unusedSimpArgs false
namespace Go.Proofs.YtjfcllanochhmaaGreatDoor.Known
open Go.RowKit Grp Mem _root_.Go.Proofs.YtjfcllanochhmaaGreatDoor.Code Sha Sign _root_.Go.Proofs.YtjfcllanochhmaaGreatDoor.Item

/-- What pick lays down of a statement. -/
structure Found (α : Type) where
  rank : Int
  dig : ByteArray
  val : α
instance {α : Type} [Inhabited α] : Inhabited (Found α) := ⟨⟨0, emptyT, default⟩⟩
instance : Inhabited BallotV := ⟨ballot0⟩
def Found.cells {α : Type} (c : α → List Value) (x : Found α) : List Value := .int .i64 x.rank :: .string x.dig :: c x.val
abbrev fbC : Found BallotV → List Value := Found.cells BallotV.cells
theorem fb_len (x : Found BallotV) : (fbC x).length = 9 := rfl
theorem fb_one (x : Found BallotV) : ∀ v ∈ fbC x, v.oneCell' = true := by
  intro v hv
  simp only [fbC, Found.cells, BallotV.cells, List.mem_cons, List.not_mem_nil, or_false] at hv
  rcases hv with rfl | rfl | rfl | rfl | rfl | rfl | rfl | rfl | rfl <;> rfl
def cmpS (a b : ByteArray) : Int := if lessB a b then -1 else if lessB b a then 1 else 0
def orI (x y : Int) : Int := if x = 0 then y else x
def cmpF {α : Type} (x y : Found α) : Int := orI (Lib.compareInt x.rank y.rank) (cmpS x.dig y.dig)

theorem isNaNs_any (s : ByteArray) (w : World) : Calls Tryz.prog 160 #[.string s] w fun e w' => e = .returned (.bool false) ∧ w' = w := by
  go_enter Tryz.func160, Tryz.ntmps160
  go_wp2_with fail
  all_goals (go_ret; exact ⟨by simp, rfl⟩)

set_option maxHeartbeats 1000000 in
theorem compareS_any (a b : ByteArray) (w : World) : Calls Tryz.prog 116 #[.string a, .string b] w fun e w' => e = .returned (.int .i64 (cmpS a b)) ∧ w' = w := by
  have hle := leqB_eq a b
  have HR : Hid (cmpS a b = if lessB a b then -1 else if lessB b a then 1 else 0) := Lib.hid rfl
  have h3 := lessB_asymm (a := a) (b := b)
  cases h1 : lessB a b
  all_goals cases h2 : lessB b a
  all_goals
    rw [h1, h2] at HR
    have hls : Op.bytesLess a.toList b.toList = _ := h1
    rw [h2] at hle
  case true.true => rw [h3 h1] at h2; cases h2
  all_goals
    clear h1 h2 h3
    generalize cmpS a b = r at HR ⊢
    go_enter Tryz.func116, Tryz.ntmps116
    go_wp2_with (go_at_call 160; refine (isNaNs_any _ _).mono ?_; rintro e w' ⟨rfl, hw⟩; rw [hw])
    all_goals first
      | (go_ret; exact ⟨by rw [HR.out]; rfl, rfl⟩)
      | (simp_all)

theorem or_any (b o c : Nat) (x y : Int) (w : World) (h0 : w.cell? ⟨b, o, none⟩ = some (.int .i64 x)) (h1 : w.cell? ⟨b, o + 1, none⟩ = some (.int .i64 y)) : Calls Tryz.prog 114 #[.slice (some ⟨b, o, none⟩) 2 c] w fun e w' => e = .returned (.int .i64 (orI x y)) ∧ w' = w := by
  have h0' : w.cell? ⟨b, o + 0, none⟩ = some (.int .i64 x) := h0
  have HR : Hid (orI x y = if x = 0 then y else x) := Lib.hid rfl
  generalize orI x y = r at HR ⊢
  by_cases hx : x = 0
  · rw [if_pos hx] at HR
    by_cases hy : y = 0
    · go_enter Tryz.func114, Tryz.ntmps114
      go_wp2_with fail
      refine wp_loop_rounds 3 ?_
      rw [rounds_succ]
      go_wp2_with fail
      rw [rounds_succ]
      go_wp2_with fail
      rw [rounds_succ]
      go_wp2_with fail
      go_ret
      exact ⟨by rw [HR.out, hy]; rfl, rfl⟩
    · go_enter Tryz.func114, Tryz.ntmps114
      go_wp2_with fail
      refine wp_loop_rounds 2 ?_
      rw [rounds_succ]
      go_wp2_with fail
      rw [rounds_succ]
      go_wp2_with fail
      go_ret
      exact ⟨by rw [HR.out]; rfl, rfl⟩
  · rw [if_neg hx] at HR
    go_enter Tryz.func114, Tryz.ntmps114
    go_wp2_with fail
    refine wp_loop_rounds 1 ?_
    rw [rounds_succ]
    go_wp2_with fail
    go_ret
    exact ⟨by rw [HR.out]; rfl, rfl⟩

theorem grow3 (W : World) (n : Nat) (a b c : Obj) : (((W.alloc a).alloc b).drewN n).alloc c = Go.Sort.grow (W.drewN n) #[a, b, c] := by
  rw [Go.Sort.alloc_eq_grow, Go.Sort.alloc_eq_grow, Go.Sort.alloc_eq_grow]
  show Go.Sort.grow (Go.Sort.grow (Go.Sort.grow (W.drewN n) #[a]) #[b]) #[c] = _
  rw [Go.Sort.grow_grow, Go.Sort.grow_grow]
  rfl
end Go.Proofs.YtjfcllanochhmaaGreatDoor.Known

namespace Go.Proofs.YtjfcllanochhmaaGreatDoor.Known
open Go.RowKit Grp Mem _root_.Go.Proofs.YtjfcllanochhmaaGreatDoor.Code Sha Sign _root_.Go.Proofs.YtjfcllanochhmaaGreatDoor.Item

/-! ### Rows as the shelf's sort knows them -/
theorem holds_of {α : Type} [Inhabited α] {f : α → List Value} {k g n cap : Nat} {w : World} {base : Nat} {e : TypeId} {l : List α} (hk : ∀ x, (f x).length = k) (h : Owns w base e k (.slice (some ⟨g, 0, none⟩) n cap) n (l.flatMap f)) (hn : n = l.length) (h0 : 0 < n) : Go.Sort.HoldsK f k w g 0 l.toArray ∧ base ≤ g ∧ g < w.heap.size := by
  subst hn
  rcases h.2 with ⟨e1, h1⟩ | ⟨g', cap', cur, fz, hv, hb, hg, hlo, hnc, hcm, hcs, htk⟩
  · omega
  · injection hv with hA _ _
    injection hA with hA
    injection hA with hA
    subst hA
    refine ⟨fun t ht => ?_, hb, (Array.getElem?_eq_some_iff.1 hg).1⟩
    rw [Go.Sort.size_flatK, List.size_toArray] at ht
    have hk0 : 0 < k := by
      rcases Nat.eq_zero_or_pos k with h2 | h2
      · subst h2; simp at ht
      · exact h2
    have h1 : t / k < l.length := Nat.div_lt_of_lt_mul (by rwa [Nat.mul_comm] at ht)
    have h2 := Nat.mod_lt t hk0
    have hcur : t < cur.size := by
      rw [hcs]
      have := Nat.mul_le_mul_right k hnc
      omega
    have e1 : cur[t]? = some (f l[t / k])[t % k]! := by
      have h3 : (cur.toList.take (l.length * k))[t]? = (l.flatMap f)[t]? := by rw [htk]
      rw [List.getElem?_take, if_pos ht] at h3
      have h4 := flat_get hk l (t / k) (t % k) h1 h2
      rw [show t / k * k + t % k = t by rw [Nat.mul_comm]; exact Nat.div_add_mod t k] at h4
      rw [h4] at h3
      rw [← Array.getElem?_toList, h3, List.getElem?_eq_getElem (by rw [hk]; exact h2), getElem!_pos (f l[t / k]) (t % k) (by rw [hk]; exact h2)]
    refine ⟨?_, ?_⟩
    · rw [Go.Sort.get_flatK _ _ _ _ (by rw [List.size_toArray]; exact ht), getElem!_pos l.toArray (t / k) (by simpa using h1)]
      unfold World.cell?
      simp only [hg, Nat.zero_add]
      simpa using e1
    · unfold World.frozen?
      simp only [hg, Nat.zero_add]
      rcases hlo with h7 | h7
      · simp only [h7]; simp
      · have : ¬ fz.1 ≤ t := by omega
        simp [this]
theorem rows_of {α : Type} [Inhabited α] {f : α → List Value} {k g : Nat} {w : World} {d : Array α} (hk : ∀ x, (f x).length = k) (h : Go.Sort.HoldsK f k w g 0 d) (hg : g < w.heap.size) : RowsAt w (some ⟨g, 0, none⟩) k f d.toList := fun _ => by
  refine ⟨g, 0, rfl, hg, fun j hj i v hv => ?_⟩
  have hj' : j < d.size := by simpa using hj
  have := HoldsK.cells h hk hj' i v (by rw [getElem!_pos d j hj']; simpa using hv)
  rw [Addr.add_mid] at this
  exact this
theorem below_sort {α : Type} [Inhabited α] {f : α → List Value} {k g B m : Nat} {w0 w : World} {d : Array α} {os : Array Obj} (h : Below B w0 w) (hg : B ≤ g) (hB : B ≤ w.heap.size) : Below B w0 (sortWorldK f k w g 0 m d os) := by
  unfold sortWorldK
  refine h.trans ⟨rfl, rfl, rfl, ?_, fun i hi => ?_⟩
  · rw [Go.Sort.size_grow, Go.Sort.size_putRowK]
    exact Nat.le_add_right _ _
  · unfold Go.Sort.putRowK Go.Sort.putRow Go.Sort.mapBlock Go.Sort.grow Go.Sort.ahead
    rw [Array.getElem?_append_left (by simp; omega), Array.getElem?_modify, if_neg (by omega)]

theorem insOuter_stop2 {α : Type} [Inhabited α] (lt : α → α → Bool) (d : Array α) (n : Nat) (h : d.size ≤ 1) : Go.Sort.insertionSort lt d 0 n = d ∨ 1 < n := by
  rcases Nat.lt_or_ge 1 n with h1 | h1
  · exact .inr h1
  · left
    unfold Go.Sort.insertionSort
    rw [Go.Sort.insOuter, if_neg (by omega)]

/-- What the sort leaves. -/
def sortA {α : Type} [Inhabited α] (d : Array (Found α)) : Array (Found α) := Go.Sort.insertionSort (ltOf cmpF) d 0 d.size

end Go.Proofs.YtjfcllanochhmaaGreatDoor.Known

namespace Go.Proofs.YtjfcllanochhmaaGreatDoor.Known
open Go.RowKit Grp Mem _root_.Go.Proofs.YtjfcllanochhmaaGreatDoor.Code Sha Sign _root_.Go.Proofs.YtjfcllanochhmaaGreatDoor.Item

theorem results_row_tmp2 {P : Program} {fn : Func} {p u r : Tmp} {ty : TypeId} (h : fn.results = #[.cell p ty, .tmp u, .tmp r]) (tmps : Array Value) (w : World) (g : Nat) (t : TypeId) (cs : Array Value) (fr : Nat × Nat) (d : TypeDesc) (v v2 : Value)
    (hp : tmps.getD p undef = .pointer (some ⟨g, 0, none⟩)) (hv : tmps.getD u undef = v) (hv2 : tmps.getD r undef = v2) (hg : w.heap[g]? = some (.cells cs t fr))
    (hu : P.underlying ty = some d) (hd : (match d with | .struct _ | .array _ _ => true | _ => false) = true) (hi : (P.info? ty).map (·.size) = some cs.size) :
    (results fn tmps).run P w = .ok (.tuple #[.agg cs, v, v2]) w := by
  have hp' : tmps[p]?.getD undef = .pointer (some ⟨g, 0, none⟩) := by simpa using hp
  have hv' : tmps[u]?.getD undef = v := by simpa using hv
  have hv2' : tmps[r]?.getD undef = v2 := by simpa using hv2
  simp [results, h, hp', hv', hv2', asAddr, run_loadVar_row w g t ty cs fr d hg hu hd hi]

/-- Does an item bear a ballot for an actor and a generation? -/
def wantB (actor : ByteArray) (gen : Int) (x : ItemR) : Bool := decide (x.kind = 2) && (decide (x.ballot.actor = actor) && decide (x.ballot.gen = gen))

/-- The worlds of the closure's last region. -/
structure WantF (w : World) (x : ItemR) (w' : World) : Prop where
  q : Q w w'
  it : Blk w' w.heap.size 47 x.cells.toArray
  b : Blk w' (w.heap.size + 1 + 1) 43 x.ballot.cells.toArray
  r : ∃ cs : List Value, cs.length = 7 ∧ Blk w' (w.heap.size + 1) 43 cs.toArray
structure WantW (w0 : World) (x : ItemR) where
  w : World
  f : WantF w0 x w
theorem wpQuiet_load_S {P : Program} {C : World → Prop} {ops : Array Oper} {rest : List Oper} {o : Oper} {a : Act} {K : Act → Prop} (ty : TypeId) (y : Operand) (p v : Value) (ho : o.op = .load ty y) (hw : Region.wanted o (yielded ops a.tmps) = true)
    (hy : a.eval y = p) (hr : ∀ w, C w → (Instr.loadAt ty p).run P w = .ok v w) (h : wpQuiet P ops C K rest (a.put o.dst v)) : wpQuiet P ops C K (o :: rest) a := by
  unfold wpQuiet
  rw [if_pos hw]
  refine ⟨v, fun w hC => ?_, h⟩
  unfold Oper.quietAt execOp
  simp only [ho, hy, Sem.run_bind, hr w hC, Result.andThen_ok, Sem.run_pure, Oper.quietUpon]
  exact ⟨trivial, trivial⟩

end Go.Proofs.YtjfcllanochhmaaGreatDoor.Known

namespace Go.Proofs.YtjfcllanochhmaaGreatDoor.Known
open Go.RowKit Grp Mem _root_.Go.Proofs.YtjfcllanochhmaaGreatDoor.Code Sha Sign _root_.Go.Proofs.YtjfcllanochhmaaGreatDoor.Item

def foundB (x : ItemR) : Found BallotV := ⟨0, digOf x, x.ballot⟩
def takeB (actor : ByteArray) (gen : Int) (l : List ItemR) : List (Found BallotV) := (l.filter fun x => wantB actor gen x && itemRight x).map foundB
theorem takeB_step (actor : ByteArray) (gen : Int) (l : List ItemR) (j : Nat) (h : j < l.length) : takeB actor gen (l.take (j + 1)) = takeB actor gen (l.take j) ++ if wantB actor gen l[j] && itemRight l[j] then [foundB l[j]] else [] := by
  unfold takeB
  rw [List.take_succ_eq_append_getElem h, List.filter_append, List.map_append]
  congr 1
  cases hw : wantB actor gen l[j] && itemRight l[j] <;> simp [List.filter, hw]
theorem takeB_le (actor : ByteArray) (gen : Int) (l : List ItemR) (j : Nat) : (takeB actor gen (l.take j)).length ≤ j := by
  unfold takeB
  rw [List.length_map]
  refine Nat.le_trans (List.length_filter_le _ _) ?_
  rw [List.length_take]
  omega
def sortB (l : List (Found BallotV)) : List (Found BallotV) := (sortA l.toArray).toList
def ballotsK (actor : ByteArray) (gen : Int) (l : List ItemR) : List BallotV := (sortB (takeB actor gen l)).map (·.val)
theorem size_swp2 {α : Type} [Inhabited α] (lt : α → α → Bool) (a : Nat) : ∀ (j : Nat) (d : Array α), (Go.Sort.insInner lt a j d).size = d.size
  | 0, d => rfl
  | j + 1, d => by
    rw [Go.Sort.insInner]
    split
    · rw [size_swp2 lt a j, Go.Sort.size_swp]
    · rfl
theorem size_insO {α : Type} [Inhabited α] (lt : α → α → Bool) (a b : Nat) : ∀ (n i : Nat) (d : Array α), b - i = n → (Go.Sort.insOuter lt a b i d).size = d.size := by
  intro n
  induction n with
  | zero => intro i d h; rw [Go.Sort.insOuter, if_neg (by omega)]
  | succ n ih =>
    intro i d h
    rw [Go.Sort.insOuter, if_pos (by omega), ih (i + 1) _ (by omega), size_swp2]
theorem sortB_length (l : List (Found BallotV)) : (sortB l).length = l.length := by
  unfold sortB sortA Go.Sort.insertionSort
  rw [Array.length_toList, size_insO _ _ _ _ _ _ rfl, List.size_toArray]

theorem sortB_nil : sortB [] = [] := List.length_eq_zero_iff.1 (sortB_length [])
theorem bal_info : (Tryz.prog.info? 43).map (fun i => (i.zero, i.size, i.bytes)) = some (some (.agg (ballotA ballot0)), 7, 72) := by kernel_rfl
theorem wpQuiet_build_run {P : Program} {C : World → Prop} {ops : Array Oper} {rest : List Oper} {o : Oper} {a : Act} {K : Act → Prop} (ty : TypeId) (parts : Array (Nat × Operand)) (vs : Array (Nat × Value)) (v : Value) (ho : o.op = .build ty parts) (hw : Region.wanted o (yielded ops a.tmps) = true)
    (hp : (parts.map fun x => (x.1, a.eval x.2)) = vs) (hr : ∀ w, (Instr.build ty vs).run P w = .ok v w) (h : wpQuiet P ops C K rest (a.put o.dst v)) : wpQuiet P ops C K (o :: rest) a := by
  unfold wpQuiet
  rw [if_pos hw]
  refine ⟨v, fun w hC => ?_, h⟩
  subst hp
  unfold Oper.quietAt execOp
  simp only [ho, Sem.run_bind, hr w, Result.andThen_ok, Sem.run_pure, Oper.quietUpon]
  exact ⟨trivial, trivial⟩
theorem fb_all (x : Found BallotV) : (fbC x).toArray.all (·.oneCell') = true := by
  rw [Array.all_eq_true_iff_forall_mem]
  intro v hv
  exact fb_one x v (by simpa using hv)
theorem bal_len (x : BallotV) : x.cells.length = 7 := rfl
theorem bal_one (x : BallotV) : ∀ v ∈ x.cells, v.oneCell' = true := by
  have := ballot_all x
  rw [Array.all_eq_true_iff_forall_mem] at this
  intro v hv
  exact this v (by simpa using hv)

/-- What hands back a list of ballots. -/
def BallotsAre (l : List BallotV) (w : World) (e : Ending) (w' : World) : Prop := ∃ (A : Option Addr) (c : Nat), e = .returned (.slice A l.length c) ∧ l.length ≤ c ∧ c ≤ maxLen ∧ RowsAt w' A 7 BallotV.cells l ∧ Q w w'
end Go.Proofs.YtjfcllanochhmaaGreatDoor.Known

namespace Go.Proofs.YtjfcllanochhmaaGreatDoor.Known
open Go.RowKit Grp Mem _root_.Go.Proofs.YtjfcllanochhmaaGreatDoor.Code Sha Sign _root_.Go.Proofs.YtjfcllanochhmaaGreatDoor.Item

end Go.Proofs.YtjfcllanochhmaaGreatDoor.Known

namespace Go.Proofs.YtjfcllanochhmaaGreatDoor.Sign
open Go.RowKit Grp Mem _root_.Go.Proofs.YtjfcllanochhmaaGreatDoor.Code Sha

theorem keyOf_right (x : Int) (h0 : 1 ≤ x) (h1 : x ≤ 2305843009213693949) : keyOf x = (x, gexp 37 x) := by
  unfold keyOf
  rw [if_neg (by omega)]
theorem rightI_of (x : Int) (h0 : 1 ≤ x) (h1 : x ≤ 2305843009213693949) : rightI (x, gexp 37 x) = true := by
  unfold rightI
  dsimp only
  rw [keyOf_right x h0 h1]
  simp [h0]
/-- The commitment of a signature that was made with u. -/
theorem comm_of (x u e : Int) (hx0 : 1 ≤ x) (hx1 : x ≤ 2305843009213693949) (hu0 : 0 ≤ u) (hu1 : u ≤ 9223372036854775807) (he0 : 0 ≤ e) (he1 : e < 2305843009213693950) :
    commI (gexp 37 x) (e, gaddN u (gmulN e x)) = gexp 37 u := by
  have hn : (37 : Int) % 2305843009213693951 ≠ 0 := by decide
  unfold commI gmul
  dsimp only
  have hs : 0 ≤ gaddN u (gmulN e x) ∧ gaddN u (gmulN e x) < 2305843009213693950 := emod_bd _ (by decide)
  rw [gexp_gexp 37 x (2305843009213693950 - e) (by omega) (by omega) hn]
  have hb := emod_bd (x * (2305843009213693950 - e)) (show (0:Int) < 2305843009213693950 by decide)
  rw [gexp_add 37 _ _ (by omega) (by omega) hn]
  refine gexp_mod 37 _ _ ?_ (by omega) hn ?_
  · have := emod_bd (gaddN u (gmulN e x) + x * (2305843009213693950 - e) % 2305843009213693950) (show (0:Int) < 2305843009213693950 by decide)
    omega
  · unfold gaddN gmulN
    rw [Int.mul_sub, Int.mul_comm x 2305843009213693950, Int.mul_comm x e]
    generalize e * x = t
    omega
theorem chalI_bd (r y : Int) (m : ByteArray) : 0 ≤ chalI r y m ∧ chalI r y m < 2305843009213693950 := emod_bd _ (by decide)
theorem gpub (x : Int) (h : x ≤ 9223372036854775807) : 1 ≤ gexp 37 x ∧ gexp 37 x < 2305843009213693951 := by
  have h1 := gexp_bd 37 x
  have h2 := gexp_ne 37 x h (by decide)
  omega
theorem sig_of (x : Int) (m : ByteArray) (h0 : 1 ≤ x) (h1 : x ≤ 2305843009213693949) : sigOf (x, gexp 37 x) m = (sigE x (gexp 37 x) m, sigS x (gexp 37 x) m) := by
  unfold sigOf
  rw [rightI_of x h0 h1, if_pos rfl]
theorem in_of {n : Int} (h : 0 ≤ n ∧ n < 2305843009213693950) : inI n = true := by
  unfold inI
  simp [h.1, h.2]
theorem range_of {p : Int} {s : Int × Int} (hp : 1 ≤ p ∧ p < 2305843009213693951) (h1 : 0 ≤ s.1 ∧ s.1 < 2305843009213693950) (h2 : 0 ≤ s.2 ∧ s.2 < 2305843009213693950) : rangeI p s = true := by
  unfold rangeI
  rw [in_of h1, in_of h2]
  simp [hp.1, hp.2]
/-- What a right key signs is accepted. -/
theorem ver_of (x : Int) (m : ByteArray) (h0 : 1 ≤ x) (h1 : x ≤ 2305843009213693949) : verI (gexp 37 x) m (sigE x (gexp 37 x) m, sigS x (gexp 37 x) m) = true := by
  have hn : 1 ≤ nonceI x m ∧ nonceI x m ≤ 2305843009213693949 := redI_bd _
  have he : 0 ≤ sigE x (gexp 37 x) m ∧ sigE x (gexp 37 x) m < 2305843009213693950 := chalI_bd _ _ _
  have hs : 0 ≤ sigS x (gexp 37 x) m ∧ sigS x (gexp 37 x) m < 2305843009213693950 := emod_bd _ (by decide)
  unfold verI
  rw [range_of (gpub x (by omega)) he hs]
  have hc : commI (gexp 37 x) (sigE x (gexp 37 x) m, sigS x (gexp 37 x) m) = gexp 37 (nonceI x m) := comm_of x _ _ h0 h1 (by omega) (by omega) he.1 he.2
  rw [hc]
  unfold sigE
  simp
abbrev aT : ByteArray := ⟨#[97]⟩
set_option maxRecDepth 100000
theorem f1 : seedKey aT = 361080046605472372 := by decide +kernel
theorem f2 : keyOf 361080046605472372 = (361080046605472372, 2287805972299522828) := by decide +kernel
theorem fg : keyOf (seedKey aT) = (361080046605472372, 2287805972299522828) := by rw [f1, f2]
end Go.Proofs.YtjfcllanochhmaaGreatDoor.Sign

namespace Go.Proofs.YtjfcllanochhmaaGreatDoor.Known
open Go.RowKit Grp Mem _root_.Go.Proofs.YtjfcllanochhmaaGreatDoor.Code Sha Sign _root_.Go.Proofs.YtjfcllanochhmaaGreatDoor.Item

def smT : ByteArray := ⟨#[48, 48, 48, 48, 48, 48, 48, 48, 48, 48, 48, 48, 48, 48, 48, 49]⟩
abbrev smX : Int := 361080046605472372
abbrev smY : Int := 2287805972299522828
def smB : BallotV := ⟨0, smT, 0, sha emptyT, 0, 0, 0⟩
def smS : BallotV := signBallot (smX, smY) smB
def smI : ItemR := itBallot smS

theorem smY_eq : smY = gexp 37 smX := by
  have h := keyOf_right smX (by decide) (by decide)
  rw [f2] at h
  exact congrArg Prod.snd h
theorem sm_sig (m : ByteArray) : sigOf (smX, smY) m = (sigE smX smY m, sigS smX smY m) := by
  rw [smY_eq]
  exact sig_of smX m (by decide) (by decide)
theorem sm_ver (m : ByteArray) : verI smY m (sigOf (smX, smY) m) = true := by
  rw [sm_sig, smY_eq]
  exact ver_of smX m (by decide) (by decide)
theorem sm_small : SmallB smB := ⟨by decide, by show (sha emptyT).size ≤ 1000000; rw [sha_size]; decide, by intro n hn; simp [smB] at hn; omega⟩
theorem ord_of {n : Int} (h : 0 ≤ n ∧ n < 2305843009213693950) : inOrd n = true := by
  unfold inOrd withinB
  rw [decide_eq_true h.1, decide_eq_true (show n ≤ 2305843009213693949 by omega)]
  rfl
theorem smI_right : itemRight smI = true := by
  have he : inOrd smS.e = true := by
    show inOrd (sigOf (smX, smY) (messageB (itBallot smB))).1 = true
    rw [sm_sig]
    exact ord_of (chalI_bd _ _ _)
  have hs : inOrd smS.s = true := by
    show inOrd (sigOf (smX, smY) (messageB (itBallot smB))).2 = true
    rw [sm_sig]
    exact ord_of (emod_bd _ (by decide))
  have hd : digestB smS.claim = true := by
    show digestB (sha emptyT) = true
    unfold digestB
    rw [sha_size]
    rfl
  have hb : ballotRight smS = true := by
    unfold ballotRight
    rw [he, hs, hd]
    rfl
  show (ballotRight smS && (act0.same act0 && (claim0.same claim0 && dec0.same dec0))) = true
  rw [hb]
  decide
theorem sign_msg (k : Int × Int) (b : BallotV) : messageB (itBallot (signBallot k b)) = messageB (itBallot b) := rfl
theorem sign_sig (k : Int × Int) (b : BallotV) : sigV (itBallot (signBallot k b)) = sigOf k (messageB (itBallot b)) := rfl
theorem smI_signed : signedB [smY] smI = true := by
  unfold signedB
  rw [smI_right, Bool.true_and]
  show (if (2 : Int) = 2 then decide ((0 : Int) < ([smY].length : Int)) && verI ([smY].getD (0 : Int).toNat 0) (messageB smI) (sigV smI) else _) = true
  rw [if_pos rfl]
  show (true && verI smY (messageB smI) (sigV smI)) = true
  rw [Bool.true_and]
  have h1 : messageB smI = messageB (itBallot smB) := sign_msg _ _
  have h2 : sigV smI = sigOf (smX, smY) (messageB (itBallot smB)) := sign_sig _ _
  rw [h1, h2]
  exact sm_ver _
theorem sm_add : addOk [smY] [] smI = true := by
  unfold addOk
  rw [smI_signed]
  rfl
theorem sm_set : addK [smY] [] smI = [smI] := by
  unfold addK
  rw [sm_add]
  rfl
theorem hasD_self (x : ItemR) : hasD [x] (digOf x) = true := (hasD_iff _ _).2 (by unfold digs; rw [List.map_cons]; exact List.mem_cons_self ..)
theorem sm_hasD : hasD [smI] (digOf smI) = true := hasD_self smI
theorem sm_again : addOk [smY] [smI] smI = false := by
  unfold addOk
  rw [sm_hasD]
  simp
theorem sm_want : wantB smT 0 smI = true := rfl
theorem sort_one (x : Found BallotV) : sortB [x] = [x] := by
  unfold sortB sortA
  rcases insOuter_stop2 (ltOf cmpF) [x].toArray [x].toArray.size (by simp) with h | h
  · rw [h]
  · simp at h
theorem sm_ballots : ballotsK smT 0 [smI] = [smS] := by
  unfold ballotsK takeB
  rw [show List.filter (fun x => wantB smT 0 x && itemRight x) [smI] = [smI] by rw [List.filter_cons, sm_want, smI_right]; rfl]
  rw [List.map_cons, List.map_nil, sort_one]
  rfl
theorem sm_filled : Filled [smY] [smI] := by
  have := (Filled.nil [smY]).add smI
  rwa [sm_set] at this
theorem sm_right : rightK [smY] [smI] = true := sm_filled.right (by decide) (by decide)
theorem sm_size : (digOf smI).size = 32 := digOf_size smI_signed
theorem sm_has : hasE [smI] (digOf smI) = true := by
  unfold hasE
  rw [sm_hasD]
  simp [noneB, sm_size]
theorem sm_hasnt (l : List ItemR) : hasE l emptyT = false := rfl
theorem found_self (x : ItemR) (h : noneB (digOf x) = false) : foundIt [x] (digOf x) = x := by
  unfold foundIt findK
  rw [h]
  simp
theorem sm_find : foundIt [smI] (digOf smI) = smI := by
  exact found_self smI (by simp [noneB, sm_size])
theorem sm_dig : setDig [] [] = sha ⟨#[0, 0]⟩ := by
  unfold setDig
  congr 1
end Go.Proofs.YtjfcllanochhmaaGreatDoor.Known

namespace Go.Proofs.YtjfcllanochhmaaGreatDoor.Known
open Go.RowKit Grp Mem _root_.Go.Proofs.YtjfcllanochhmaaGreatDoor.Code Sha Sign _root_.Go.Proofs.YtjfcllanochhmaaGreatDoor.Item

set_option maxRecDepth 100000 in
set_option maxHeartbeats 1000000 in
theorem new_nil (w : World) : Calls Tryz.prog 7 #[.slice none 0 0] w fun e w' => e = .returned (.agg (knA known0)) ∧ Q w w' := by
  have hq0 := q_new w known0.cells.toArray 28
  have hb := Blk.new w 28 known0.cells.toArray
  obtain ⟨w1, hw1⟩ : ∃ w1, w1 = w.alloc (.cells known0.cells.toArray 28) := ⟨_, rfl⟩
  rw [← hw1] at hq0 hb
  go_enter Tryz.func7, Tryz.ntmps7
  go_wp2_with fail
  refine (show Calls _ _ _ w1 _ → Calls _ _ _ _ _ from fun h => by rw [hw1] at h; exact h) ?_
  refine (Tryz.slices_Clone_int_nil 0 0 w1).mono ?_
  rintro e w' ⟨rfl, hw'⟩
  rw [hw']
  clear hw1 hw'
  go_wp2_with (refine wpList_store_far hb rfl 28 (.tmp 2) (.tmp 5) known0.cells rfl rfl rfl (by kernel_rfl) (kn_all _) (Nat.le_refl 2) ?_)
  intro W hW hbel hfar
  rw [splice_all _ _ (by rfl)] at hW
  have hqW : Q w W := hbel _ _ (Nat.le_refl _) hq0
  clear hfar hbel
  go_wp2_with fail
  exact bodyPost_ret (results_cell_row rfl _ _ w.heap.size 28 (knA known0) (0, 0) _ rfl hW Tryz.underlying28 rfl (by kernel_rfl)) rfl ⟨rfl, hqW⟩

end Go.Proofs.YtjfcllanochhmaaGreatDoor.Known

namespace Go.Proofs.YtjfcllanochhmaaGreatDoor.Known
open Go.RowKit Grp Mem _root_.Go.Proofs.YtjfcllanochhmaaGreatDoor.Code Sha Sign _root_.Go.Proofs.YtjfcllanochhmaaGreatDoor.Item

theorem alloc_item (w : World) : (Instr.alloc 47 true (.tuple #[])).run Tryz.prog w = .ok (.pointer (some ⟨w.heap.size, 0, none⟩)) (w.alloc (.cells (itA item0) 47)) := by kernel_rfl
theorem alloc_known (w : World) : (Instr.alloc 28 true (.tuple #[])).run Tryz.prog w = .ok (.pointer (some ⟨w.heap.size, 0, none⟩)) (w.alloc (.cells (knA known0) 28)) := by kernel_rfl
theorem ints_one (w : World) (n : Int) : Ints (w.alloc (.cells #[.int .i64 n] 3)) (some ⟨w.heap.size, 0, none⟩) [n] := ints_of (RowsAt.one (k := 1) (f := fun n : Int => [Value.int .i64 n]) w 3 n _ rfl)

end Go.Proofs.YtjfcllanochhmaaGreatDoor.Known

namespace Go.Proofs.YtjfcllanochhmaaGreatDoor.Known
open Go.RowKit Grp Mem _root_.Go.Proofs.YtjfcllanochhmaaGreatDoor.Code Sha Sign _root_.Go.Proofs.YtjfcllanochhmaaGreatDoor.Item

theorem owns_empty (w : World) (t : TypeId) (k : Nat) : Owns (w.alloc (.cells #[] t)) w.heap.size t k (.slice (some ⟨w.heap.size, 0, none⟩) 0 0) 0 [] :=
  ⟨by simp, .inr ⟨w.heap.size, 0, #[], (0, 0), rfl, Nat.le_refl _, Blk.new w t #[], .inl rfl, Nat.le_refl _, Nat.zero_le _, by simp, by simp⟩⟩
theorem wrp_len (x : WrapV) : x.cells.length = 5 := rfl
theorem wrp_one (x : WrapV) : ∀ v ∈ x.cells, v.oneCell' = true := by
  intro v hv
  simp only [WrapV.cells, List.mem_cons, List.not_mem_nil, or_false] at hv
  rcases hv with rfl | rfl | rfl | rfl | rfl <;> rfl
theorem wrap_info : (Tryz.prog.info? 130).map (fun i => (i.zero, i.size, i.bytes)) = some (some (.agg (WrapV.cells default).toArray), 5, 64) := by kernel_rfl
theorem rows_strs {w : World} {A : Option Addr} {l : List ByteArray} (h : Strs w A l) : RowsAt w A 1 strC l := fun h0 => by
  obtain ⟨b, o, e, hb, hc⟩ := h h0
  refine ⟨b, o, e, hb, fun j hj i v hv => ?_⟩
  have hi : i = 0 := by
    have := (List.getElem?_eq_some_iff.1 hv).1
    simp [strC] at this
    omega
  subst hi
  have : v = .string l[j] := by simpa [strC] using hv.symm
  rw [this, Nat.mul_one, Nat.add_zero]
  exact hc j hj
theorem rows_wrs {w : World} {A : Option Addr} {l : List WrapV} (h : Wrs w A l) : RowsAt w A 5 WrapV.cells l := h
/-- Rows in a block from B on. -/
def RowsFrom {α : Type} (B : Nat) (w : World) (A : Option Addr) (k : Nat) (f : α → List Value) (l : List α) : Prop := 0 < l.length → ∃ b o, A = some ⟨b, o, none⟩ ∧ B ≤ b ∧ b < w.heap.size ∧ ∀ j (h : j < l.length), w.rangeAt b (o + j * k) (f l[j])
theorem RowsFrom.rows {α : Type} {B : Nat} {w : World} {A : Option Addr} {k : Nat} {f : α → List Value} {l : List α} (h : RowsFrom B w A k f l) : RowsAt w A k f l := fun h0 => by
  obtain ⟨b, o, e, _, h2, h3⟩ := h h0
  exact ⟨b, o, e, h2, h3⟩
theorem RowsFrom.q {α : Type} {B : Nat} {w w' : World} {A : Option Addr} {k : Nat} {f : α → List Value} {l : List α} (h : RowsFrom B w A k f l) (hq : Q w w') : RowsFrom B w' A k f l := fun h0 => by
  obtain ⟨b, o, e, h1, h2, h3⟩ := h h0
  exact ⟨b, o, e, h1, Nat.lt_of_lt_of_le h2 hq.size, fun j hj => range_q (h3 j hj) hq h2⟩
theorem RowsFrom.far {α : Type} {B : Nat} {w w' : World} {A : Option Addr} {k : Nat} {f : α → List Value} {l : List α} (h : RowsFrom B w A k f l) (hf : ∀ b, B ≤ b → w'.heap[b]? = w.heap[b]?) : RowsFrom B w' A k f l := fun h0 => by
  obtain ⟨b, o, e, h1, h2, h3⟩ := h h0
  have e1 := hf b h1
  refine ⟨b, o, e, h1, ?_, fun j hj i v hv => (World.cell?_of_block (w := w) e1).trans (h3 j hj i v hv)⟩
  rcases Nat.lt_or_ge b w'.heap.size with h7 | h7
  · exact h7
  · rw [Array.getElem?_eq_none h7, Array.getElem?_eq_getElem h2] at e1
    cases e1
theorem rows_from {α : Type} {f : α → List Value} {k : Nat} {w : World} {base n : Nat} {e : TypeId} {A : Option Addr} {c : Nat} {l : List α} (hk : ∀ x, (f x).length = k) (h : Owns w base e k (.slice A n c) n (l.flatMap f)) (hn : n = l.length) : RowsFrom base w A k f l := fun h0 => by
  obtain ⟨b, o, e1, h2, h3⟩ := Owns.rows hk h hn h0
  rcases h.2 with ⟨e2, h4⟩ | ⟨g, cap, cur, fz, hv, hb, _⟩
  · omega
  · injection hv with hA _ _
    rw [e1] at hA
    injection hA with hA
    injection hA with hA
    subst hA
    exact ⟨b, o, e1, hb, h2, h3⟩
/-- What slices.Clone hands back. -/
def ClonedRows {α : Type} (k : Nat) (f : α → List Value) (l : List α) (w : World) (e : Ending) (w' : World) : Prop := ∃ (A : Option Addr) (c : Nat), e = .returned (.slice A l.length c) ∧ l.length ≤ c ∧ c ≤ maxLen ∧ RowsFrom w.heap.size w' A k f l ∧ Q w w'

/-- As ClonedRows; the rows lie in a block of strings of their own. -/
def ClonedOwn (l : List ByteArray) (w : World) (e : Ending) (w' : World) : Prop := ∃ (A : Option Addr) (c : Nat), e = .returned (.slice A l.length c) ∧ l.length ≤ c ∧ c ≤ maxLen ∧ Owns w' w.heap.size 9 1 (.slice A l.length c) l.length (l.flatMap strC) ∧ Q w w'
open Go.Op in
theorem eqnil_cloneS (w : World) (a : Option Addr) (n c n' c' : Nat) : (binOp .eql 32 (.slice a n c) (.slice none n' c')).run Tryz.prog w = .ok (.bool a.isNone) w := Lib.run_eql_slice_nil w _ _ a n c n' c' Tryz.underlying32
theorem bs_cloneS (w : World) : (Instr.buildSlice 32 0 #[]).run Tryz.prog w = .ok (.slice (some ⟨w.heap.size, 0, none⟩) 0 0) (w.alloc (.cells #[] 9)) := by kernel_rfl
set_option maxRecDepth 100000 in
set_option maxHeartbeats 1000000 in
theorem cloneS_own (A : Option Addr) (c : Nat) (l : List ByteArray) (w : World) (hS : RowsAt w A 1 strC l) (hl : l.length ≤ 1000000) : Calls Tryz.prog 47 #[.slice A l.length c] w (ClonedOwn l w) := by
  obtain ⟨i0, hi, hz0, hz1, hz2⟩ := info_parts str_info
  have q22 := eqnil_cloneS
  cases A with
  | none =>
    have h0 : l = [] := by
      rcases Nat.eq_zero_or_pos l.length with h | h
      · exact List.length_eq_zero_iff.1 h
      · obtain ⟨_, _, e, _⟩ := hS h
        cases e
    subst h0
    go_enter Tryz.func47, Tryz.ntmps47
    go_wp2_with fail
    go_ret
    exact ⟨none, 0, rfl, Nat.le_refl _, Nat.zero_le _, Owns.nil_ _ _ _ _, Q.refl _⟩
  | some a =>
    have hq1 := q_new w #[] 9
    have hown := owns_empty w 9 1
    have hS1 := hS.q hq1
    obtain ⟨w1, hw1⟩ : ∃ w1, w.alloc (.cells #[] 9) = w1 := ⟨_, rfl⟩
    have hbs := bs_cloneS w
    have hs1 : w.heap.size ≤ w1.heap.size := by rw [← hw1]; simp
    rw [hw1] at hq1 hown hS1 hbs
    clear hw1
    go_enter Tryz.func47, Tryz.ntmps47
    go_upto_region 3 with (fail)
    refine wp_region_lit ?_
    refine wpList_buildSlice_run 32 0 _ #[] _ rfl rfl (by simp) hbs ?_
    dsimp only [Act.put]
    simp only [List.setIfInBounds_toArray, List.set_cons_succ, List.set_cons_zero]
    refine wpList_move (.tmp 0) (.slice (some a) l.length c) rfl rfl rfl ?_
    dsimp only [Act.put]
    simp only [List.setIfInBounds_toArray, List.set_cons_succ, List.set_cons_zero]
    refine wpList_append_rows str_len str_one rfl (.tmp 5) (.tmp 6) 32 9 i0 _ 16 rfl Tryz.underlying32 hi hz0 hz1 hz2 rfl (by decide) (by decide) w.heap.size (.slice (some ⟨w.heap.size, 0, none⟩) 0 0) 0 [] rfl hown (some a) l.length c l rfl hS1 rfl (by omega) hs1 ?_
    intro A2 c2 w2 hc2 hm2 hown2 hg2
    have hq2 : Q w w2 := q_grown hq1 (Nat.le_refl _) hown hg2
    rw [Nat.zero_add] at hown2
    have hfin : ClonedOwn l w (.returned (.slice A2 l.length c2)) w2 := ⟨A2, c2, rfl, by omega, hm2, hown2, hq2⟩
    have HF := Lib.hid hfin
    clear hfin hown2 hg2 hq2
    go_wp2_with fail
    go_ret
    exact HF.out
theorem cloneS_any (A : Option Addr) (c : Nat) (l : List ByteArray) (w : World) (hS : RowsAt w A 1 strC l) (hl : l.length ≤ 1000000) : Calls Tryz.prog 47 #[.slice A l.length c] w (ClonedRows 1 strC l w) :=
  (cloneS_own A c l w hS hl).mono fun _ _ ⟨A2, c2, h1, h2, h3, h4, h5⟩ => ⟨A2, c2, h1, h2, h3, rows_from str_len h4 rfl, h5⟩


def itAct (a : ActR) : ItemR := ⟨0, a, claim0, ballot0, dec0⟩
def itDec (d : DecR) : ItemR := ⟨3, act0, claim0, ballot0, d⟩
set_option maxRecDepth 100000 in
theorem build_act (a : ActR) (w : World) : (Instr.build 47 #[(0, .int .i64 0), (1, .agg (actA a))]).run Tryz.prog w = .ok (.agg (itA (itAct a))) w := by kernel_rfl
set_option maxRecDepth 100000 in
theorem build_dec (d : DecR) (w : World) : (Instr.build 47 #[(0, .int .i64 3), (4, .agg (decA d))]).run Tryz.prog w = .ok (.agg (itA (itDec d))) w := by kernel_rfl
/-- The same but for where its lists lie. -/
def ActR.to' (a : ActR) (A : Option Addr) (c : Nat) : ActR := { a with toA := A, toC := c }
def ActR.wr' (a : ActR) (A : Option Addr) (c : Nat) : ActR := { a with wrA := A, wrC := c }
def DecR.to' (d : DecR) (A : Option Addr) (c : Nat) : DecR := { d with toA := A, toC := c }
theorem to_cells (a : ActR) (A : Option Addr) (c : Nat) : splice a.cells 9 [.slice A a.to.length c] = (ActR.to' a A c).cells := rfl
theorem wr_cells (a : ActR) (A : Option Addr) (c : Nat) : splice a.cells 15 [.slice A a.wraps.length c] = (ActR.wr' a A c).cells := rfl
theorem dto_cells (d : DecR) (A : Option Addr) (c : Nat) : splice d.cells 6 [.slice A d.to.length c] = (DecR.to' d A c).cells := rfl
/-- What OfAct hands back. -/
def OfActIs (a : ActR) (w : World) (e : Ending) (w' : World) : Prop := ∃ a' : ActR, e = .returned (.agg (itA (itAct a'))) ∧ (∀ b : ActR, a'.same b = a.same b) ∧ ItemIn w' (itAct a') ∧ Q w w'
def OfDecIs (d : DecR) (w : World) (e : Ending) (w' : World) : Prop := ∃ d' : DecR, e = .returned (.agg (itA (itDec d'))) ∧ (∀ b : DecR, d'.same b = d.same b) ∧ ItemIn w' (itDec d') ∧ Q w w'

theorem RowsFrom.low {α : Type} {B C : Nat} {w : World} {A : Option Addr} {k : Nat} {f : α → List Value} {l : List α} (h : RowsFrom B w A k f l) (hc : C ≤ B) : RowsFrom C w A k f l := fun h0 => by
  obtain ⟨b, o, e, h1, h2⟩ := h h0
  exact ⟨b, o, e, Nat.le_trans hc h1, h2⟩
/-- As OfDecIs; the list To lies in a block of its own. -/
def OfDecF (d : DecR) (w : World) (e : Ending) (w' : World) : Prop := ∃ TA tc, e = .returned (.agg (itA (itDec (DecR.to' d TA tc)))) ∧ RowsFrom w.heap.size w' TA 1 strC d.to ∧ d.to.length ≤ tc ∧ tc ≤ maxLen ∧ Q w w'
set_option maxRecDepth 100000 in
set_option maxHeartbeats 2000000 in
theorem ofDec_from (d : DecR) (w : World) (hD : DecIn w d) (hl : d.to.length ≤ 1000000) : Calls Tryz.prog 38 #[.agg (decA d)] w (OfDecF d w) := by
  have hb1 := Blk.new w 45 (decA d)
  have hq1 := q_new w (decA d) 45
  have hbr := Blk.new' (g := w.heap.size + 1) (w.alloc (.cells (decA d) 45)) 47 (itA item0) (by simp)
  have hq2 := q_new (w.alloc (.cells (decA d) 45)) (itA item0) 47
  have hb1 := hb1.q hq2
  have hq := Q.trans hq1 hq2
  obtain ⟨w2, hw2⟩ : ∃ w2, w2 = (w.alloc (.cells (decA d) 45)).alloc (.cells (itA item0) 47) := ⟨_, rfl⟩
  rw [← hw2] at hb1 hbr hq
  have hcl := fun y : Wd w2 => cloneS_any d.toA d.toC d.to y.w (rows_strs (hD.to.q (Q.trans hq y.q))) hl
  have cT : ∀ y : Wd w2, y.w.cell? ⟨w.heap.size, 6, none⟩ = some (.slice d.toA d.to.length d.toC) := fun y => (y.blk hb1).cell 6
  have hB1 : ∀ y : Wd w2, Blk y.w w.heap.size 45 d.cells.toArray := fun y => y.blk hb1
  have hBr : ∀ y : Wd w2, Blk y.w (w.heap.size + 1) 47 item0.cells.toArray := fun y => y.blk hbr
  have hfz : ∀ y : Wd w2, y.w.frozen? ⟨w.heap.size, 6, none⟩ = false := fun y => (hB1 y).frozen 6
  obtain ⟨u, hu⟩ : ∃ u : Wd w2, u.w = w2 := ⟨⟨w2, Q.refl _⟩, rfl⟩
  have HX := Lib.hid (hu.trans hw2)
  have HQ := Lib.hid hq
  have hws : w2.heap.size = w.heap.size + 1 + 1 := by rw [hw2]; simp
  clear hu hw2 hq1 hq2 hq hb1 hbr
  go_enter Tryz.func38, Tryz.ntmps38
  go_upto_region 1 with (fail)
  refine (show Code.wp _ _ _ _ u.w → Code.wp _ _ _ _ _ from fun h => by rw [HX.out] at h; exact h) ?_
  go_upto_region 2 with (go_at_call 47; refine (hcl _).mono ?_; rintro e w' ⟨TA, tc, rfl, ht1, ht2, htR, hq3⟩; obtain ⟨y, rfl⟩ := Wd.next _ hq3; clear hq3)
  have hus := u.q.size
  have hW0 := Blk.setCells [.slice TA d.to.length tc] 6 _ y.w (hB1 y) (show 7 ≤ 12 by decide)
  rw [dto_cells] at hW0
  have hfar0 := fun b (hne : b ≠ w.heap.size) => setCells_far (g := w.heap.size) hne [.slice TA d.to.length tc] 6 y.w
  have hbel0 := fun (B : Nat) (w0 : World) (hB : B ≤ w.heap.size) (hw : Below B w0 y.w) => below_setCells hB [.slice TA d.to.length tc] 6 w0 y.w hw
  obtain ⟨W, hWe⟩ : ∃ W, y.w.setCell ⟨w.heap.size, 6, none⟩ (.slice TA d.to.length tc) = W := ⟨_, rfl⟩
  have hWe2 : y.w.setCells w.heap.size 6 [.slice TA d.to.length tc] = W := hWe
  rw [hWe2] at hW0 hfar0 hbel0
  rw [hWe]
  have hqW : Q w W := hbel0 _ _ (Nat.le_refl _) (Q.trans HQ.out y.q)
  have htW := htR.far (w' := W) (fun b hb => hfar0 b (by omega))
  have hBrW : Blk W (w.heap.size + 1) 47 item0.cells.toArray := (hfar0 _ (by omega)).trans (hBr y)
  have hLd := Wd.load (P := Tryz.prog) (ty := 45) hW0.lt (Blk.range hW0) Tryz.underlying45 rfl (by kernel_rfl) ⟨W, Q.refl W⟩
  have HQW := Lib.hid hqW
  clear hWe hWe2 hW0 hfar0 hbel0 htR hB1 hBr hfz cT hcl hqW
  go_upto_region 2 with (fail)
  refine wp_region_lit ?_
  refine wpList_load_run 45 (.tmp 1) (.pointer (some ⟨w.heap.size, 0, none⟩)) (.agg (decA (DecR.to' d TA tc))) rfl rfl rfl hLd ?_
  dsimp only [Act.put]
  simp only [List.setIfInBounds_toArray, List.set_cons_succ, List.set_cons_zero]
  refine wpList_build_run 47 _ #[(0, .int .i64 3), (4, .agg (decA (DecR.to' d TA tc)))] (.agg (itA (itDec (DecR.to' d TA tc)))) rfl rfl (by simp only [List.map_toArray, List.map_cons, List.map_nil]; rfl) (build_dec _ _) ?_
  dsimp only [Act.put]
  simp only [List.setIfInBounds_toArray, List.set_cons_succ, List.set_cons_zero]
  refine wpList_store_far hBrW rfl 47 (.tmp 2) (.tmp 8) (itDec (DecR.to' d TA tc)).cells rfl rfl rfl (by kernel_rfl) (it_all _) (Nat.le_refl 49) ?_
  intro W3 hW3 hbel3 hfar3
  rw [splice_all _ _ (by rfl)] at hW3
  have hq3 : Q w W3 := hbel3 _ _ (Nat.le_succ _) HQW.out
  have ht3 := htW.far (w' := W3) (fun b hb => hfar3 b (by omega))
  have hfin : OfDecF d w (.returned (.agg (itA (itDec (DecR.to' d TA tc))))) W3 := ⟨TA, tc, rfl, ht3.low (by omega), ht1, ht2, hq3⟩
  have HF := Lib.hid hfin
  clear hbel3 hfar3 hLd htW ht3 hfin hq3
  go_wp2_with fail
  exact bodyPost_ret (results_cell_row rfl _ _ (w.heap.size + 1) 47 (itA (itDec (DecR.to' d TA tc))) (0, 0) _ rfl hW3 Tryz.underlying47 rfl (by kernel_rfl)) rfl HF.out
end Go.Proofs.YtjfcllanochhmaaGreatDoor.Known

namespace Go.Proofs.YtjfcllanochhmaaGreatDoor.Known
open Go.RowKit Grp Mem _root_.Go.Proofs.YtjfcllanochhmaaGreatDoor.Code Sha Sign _root_.Go.Proofs.YtjfcllanochhmaaGreatDoor.Item

instance : Inhabited DecR := ⟨dec0⟩
abbrev fdeC : Found DecR → List Value := Found.cells DecR.cells
theorem fde_len (x : Found DecR) : (fdeC x).length = 14 := rfl
theorem fde_one (x : Found DecR) : ∀ v ∈ fdeC x, v.oneCell' = true := by
  intro v hv
  simp only [fdeC, Found.cells, DecR.cells, List.mem_cons, List.not_mem_nil, or_false] at hv
  rcases hv with rfl | rfl | rfl | rfl | rfl | rfl | rfl | rfl | rfl | rfl | rfl | rfl | rfl | rfl <;> rfl

set_option maxRecDepth 100000 in
set_option maxHeartbeats 1000000 in
/-- pick's comparison, at ballots: it lays blocks of its own alone. -/
theorem cmpDe_any (x y : Found DecR) (W : World) : Calls Tryz.prog 113 #[.agg (fdeC x).toArray, .agg (fdeC y).toArray] W fun e w' => e = .returned (.int .i64 (cmpF x y)) ∧ ∃ q os', w' = Go.Sort.grow (W.drewN q) os' := by
  have hci := fun W' => Tryz.cmp_Compare_int x.rank y.rank W'
  have hcs := fun W' => compareS_any x.dig y.dig W'
  have HR : Hid (cmpF x y = orI (Lib.compareInt x.rank y.rank) (cmpS x.dig y.dig)) := Lib.hid rfl
  generalize cmpF x y = r at HR ⊢
  have b1 := Blk.new W 156 (fdeC x).toArray
  have b2 := Blk.new' (g := W.heap.size + 1) (W.alloc (.cells (fdeC x).toArray 156)) 156 (fdeC y).toArray (by simp)
  have b1 := b1.q (q_new (W.alloc (.cells (fdeC x).toArray 156)) (fdeC y).toArray 156)
  obtain ⟨W1, hW1⟩ : ∃ W1, W1 = (W.alloc (.cells (fdeC x).toArray 156)).alloc (.cells (fdeC y).toArray 156) := ⟨_, rfl⟩
  rw [← hW1] at b1 b2
  have c0 : ∀ n, (W1.drewN n).cell? ⟨W.heap.size, 0, none⟩ = some (.int .i64 x.rank) := fun n => b1.cell 0
  have c1 : ∀ n, (W1.drewN n).cell? ⟨W.heap.size, 1, none⟩ = some (.string x.dig) := fun n => b1.cell 1
  have c2 : ∀ n, (W1.drewN n).cell? ⟨W.heap.size + 1, 0, none⟩ = some (.int .i64 y.rank) := fun n => b2.cell 0
  have c3 : ∀ n, (W1.drewN n).cell? ⟨W.heap.size + 1, 1, none⟩ = some (.string y.dig) := fun n => b2.cell 1
  have HX := Lib.hid hW1
  clear hW1 b1 b2
  generalize Lib.compareInt x.rank y.rank = ri at *
  generalize cmpS x.dig y.dig = rs at *
  go_enter Tryz.func113, Tryz.ntmps113
  go_upto_region 1 with (fail)
  refine (show Code.wp _ _ _ _ W1 → Code.wp _ _ _ _ _ from fun h => by rw [HX.out] at h; exact h) ?_
  refine wp_region_open (C := fun w' => ∃ n, w' = W1.drewN n) 10 (by kernel_rfl) (by kernel_rfl) ⟨1, rfl⟩ ?_
  simp only [List.take_succ_cons, List.take_zero]
  repeat (quiet_step (first | (go_at_call 115; exact Calls.quiet_of_same (hci _)) | (go_at_call 116; exact Calls.quiet_of_same (hcs _))))
  refine wpQuiet_nil ?_
  rintro w' ⟨n, rfl⟩
  have hb := Blk.new (W1.drewN n) 3 #[.int .i64 ri, .int .i64 rs]
  have hor := or_any (W1.drewN n).heap.size 0 2 ri rs _ (hb.cell 0) (hb.cell 1)
  have HE : Hid (∃ q os', (W1.drewN n).alloc (.cells #[.int .i64 ri, .int .i64 rs] 3) = Go.Sort.grow (W.drewN q) os') := Lib.hid ⟨n, _, by rw [HX.out]; exact grow3 W n _ _ _⟩
  clear hb
  refine any_one 10 rfl (by kernel_rfl) rfl (fun K' hK' => ?_)
  go_simp
  refine hK' _ _ ?_
  clear hK' K'
  try simp only [Act.put, List.setIfInBounds_toArray, List.set_cons_succ, List.set_cons_zero]
  refine any_one 11 rfl (by kernel_rfl) rfl (fun K' hK' => ?_)
  go_simp
  refine hor.mono ?_
  rintro e w2 ⟨rfl, rfl⟩
  refine hK' _ _ ?_
  clear hK' K' hor
  try simp only [Act.put, List.setIfInBounds_toArray, List.set_cons_succ, List.set_cons_zero]
  rw [← HR.out]
  refine any_pure 12 (v := .int .i64 r) rfl (by kernel_rfl) (by kernel_rfl) (by kernel_rfl) (by intro c d v a w h; cases d <;> exact h) rfl (fun w => by rfl) ?_
  try simp only [Act.put, List.setIfInBounds_toArray, List.set_cons_succ, List.set_cons_zero]
  refine any_done (by kernel_rfl) ?_ _
  go_wp2_with fail
  go_ret
  exact ⟨rfl, HE.out⟩


set_option maxRecDepth 100000 in
set_option maxHeartbeats 1000000 in
theorem stableDe_lt (g cap : Nat) (d : Array (Found DecR)) (w : World) (hH : Go.Sort.HoldsK fdeC 14 w g 0 d) (hg : g < w.heap.size) (hd : d.size < 20) :
    Calls Tryz.prog 112 #[.slice (some ⟨g, 0, none⟩) d.size cap, .func (.func 113) #[] #[]] w fun e w' => e = .returned (.tuple #[]) ∧ ∃ n os, w' = sortWorldK fdeC 14 w g 0 n (sortA d) os := by
  have hins : Calls Tryz.prog 175 #[.slice (some ⟨g, 0, none⟩) d.size cap, .int .i64 (0 : Nat), .int .i64 (d.size : Nat), .func (.func 113) #[] #[]] w fun e w' => e = .returned (.tuple #[]) ∧ ∃ n os, w' = sortWorldK fdeC 14 w g 0 n (sortA d) os :=
    AnyQ.insertionSortCmpFunc Tryz.insDecision 14 Tryz.isAgg156 Tryz.sizeOf156 fdeC fde_len fde_one cmpF 113 #[] g 0 cap 0 d.size d w (enters_of Tryz.func113 (by kernel_rfl) rfl) (fun _ _ _ _ x y => cmpDe_any x y _) hH hg (Nat.zero_le _) (Nat.le_refl _) (by omega)
  have hst : Calls Tryz.prog 158 #[.slice (some ⟨g, 0, none⟩) d.size cap, .int .i64 (d.size : Nat), .func (.func 113) #[] #[]] w fun e w' => e = .returned (.tuple #[]) ∧ ∃ n os, w' = sortWorldK fdeC 14 w g 0 n (sortA d) os := by
    clear hH
    generalize sortA d = r at hins ⊢
    go_enter Tryz.func158, Tryz.ntmps158
    go_wp2_with fail
    refine wp_loop_rounds 1 ?_
    rw [rounds_succ]
    go_wp2_with (go_at_call 175; refine hins.mono ?_; rintro e w' ⟨rfl, n, os, rfl⟩)
    refine wp_loop_rounds 1 ?_
    rw [rounds_succ]
    go_wp2_with fail
    go_end0
    exact ⟨rfl, n, os, rfl⟩
  clear hins hH
  generalize sortA d = r at hst ⊢
  go_enter Tryz.func112, Tryz.ntmps112
  go_wp2_with (go_at_call 158; refine hst.mono ?_; rintro e w' ⟨rfl, n, os, rfl⟩)
  go_end0
  exact ⟨rfl, n, os, rfl⟩

set_option maxRecDepth 100000 in
set_option maxHeartbeats 1000000 in
theorem insEndDe (A : Option Addr) (cap : Nat) (w : World) :
    Calls Tryz.prog 175 #[.slice A 20 cap, .int .i64 20, .int .i64 20, .func (.func 113) #[] #[]] w fun e w' => e = .returned (.tuple #[]) ∧ w' = w := by
  go_enter Tryz.func175, Tryz.ntmps175
  go_wp2_with fail
  refine wp_loop_rounds 1 ?_
  rw [rounds_succ]
  go_wp2_with fail
  go_end0
  exact ⟨rfl, rfl⟩

set_option maxRecDepth 100000 in
set_option maxHeartbeats 1000000 in
theorem stableDe_eq (g cap : Nat) (d : Array (Found DecR)) (w : World) (hH : Go.Sort.HoldsK fdeC 14 w g 0 d) (hg : g < w.heap.size) (hd : d.size = 20) :
    Calls Tryz.prog 112 #[.slice (some ⟨g, 0, none⟩) d.size cap, .func (.func 113) #[] #[]] w fun e w' => e = .returned (.tuple #[]) ∧ ∃ n os, w' = sortWorldK fdeC 14 w g 0 n (sortA d) os := by
  have hins : Calls Tryz.prog 175 #[.slice (some ⟨g, 0, none⟩) d.size cap, .int .i64 (0 : Nat), .int .i64 (d.size : Nat), .func (.func 113) #[] #[]] w fun e w' => e = .returned (.tuple #[]) ∧ ∃ n os, w' = sortWorldK fdeC 14 w g 0 n (sortA d) os :=
    AnyQ.insertionSortCmpFunc Tryz.insDecision 14 Tryz.isAgg156 Tryz.sizeOf156 fdeC fde_len fde_one cmpF 113 #[] g 0 cap 0 d.size d w (enters_of Tryz.func113 (by kernel_rfl) rfl) (fun _ _ _ _ x y => cmpDe_any x y _) hH hg (Nat.zero_le _) (Nat.le_refl _) (by omega)
  have hst : Calls Tryz.prog 158 #[.slice (some ⟨g, 0, none⟩) d.size cap, .int .i64 (d.size : Nat), .func (.func 113) #[] #[]] w fun e w' => e = .returned (.tuple #[]) ∧ ∃ n os, w' = sortWorldK fdeC 14 w g 0 n (sortA d) os := by
    clear hH
    generalize sortA d = r at hins ⊢
    rw [hd, show ((20 : Nat) : Int) = 20 from rfl, show ((0 : Nat) : Int) = 0 from rfl] at hins
    rw [hd, show ((20 : Nat) : Int) = 20 from rfl]
    go_enter Tryz.func158, Tryz.ntmps158
    go_wp2_with fail
    refine wp_loop_rounds 2 ?_
    rw [rounds_succ]
    go_wp2_with (go_at_call 175; refine hins.mono ?_; rintro e w' ⟨rfl, n, os, rfl⟩)
    rw [rounds_succ]
    go_wp2_with (go_at_call 175; refine (insEndDe _ _ _).mono ?_; rintro e w' ⟨rfl, rfl⟩)
    refine wp_loop_rounds 1 ?_
    rw [rounds_succ]
    go_wp2_with fail
    go_end0
    exact ⟨rfl, n, os, rfl⟩
  clear hins hH
  generalize sortA d = r at hst ⊢
  have hd' : d.size ≤ 20 := by omega
  clear hd
  go_enter Tryz.func112, Tryz.ntmps112
  go_wp2_with (go_at_call 158; refine hst.mono ?_; rintro e w' ⟨rfl, n, os, rfl⟩)
  go_end0
  exact ⟨rfl, n, os, rfl⟩

theorem stableDe_any (g cap : Nat) (d : Array (Found DecR)) (w : World) (hH : Go.Sort.HoldsK fdeC 14 w g 0 d) (hg : g < w.heap.size) (hd : d.size ≤ 20) :
    Calls Tryz.prog 112 #[.slice (some ⟨g, 0, none⟩) d.size cap, .func (.func 113) #[] #[]] w fun e w' => e = .returned (.tuple #[]) ∧ ∃ n os, w' = sortWorldK fdeC 14 w g 0 n (sortA d) os := by
  rcases Nat.lt_or_eq_of_le hd with h | h
  · exact stableDe_lt g cap d w hH hg h
  · exact stableDe_eq g cap d w hH hg h

set_option maxRecDepth 100000 in
set_option maxHeartbeats 1000000 in
theorem stableDe_nil (w : World) :
    Calls Tryz.prog 112 #[.slice none 0 0, .func (.func 113) #[] #[]] w fun e w' => e = .returned (.tuple #[]) ∧ w' = w := by
  have hins : Calls Tryz.prog 175 #[.slice none 0 0, .int .i64 0, .int .i64 0, .func (.func 113) #[] #[]] w fun e w' => e = .returned (.tuple #[]) ∧ w' = w := by
    go_enter Tryz.func175, Tryz.ntmps175
    go_wp2_with fail
    refine wp_loop_rounds 1 ?_
    rw [rounds_succ]
    go_wp2_with fail
    go_end0
    exact ⟨rfl, rfl⟩
  have hst : Calls Tryz.prog 158 #[.slice none 0 0, .int .i64 0, .func (.func 113) #[] #[]] w fun e w' => e = .returned (.tuple #[]) ∧ w' = w := by
    go_enter Tryz.func158, Tryz.ntmps158
    go_wp2_with fail
    refine wp_loop_rounds 1 ?_
    rw [rounds_succ]
    go_wp2_with (go_at_call 175; refine hins.mono ?_; rintro e w' ⟨rfl, hw⟩; rw [hw])
    refine wp_loop_rounds 1 ?_
    rw [rounds_succ]
    go_wp2_with fail
    go_end0
    exact ⟨rfl, rfl⟩
  go_enter Tryz.func112, Tryz.ntmps112
  go_wp2_with (go_at_call 158; refine hst.mono ?_; rintro e w' ⟨rfl, hw⟩; rw [hw])
  go_end0
  exact ⟨rfl, rfl⟩

/-- Is an item wanted? -/
def wantDe (key : Int) (x : ItemR) : Bool := decide (x.kind = 3) && decide (x.dec.server = key)
structure WantFDe (w : World) (x : ItemR) (w' : World) : Prop where
  q : Q w w'
  it : Blk w' w.heap.size 47 x.cells.toArray
  b : Blk w' (w.heap.size + 1 + 1) 45 x.dec.cells.toArray
  r : ∃ cs : List Value, cs.length = 12 ∧ Blk w' (w.heap.size + 1) 45 cs.toArray
structure WantWDe (w0 : World) (x : ItemR) where
  w : World
  f : WantFDe w0 x w
set_option maxRecDepth 100000 in
set_option maxHeartbeats 2000000 in
theorem wantDe_any (p1 : Nat) (key : Int) (x : ItemR) (w : World) (h1 : w.cell? ⟨p1, 0, none⟩ = some (.int .i64 key)) (hp1 : p1 < w.heap.size) :
    Calls Tryz.prog 80 #[.agg (itA x), .pointer (some ⟨p1, 0, none⟩)] w fun e w' => e = .returned (.tuple #[.agg (decA x.dec), .int .i64 x.dec.number, .bool (wantDe key x)]) ∧ Q w w' := by
  have hbi := Blk.new w 47 (itA x)
  have hq1 := q_new w (itA x) 47
  have hbr := Blk.new' (g := w.heap.size + 1) (w.alloc (.cells (itA x) 47)) 45 (decA dec0) (by simp)
  have hq2 := q_new (w.alloc (.cells (itA x) 47)) (decA dec0) 45
  have hbi := hbi.q hq2
  have hq := Q.trans hq1 hq2
  clear hq1 hq2
  obtain ⟨w2, hw2⟩ : ∃ w2, w2 = (w.alloc (.cells (itA x) 47)).alloc (.cells (decA dec0) 45) := ⟨_, rfl⟩
  rw [← hw2] at hbi hbr hq
  have hw2s : w2.heap.size = w.heap.size + 1 + 1 := by rw [hw2]; simp
  have hLd : ∀ y : Wd w2, (Instr.loadAt 45 (.pointer (some ⟨w.heap.size, 37, none⟩))).run Tryz.prog y.w = .ok (.agg (decA x.dec)) y.w := item_dec hbi.lt (Blk.range hbi)
  have HX := Lib.hid hw2
  clear hw2
  have hbb := Blk.new' (g := w.heap.size + 1 + 1) w2 45 dec0.cells.toArray hw2s.symm
  go_enter Tryz.func80, Tryz.ntmps80
  go_upto_region 1 with (fail)
  refine (show Code.wp _ _ _ _ w2 → Code.wp _ _ _ _ _ from fun h => by rw [HX.out] at h; exact h) ?_
  go_wp2_with (first | (refine wpList_load_run 45 (.tmp 7) (.pointer (some ⟨w.heap.size, 37, none⟩)) (.agg (decA x.dec)) ?_ ?_ ?_ ?_ ?_; rfl; rfl; rfl; exact hLd ⟨_, Q.refl _⟩) | (refine wpList_store_blk hbb rfl 45 (.tmp 6) (.tmp 8) x.dec.cells rfl rfl rfl (by kernel_rfl) (dec_all _) (Nat.le_refl 12) ?_))
  intro W hW hbel
  rw [splice_all _ _ (by rfl)] at hW
  have hqW2 : Q w2 W := hbel _ _ (by omega) (q_new _ _ _)
  have hF : WantFDe w x W := ⟨Q.trans hq hqW2, hbi.q hqW2, hW, dec0.cells, rfl, hbr.q hqW2⟩
  clear hW hbel hqW2 hbb hLd hbr hq HX hw2s
  have hFd : ∃ y : WantWDe w x, ({ W with drawn := W.drawn + 1 } : World) = y.w := ⟨⟨_, ⟨hF.q.drew, hF.it, hF.b, hF.r⟩⟩, rfl⟩
  have cK : ∀ y : WantWDe w x, y.w.cell? ⟨w.heap.size, 0, none⟩ = some (.int .i64 x.kind) := fun y => y.f.it.cell 0
  have cA : ∀ y : WantWDe w x, y.w.cell? ⟨w.heap.size + 1 + 1, 0, none⟩ = some (.int .i64 x.dec.server) := fun y => y.f.b.cell 0
  have cR : ∀ y : WantWDe w x, y.w.cell? ⟨w.heap.size + 1 + 1, 1, none⟩ = some (.int .i64 x.dec.number) := fun y => y.f.b.cell 1
  have c1 : ∀ y : WantWDe w x, y.w.cell? ⟨p1, 0, none⟩ = some (.int .i64 key) := fun y => (y.f.q.cell (p := ⟨p1, 0, none⟩) hp1).trans h1
  have hLb : ∀ z, (∃ y : WantWDe w x, z = y.w) → (Instr.loadAt 45 (.pointer (some ⟨w.heap.size + 1 + 1, 0, none⟩))).run Tryz.prog z = .ok (.agg (decA x.dec)) z := by
    rintro z ⟨y, rfl⟩
    exact Wd.load (P := Tryz.prog) (w0 := y.w) y.f.b.lt (Blk.range y.f.b) Tryz.underlying45 rfl (by kernel_rfl) ⟨y.w, Q.refl _⟩
  have HR : Hid (wantDe key x = (decide (x.kind = 3) && decide (x.dec.server = key))) := Lib.hid rfl
  haveI hNE : Nonempty (WantWDe w x) := ⟨⟨W, hF⟩⟩
  clear hF h1 hbi
  by_cases hk : x.kind = 3
  · rw [decide_eq_true hk, Bool.true_and] at HR
    go_wp2_with fail
    refine wp_region_reads (S := fun w' => ∃ y : WantWDe w x, w' = y.w) 12 (by kernel_rfl) (by kernel_rfl) (by intro c a d v w h; cases d <;> exact h) hFd ?_
    simp only [List.take_succ_cons, List.take_zero]
    refine wpQuiet_load_S 45 (.tmp 6) (.pointer (some ⟨w.heap.size + 1 + 1, 0, none⟩)) (.agg (decA x.dec)) rfl rfl rfl hLb ?_
    dsimp only [Act.put]
    simp only [List.setIfInBounds_toArray, List.set_cons_succ, List.set_cons_zero]
    repeat (go_big_quiet_step (fail))
    refine wpQuiet_nil ?_
    rintro w' ⟨y, rfl⟩
    obtain ⟨cs, hcs, hbr⟩ := y.f.r
    refine held_one 12 rfl (by kernel_rfl) rfl (fun K' hK' => ?_)
    refine wp_store_mid 45 (.tmp 3) (.tmp 9) rfl (w.heap.size + 1) 0 (decA x.dec) rfl rfl (show y.w.there (w.heap.size + 1) 0 12 by simpa using hbr.there (n := 12) (Nat.le_of_eq hcs.symm)) (by kernel_rfl) (dec_all _) ?_
    have hsc : Blk (y.w.setCells (w.heap.size + 1) 0 x.dec.cells) (w.heap.size + 1) 45 x.dec.cells.toArray := by
      have := Blk.setCells x.dec.cells 0 _ y.w hbr (Nat.le_of_eq (by rw [hcs]; rfl))
      rwa [splice_all _ _ (by rw [hcs]; rfl)] at this
    have hfar := fun b (hne : b ≠ w.heap.size + 1) => setCells_far (g := w.heap.size + 1) hne x.dec.cells 0 y.w
    have hqs : Q w (y.w.setCells (w.heap.size + 1) 0 x.dec.cells) := below_setCells (Nat.le_succ _) x.dec.cells 0 w y.w y.f.q
    have hFN : WantFDe w x (y.w.setCells (w.heap.size + 1) 0 x.dec.cells) := ⟨hqs, (hfar _ (by omega)).trans y.f.it, (hfar _ (by omega)).trans y.f.b, x.dec.cells, rfl, hsc⟩
    refine hK' _ _ ⟨⟨_, hFN⟩, rfl⟩ ?_
    clear hK' K' hbr hfar
    have HZ := Lib.hid hsc
    have HQ := Lib.hid hqs
    clear hsc hqs
    simp only [Act.put, List.setIfInBounds_toArray, List.set_cons_succ, List.set_cons_zero]
    refine held_pure 13 (v := .int .i64 x.dec.number) rfl (by kernel_rfl) (by kernel_rfl) (by kernel_rfl) (by intro c a d v w h; cases d <;> exact h) rfl ⟨⟨_, hFN⟩, rfl⟩ (fun w => by rfl) ?_
    simp only [Act.put, List.setIfInBounds_toArray, List.set_cons_succ, List.set_cons_zero]
    refine held_pure 14 (v := .bool (x.dec.server == key)) rfl (by kernel_rfl) (by kernel_rfl) (by kernel_rfl) (by intro c a d v w h; cases d <;> exact h) rfl ⟨⟨_, hFN⟩, rfl⟩ (fun w => by rfl) ?_
    simp only [Act.put, List.setIfInBounds_toArray, List.set_cons_succ, List.set_cons_zero]
    refine wpAnyH_done (by kernel_rfl) ?_ _
    go_wp2_with fail
    exact bodyPost_ret (results_row_tmp2 rfl _ _ (w.heap.size + 1) 45 (decA x.dec) (0, 0) _ _ _ rfl rfl rfl HZ.out Tryz.underlying45 rfl (by kernel_rfl)) rfl ⟨by rw [HR.out, ← beq_int]; rfl, HQ.out⟩
  · rw [decide_eq_false hk, Bool.false_and] at HR
    have hkb : (x.kind == 3) = false := by simpa using hk
    go_wp2_with fail
    refine wp_region_reads (S := fun w' => ∃ y : WantWDe w x, w' = y.w) 12 (by kernel_rfl) (by kernel_rfl) (by intro c a d v w h; cases d <;> exact h) hFd ?_
    simp only [List.take_succ_cons, List.take_zero]
    refine wpQuiet_load_S 45 (.tmp 6) (.pointer (some ⟨w.heap.size + 1 + 1, 0, none⟩)) (.agg (decA x.dec)) rfl rfl rfl hLb ?_
    dsimp only [Act.put]
    simp only [List.setIfInBounds_toArray, List.set_cons_succ, List.set_cons_zero]
    repeat (go_big_quiet_step (fail))
    refine wpQuiet_nil ?_
    rintro w' ⟨y, rfl⟩
    obtain ⟨cs, hcs, hbr⟩ := y.f.r
    refine held_one 12 rfl (by kernel_rfl) rfl (fun K' hK' => ?_)
    refine wp_store_mid 45 (.tmp 3) (.tmp 9) rfl (w.heap.size + 1) 0 (decA x.dec) rfl rfl (show y.w.there (w.heap.size + 1) 0 12 by simpa using hbr.there (n := 12) (Nat.le_of_eq hcs.symm)) (by kernel_rfl) (dec_all _) ?_
    have hsc : Blk (y.w.setCells (w.heap.size + 1) 0 x.dec.cells) (w.heap.size + 1) 45 x.dec.cells.toArray := by
      have := Blk.setCells x.dec.cells 0 _ y.w hbr (Nat.le_of_eq (by rw [hcs]; rfl))
      rwa [splice_all _ _ (by rw [hcs]; rfl)] at this
    have hfar := fun b (hne : b ≠ w.heap.size + 1) => setCells_far (g := w.heap.size + 1) hne x.dec.cells 0 y.w
    have hqs : Q w (y.w.setCells (w.heap.size + 1) 0 x.dec.cells) := below_setCells (Nat.le_succ _) x.dec.cells 0 w y.w y.f.q
    have hFN : WantFDe w x (y.w.setCells (w.heap.size + 1) 0 x.dec.cells) := ⟨hqs, (hfar _ (by omega)).trans y.f.it, (hfar _ (by omega)).trans y.f.b, x.dec.cells, rfl, hsc⟩
    refine hK' _ _ ⟨⟨_, hFN⟩, rfl⟩ ?_
    clear hK' K' hbr hfar
    have HZ := Lib.hid hsc
    have HQ := Lib.hid hqs
    clear hsc hqs
    simp only [Act.put, List.setIfInBounds_toArray, List.set_cons_succ, List.set_cons_zero]
    refine held_pure 13 (v := .int .i64 x.dec.number) rfl (by kernel_rfl) (by kernel_rfl) (by kernel_rfl) (by intro c a d v w h; cases d <;> exact h) rfl ⟨⟨_, hFN⟩, rfl⟩ (fun w => by rfl) ?_
    simp only [Act.put, List.setIfInBounds_toArray, List.set_cons_succ, List.set_cons_zero]
    refine held_pure 14 (v := .bool false) rfl (by kernel_rfl) (by kernel_rfl) (by kernel_rfl) (by intro c a d v w h; cases d <;> exact h) rfl ⟨⟨_, hFN⟩, rfl⟩ (fun w => by rfl) ?_
    simp only [Act.put, List.setIfInBounds_toArray, List.set_cons_succ, List.set_cons_zero]
    refine wpAnyH_done (by kernel_rfl) ?_ _
    go_wp2_with fail
    exact bodyPost_ret (results_row_tmp2 rfl _ _ (w.heap.size + 1) 45 (decA x.dec) (0, 0) _ _ _ rfl rfl rfl HZ.out Tryz.underlying45 rfl (by kernel_rfl)) rfl ⟨by rw [HR.out]; rfl, HQ.out⟩

def foundDe (x : ItemR) : Found DecR := ⟨x.dec.number, digOf x, x.dec⟩
def takeDe (key : Int) (l : List ItemR) : List (Found DecR) := (l.filter fun x => wantDe key x && itemRight x).map foundDe
theorem takeDe_step (key : Int) (l : List ItemR) (j : Nat) (h : j < l.length) : takeDe key (l.take (j + 1)) = takeDe key (l.take j) ++ if wantDe key l[j] && itemRight l[j] then [foundDe l[j]] else [] := by
  unfold takeDe
  rw [List.take_succ_eq_append_getElem h, List.filter_append, List.map_append]
  congr 1
  cases hw : wantDe key l[j] && itemRight l[j] <;> simp [List.filter, hw]
theorem takeDe_le (key : Int) (l : List ItemR) (j : Nat) : (takeDe key (l.take j)).length ≤ j := by
  unfold takeDe
  rw [List.length_map]
  refine Nat.le_trans (List.length_filter_le _ _) ?_
  rw [List.length_take]
  omega
def sortDe (l : List (Found DecR)) : List (Found DecR) := (sortA l.toArray).toList
def listDe (key : Int) (l : List ItemR) : List DecR := (sortDe (takeDe key l)).map (·.val)
theorem sortDe_length (l : List (Found DecR)) : (sortDe l).length = l.length := by
  unfold sortDe sortA Go.Sort.insertionSort
  rw [Array.length_toList, size_insO _ _ _ _ _ _ rfl, List.size_toArray]

theorem sortDe_nil : sortDe [] = [] := List.length_eq_zero_iff.1 (sortDe_length [])
/-- The sort, of an own row. -/
theorem sortedDe_any (A : Option Addr) (c m base : Nat) (l : List (Found DecR)) (w : World) (hm : m = l.length) (h20 : m ≤ 20) (h : Owns w base 156 14 (.slice A m c) m (l.flatMap fdeC)) (hB : base ≤ w.heap.size) :
    Calls Tryz.prog 112 #[.slice A m c, .func (.func 113) #[] #[]] w fun e w' => e = .returned (.tuple #[]) ∧ (RowsAt w' A 14 fdeC (sortDe l) ∧ Below base w w') := by
  rcases h.2 with ⟨e1, h0⟩ | ⟨g, cap, cur, fz, hv, hb, hg, _⟩
  · injection e1 with hA _ hc
    subst hA hc
    have hl : l = [] := List.length_eq_zero_iff.1 (by omega)
    subst hl
    subst hm
    refine (stableDe_nil w).mono ?_
    rintro e w' ⟨rfl, rfl⟩
    exact ⟨rfl, by rw [sortDe_nil]; exact RowsAt.nil _ _ _ _, Below.refl _ _⟩
  · injection hv with hA _ hc
    subst hA
    rcases Nat.eq_zero_or_pos m with h0 | h0
    · have hl : l = [] := List.length_eq_zero_iff.1 (by omega)
      subst hl
      have hH : Go.Sort.HoldsK fdeC 14 w g 0 (#[] : Array (Found DecR)) := fun t ht => by rw [Go.Sort.size_flatK] at ht; simp at ht
      have := stableDe_any g c #[] w hH (Array.getElem?_eq_some_iff.1 hg).1 (by simp)
      subst hm
      refine this.mono ?_
      rintro e w' ⟨rfl, n, os, rfl⟩
      exact ⟨rfl, by rw [sortDe_nil]; exact RowsAt.nil _ _ _ _, below_sort (Below.refl _ _) hb hB⟩
    · obtain ⟨hH, hb', hg'⟩ := holds_of fde_len h hm h0
      subst hm
      have hs : (l.toArray).size = l.length := by simp
      have hsa : (sortA l.toArray).size = l.toArray.size := by
        unfold sortA Go.Sort.insertionSort
        rw [size_insO _ _ _ _ _ _ rfl]
      have := stableDe_any g c l.toArray w hH hg' (by rw [hs]; exact h20)
      rw [hs] at this
      refine this.mono ?_
      rintro e w' ⟨rfl, n, os, rfl⟩
      refine ⟨rfl, rows_of fde_len (holdsK_sortWorldK_c fdeC 14 w g 0 l.toArray _ n os hH hg' hsa) ?_, below_sort (Below.refl _ _) hb hB⟩
      exact Nat.lt_of_lt_of_le hg' (size_sortWorldK_c fdeC 14 w g 0 n _ os)

theorem foundDe_info : (Tryz.prog.info? 156).map (fun i => (i.zero, i.size, i.bytes)) = some (some (.agg (fdeC default).toArray), 14, 160) := by kernel_rfl
theorem valDe_info : (Tryz.prog.info? 45).map (fun i => (i.zero, i.size, i.bytes)) = some (some (.agg (decA dec0)), 12, 136) := by kernel_rfl
theorem fde_all (x : Found DecR) : (fdeC x).toArray.all (·.oneCell') = true := by
  rw [Array.all_eq_true_iff_forall_mem]
  intro v hv
  exact fde_one x v (by simpa using hv)
theorem buildDe_found (n : Int) (d : ByteArray) (b : DecR) (w : World) : (Instr.build 156 #[(0, .int .i64 n), (1, .string d), (2, .agg (decA b))]).run Tryz.prog w = .ok (.agg (fdeC ⟨n, d, b⟩).toArray) w := by kernel_rfl
theorem bsDe_found (x : Found DecR) (w : World) : (Instr.buildSlice 153 1 #[(0, .agg (fdeC x).toArray)]).run Tryz.prog w = .ok (.slice (some ⟨w.heap.size, 0, none⟩) 1 1) (w.alloc (.cells (fdeC x).toArray 156)) := by kernel_rfl
theorem bsDe_val (x : DecR) (w : World) : (Instr.buildSlice 22 1 #[(0, .agg (decA x))]).run Tryz.prog w = .ok (.slice (some ⟨w.heap.size, 0, none⟩) 1 1) (w.alloc (.cells (decA x) 45)) := by kernel_rfl
theorem valDe_len (x : DecR) : x.cells.length = 12 := rfl
theorem valDe_one (x : DecR) : ∀ v ∈ x.cells, v.oneCell' = true := by
  have := dec_all x
  rw [Array.all_eq_true_iff_forall_mem] at this
  intro v hv
  exact this v (by simpa using hv)

/-- What hands back a list of ballots. -/
def ListDeAre (l : List DecR) (w : World) (e : Ending) (w' : World) : Prop := ∃ (A : Option Addr) (c : Nat), e = .returned (.slice A l.length c) ∧ l.length ≤ c ∧ c ≤ maxLen ∧ RowsAt w' A 12 DecR.cells l ∧ Q w w'
set_option maxRecDepth 100000 in
set_option maxHeartbeats 2000000 in
theorem pickDe_any (k : KR) (p1 : Nat) (key : Int) (w : World) (hT : Tab w) (hK : KIn w k) (h1 : w.cell? ⟨p1, 0, none⟩ = some (.int .i64 key)) (hp1 : p1 < w.heap.size) (hn : k.l.length ≤ 20) :
    Calls Tryz.prog 79 #[.agg (knA k), .func (.func 80) #[] #[.pointer (some ⟨p1, 0, none⟩)]] w (ListDeAre (listDe key k.l) w) := by
  obtain ⟨w1, x, hx, hq1, hbk⟩ := boxedB w 28 k.cells
  have hx : w.alloc (.cells (knA k) 28) = x.w := hx
  have cI : ∀ y : Wd w1, y.w.cell? ⟨w.heap.size, 1, none⟩ = some (.slice k.iA k.l.length k.iC) := fun y => (y.blk hbk).cell 1
  have hKy : ∀ y : Wd w1, KIn y.w k := fun y => hK.q (Q.trans hq1 y.q)
  have hTy : ∀ y : Wd w1, Tab y.w := fun y => hT.q (Q.trans hq1 y.q)
  have hW1 : ∀ y : Wd w1, y.w.cell? ⟨p1, 0, none⟩ = some (.int .i64 key) := fun y => ((Q.trans hq1 y.q).cell (p := ⟨p1, 0, none⟩) hp1).trans h1
  have hP1 : ∀ y : Wd w1, p1 < y.w.heap.size := fun y => Nat.lt_of_lt_of_le hp1 (Q.trans hq1 y.q).size
  have HQ := Lib.hid hq1
  obtain ⟨i0, hi, hz0, hz1, hz2⟩ := info_parts foundDe_info
  obtain ⟨j0, hji, hy0, hy1, hy2⟩ := info_parts valDe_info
  have e99 : ∀ args w, (callFunc 80 args).run Tryz.prog w = .ok (.enter 80 args) w := enters_of Tryz.func80 (by kernel_rfl) rfl
  clear hbk hq1 h1 hp1
  go_enter Tryz.func79, Tryz.ntmps79
  go_wp2_with fail
  go_loopw [5, 17] (fun a i wr => ∃ (j c m : Nat) (A : Option Addr) (z : Wd w1), a = .slice A m c ∧ i = .int .i64 j ∧ wr = z.w ∧ j ≤ k.l.length ∧ m ≤ j ∧ m ≤ c ∧ c ≤ maxLen ∧ Hid (m = (takeDe key (k.l.take j)).length) ∧ Owns z.w w1.heap.size 156 14 (.slice A m c) m ((takeDe key (k.l.take j)).flatMap fdeC)) (fun _ i _ => k.l.length - (intOf i).toNat)
  case atStart => exact ⟨0, 0, 0, none, x, rfl, rfl, rfl, Nat.zero_le _, Nat.zero_le _, Nat.zero_le _, Nat.zero_le _, Lib.hid rfl, Owns.nil_ _ _ _ _⟩
  case round =>
    obtain ⟨j, c, m, A, z, rfl, rfl, rfl, hj, hmj, hmc, hcm, hm, hown⟩ := hrel
    by_cases hlt : j < k.l.length
    · obtain ⟨b, o, eA, hb, hld⟩ := (hKy z).items.load j hlt
      have hio := fun y : Wd z.w => ((hKy z).items.each _ (List.getElem_mem hlt)).q y.q
      rw [eA]
      have hTz : ∀ y : Wd z.w, Tab y.w := fun y => hTy ⟨y.w, Q.trans z.q y.q⟩
      have hzs := z.q.size
      have HTS := Lib.hid (takeDe_step key k.l j hlt)
      generalize k.l[j] = it at *
      go_wp2_with (first | (refine wpList_load_run 47 (.tmp 19) (.pointer (some ⟨b, o + j * 49, none⟩)) (.agg (itA it)) ?_ ?_ ?_ ?_ ?_; rfl; rfl; rfl; exact hld ⟨_, Q.refl _⟩) | (refine wpList_store_blk (Blk.new z.w 47 item0.cells.toArray) rfl 47 (.tmp 7) (.tmp 20) it.cells rfl rfl rfl (by kernel_rfl) (it_all _) (Nat.le_refl 49) ?_))
      intro W hW hbel
      rw [splice_all _ _ (by rfl)] at hW
      have hqz : Q z.w W := hbel _ _ (Nat.le_refl _) (q_new _ _ _)
      have hq3 : Q w1 W := Q.trans z.q hqz
      have hLi : ∀ y : Wd W, (Instr.loadAt 47 (.pointer (some ⟨z.w.heap.size, 0, none⟩))).run Tryz.prog y.w = .ok (.agg (itA it)) y.w := Wd.load hW.lt (Blk.range hW) Tryz.underlying47 rfl (by kernel_rfl)
      have hcl : ∀ y : Wd W, Calls Tryz.prog 80 #[.agg (itA it), .pointer (some ⟨p1, 0, none⟩)] y.w fun e w' => e = .returned (.tuple #[.agg (decA it.dec), .int .i64 it.dec.number, .bool (wantDe key it)]) ∧ Q y.w w' := fun y => wantDe_any p1 key it y.w (hW1 ⟨y.w, Q.trans hq3 y.q⟩) (hP1 ⟨y.w, Q.trans hq3 y.q⟩)
      have hWs := hq3.size
      obtain ⟨v, hv⟩ := Wd.first W
      rw [hv]
      clear hbel hld hv eA hb cI hW1 hP1
      generalize hwt : wantDe key it = wt at *
      go_wp2_with (first | (refine wpList_load_run 47 (.tmp 7) (.pointer (some ⟨z.w.heap.size, 0, none⟩)) (.agg (itA it)) ?_ ?_ ?_ ?_ ?_; rfl; rfl; rfl; exact hLi _) | (go_at_fn 80; refine (hcl _).mono ?_; rintro e w' ⟨rfl, hq2⟩; obtain ⟨y, rfl⟩ := Wd.next _ hq2; clear hq2) | (refine wpList_store_blk (Blk.new y.w 45 dec0.cells.toArray) rfl 45 (.tmp 8) (.tmp 25) it.dec.cells rfl rfl rfl (by kernel_rfl) (dec_all _) (Nat.le_refl 12) ?_))
      intro W2 hB2 hbel2
      rw [splice_all _ _ (by rfl)] at hB2
      have hqy : Q W W2 := hbel2 _ _ y.q.size (Q.trans y.q (q_new _ _ _))
      have hq4 : Q w1 W2 := Q.trans hq3 hqy
      have hLi2 : ∀ y : Wd W2, (Instr.loadAt 47 (.pointer (some ⟨z.w.heap.size, 0, none⟩))).run Tryz.prog y.w = .ok (.agg (itA it)) y.w := fun y => hLi ⟨y.w, Q.trans hqy y.q⟩
      have hLb2 : ∀ u : Wd W2, (Instr.loadAt 45 (.pointer (some ⟨y.w.heap.size, 0, none⟩))).run Tryz.prog u.w = .ok (.agg (decA it.dec)) u.w := Wd.load hB2.lt (Blk.range hB2) Tryz.underlying45 rfl (by kernel_rfl)
      have hIi : ∀ u : Wd W2, ItemIn u.w it := fun u => hio ⟨u.w, Q.trans (Q.trans hqz hqy) u.q⟩
      have hdg2 : ∀ u : Wd W2, Calls Tryz.prog 17 #[.agg (itA it)] u.w fun e w' => e = .returned (.string (digOf it)) ∧ Q u.w w' := fun u => digest_any it u.w (hTz ⟨u.w, Q.trans (Q.trans hqz hqy) u.q⟩) (hIi u)
      have hownW : ∀ u : Wd W2, Owns u.w w1.heap.size 156 14 (.slice A m c) m ((takeDe key (k.l.take j)).flatMap fdeC) := fun u => hown.q (Q.trans (Q.trans hqz hqy) u.q)
      have hrg : ∀ (r : Bool), itemRight it = r → ∀ u : Wd W2, Calls Tryz.prog 31 #[.agg (itA it)] u.w fun e w' => e = .returned (.bool r) ∧ Q u.w w' := fun r hr u => right_at it r u.w (hIi u) hr
      have HQ4 := Lib.hid hq4
      have hWs2 := hq4.size
      obtain ⟨u, hu⟩ := Wd.first W2
      rw [hu]
      clear hbel2 hu hqy hq4 hq3 hqz hLi hcl hio hTz hown hTy hW hB2
      cases wt
      · have HTE := Lib.hid (show takeDe key (k.l.take (j + 1)) = takeDe key (k.l.take j) by rw [HTS.out]; simp)
        go_wp2_with fail
        exact ⟨⟨j + 1, c, m, A, ⟨u.w, Q.trans HQ4.out u.q⟩, rfl, by go_num, rfl, by omega, by omega, hmc, hcm, Lib.hid (by rw [HTE.out]; exact hm.out), by rw [HTE.out]; exact hownW u⟩, by simp only [intOf]; omega⟩
      · cases hr : itemRight it
        · have HTE := Lib.hid (show takeDe key (k.l.take (j + 1)) = takeDe key (k.l.take j) by rw [HTS.out, hr]; simp)
          have hrg0 := hrg false hr
          clear hrg hr
          go_wp2_with (first | (refine wpList_load_run 47 (.tmp 7) (.pointer (some ⟨z.w.heap.size, 0, none⟩)) (.agg (itA it)) ?_ ?_ ?_ ?_ ?_; rfl; rfl; rfl; exact hLi2 _) | (go_at_call 31; refine (hrg0 _).mono ?_; rintro e w' ⟨rfl, hq2⟩; obtain ⟨t, rfl⟩ := Wd.next _ hq2; clear hq2))
          exact ⟨⟨j + 1, c, m, A, ⟨t.w, Q.trans HQ4.out t.q⟩, rfl, by go_num, rfl, by omega, by omega, hmc, hcm, Lib.hid (by rw [HTE.out]; exact hm.out), by rw [HTE.out]; exact hownW t⟩, by simp only [intOf]; omega⟩
        · have HTE := Lib.hid (show takeDe key (k.l.take (j + 1)) = takeDe key (k.l.take j) ++ [foundDe it] by rw [HTS.out, hr]; simp)
          have hrg0 := hrg true hr
          clear hrg hr
          go_wp2_with (first | (refine wpList_load_run 47 (.tmp 7) (.pointer (some ⟨z.w.heap.size, 0, none⟩)) (.agg (itA it)) ?_ ?_ ?_ ?_ ?_; rfl; rfl; rfl; exact hLi2 _) | (go_at_call 31; refine (hrg0 _).mono ?_; rintro e w' ⟨rfl, hq2⟩; obtain ⟨t, rfl⟩ := Wd.next _ hq2; clear hq2))
          refine wp_region_wd_parts t 2 6 (by kernel_rfl) (by kernel_rfl) (by intro c d v a w h; cases d <;> exact h) ?_
          simp only [List.take_succ_cons, List.take_zero, List.drop_succ_cons, List.drop_zero]
          refine wpPure_move (.tmp 5) (.slice A m c) rfl rfl rfl ?_
          dsimp only [Act.put]
          simp only [List.setIfInBounds_toArray, List.set_cons_succ, List.set_cons_zero]
          refine wpPure_move (.tmp 9) (.int .i64 it.dec.number) rfl rfl rfl ?_
          dsimp only [Act.put]
          simp only [List.setIfInBounds_toArray, List.set_cons_succ, List.set_cons_zero]
          refine wpPure_nil ?_
          refine wpQuiet_load_run 47 (.tmp 7) (.pointer (some ⟨z.w.heap.size, 0, none⟩)) (.agg (itA it)) rfl rfl rfl hLi2 ?_
          dsimp only [Act.put]
          simp only [List.setIfInBounds_toArray, List.set_cons_succ, List.set_cons_zero]
          go_big_quiet_step (first | (go_at_call 17; exact Wd.call _ (hdg2 _)))
          refine wpQuiet_load_run 45 (.tmp 8) (.pointer (some ⟨y.w.heap.size, 0, none⟩)) (.agg (decA it.dec)) rfl rfl rfl hLb2 ?_
          dsimp only [Act.put]
          simp only [List.setIfInBounds_toArray, List.set_cons_succ, List.set_cons_zero]
          refine wpQuiet_build_run 156 _ #[(0, .int .i64 it.dec.number), (1, .string (digOf it)), (2, .agg (decA it.dec))] _ rfl rfl (by simp only [List.map_toArray, List.map_cons, List.map_nil]; rfl) (buildDe_found (it.dec.number) (digOf it) it.dec) ?_
          dsimp only [Act.put]
          simp only [List.setIfInBounds_toArray, List.set_cons_succ, List.set_cons_zero]
          refine wpQuiet_nil ?_
          rintro w6 ⟨t2, rfl⟩
          refine wpList_buildSlice_run 153 1 _ #[(0, .agg (fdeC (foundDe it)).toArray)] _ rfl rfl (by simp only [List.map_toArray, List.map_cons, List.map_nil]; rfl) (bsDe_found (foundDe it) _) ?_
          dsimp only [Act.put]
          simp only [List.setIfInBounds_toArray, List.set_cons_succ, List.set_cons_zero]
          refine wpList_append_rows fde_len fde_one rfl (.tmp 33) (.tmp 39) 153 156 i0 _ 160 rfl Tryz.underlying153 hi hz0 hz1 hz2 rfl (by decide) (by decide) w1.heap.size (.slice A m c) m (takeDe key (k.l.take j)) rfl ((hownW t2).alloc (.cells (fdeC (foundDe it)).toArray 156)) (some ⟨t2.w.heap.size, 0, none⟩) 1 1 [foundDe it] rfl (RowsAt.one t2.w 156 (foundDe it) _ rfl) rfl (by omega) (by have := t2.q.size; simp; omega) ?_
          intro A5 c5 w5 hc5 hm5 hown5 hg5
          have hq5 : Q w1 w5 := q_grown (Q.trans (Q.trans HQ4.out t2.q) (q_new _ _ _)) (Nat.le_refl _) ((hownW t2).alloc _) hg5
          obtain ⟨y5, rfl⟩ : ∃ y5 : Wd w1, w5 = y5.w := ⟨⟨w5, hq5⟩, rfl⟩
          rw [← HTE.out] at hown5
          have HM5 : Hid (m + 1 = (takeDe key (k.l.take (j + 1))).length) := Lib.hid (by rw [HTE.out, List.length_append, ← hm.out]; rfl)
          clear hownW hg5 hq5 hdg2 hLi2 hLb2 hIi hrg0
          go_wp2_with fail
          exact ⟨⟨j + 1, c5, m + 1, A5, y5, rfl, by go_num, rfl, by omega, by omega, hc5, hm5, HM5, hown5⟩, by simp only [intOf]; omega⟩
    · have hjn : j = k.l.length := by omega
      have hm := hm.out
      rw [hjn, List.take_length] at hown hm
      have hm20 : m ≤ 20 := by omega
      have hso := sortedDe_any A c m w1.heap.size (takeDe key k.l) z.w hm hm20 hown z.q.size
      have hlen : (sortDe (takeDe key k.l)).length = m := by rw [sortDe_length]; exact hm.symm
      have HB := Lib.hid (show listDe key k.l = (sortDe (takeDe key k.l)).map (·.val) from rfl)
      have HZ := Lib.hid z.q
      generalize sortDe (takeDe key k.l) = L at hso hlen HB
      clear hown hm hjn cI hW1 hP1 hKy hTy
      go_wp2_with (first | (go_at_call 112; refine hso.mono ?_; rintro e w6 ⟨rfl, hR6, hb6⟩; have HQ6 := Lib.hid (Below.trans HZ.out hb6); clear hb6 hso; obtain ⟨y6, hy6⟩ := Wd.first w6; rw [hy6]; clear hy6) | (refine wpList_make_own _ rfl _ _ 22 rfl w6.heap.size 45 j0 _ 12 Tryz.underlying22 hji hy0 hy1 .i64 .i64 (m : Int) m rfl rfl rfl (by rw [hy2]; omega) (by simp only [maxLen]; omega) y6.q.size ?_))
      intro w7 hown0 hg0
      have hown : Owns w7 w6.heap.size 45 12 (.slice (some ⟨y6.w.heap.size, 0, none⟩) 0 m) 0 (([] : List DecR).flatMap DecR.cells) := Owns.of hown0
      have hq7 : Q w6 w7 := Below.grown y6.q hg0 y6.q.size (fun _ h => by cases h)
      obtain ⟨y7, rfl⟩ : ∃ y7 : Wd w6, w7 = y7.w := ⟨⟨w7, hq7⟩, rfl⟩
      have hRy : ∀ y : Wd w6, RowsAt y.w A 14 fdeC L := fun y => hR6.q y.q
      clear hown0 hg0 hq7 hR6
      go_wp2_with fail
      go_loopw [11, 49] (fun a i wr => ∃ (j c : Nat) (A : Option Addr) (z : Wd w6), a = .slice A j c ∧ i = .int .i64 j ∧ wr = z.w ∧ j ≤ m ∧ j ≤ c ∧ c ≤ maxLen ∧ Owns z.w w6.heap.size 45 12 (.slice A j c) j (((L.take j).map (·.val)).flatMap DecR.cells)) (fun _ i _ => m - (intOf i).toNat)
      case atStart => exact ⟨0, m, _, y7, rfl, rfl, rfl, Nat.zero_le _, Nat.zero_le _, by simp only [maxLen]; omega, hown⟩
      case round =>
        clear hown
        obtain ⟨j2, c2, A2, z2, rfl, rfl, rfl, hj2, hjc2, hcm2, hown⟩ := hrel
        by_cases hlt2 : j2 < m
        · obtain ⟨b, o, eA, hb, hcs⟩ := hRy z2 (by omega)
          have hld : ∀ y : Wd z2.w, (Instr.loadAt 156 (.pointer (some ⟨b, o + j2 * 14, none⟩))).run Tryz.prog y.w = .ok (.agg (fdeC (L[j2]'(by omega))).toArray) y.w := Wd.load hb (hcs j2 (by omega)) Tryz.underlying156 rfl (by kernel_rfl)
          have HLS := Lib.hid (show (L.take (j2 + 1)).map (·.val) = (L.take j2).map (·.val) ++ [(L[j2]'(by omega)).val] by rw [List.take_succ_eq_append_getElem (by omega), List.map_append]; rfl)
          rw [eA]
          have hzs2 := z2.q.size
          clear hcs
          generalize L[j2]'(by omega) = e2 at *
          have hbf := Blk.new z2.w 156 (fdeC default).toArray
          go_wp2_with (first | (refine wpList_load_run 156 (.tmp 51) (.pointer (some ⟨b, o + j2 * 14, none⟩)) (.agg (fdeC e2).toArray) ?_ ?_ ?_ ?_ ?_; rfl; rfl; rfl; exact hld ⟨_, Q.trans (Q.refl _) (Q.refl _)⟩) | (refine wpList_store_blk hbf rfl 156 (.tmp 13) (.tmp 52) (fdeC e2) rfl rfl rfl (by kernel_rfl) (fde_all _) (Nat.le_refl 14) ?_))
          intro W hW hbel
          rw [splice_all _ _ (by rfl)] at hW
          have hqz : Q z2.w W := hbel _ _ (Nat.le_refl _) (q_new _ _ _)
          have hq3 : Q w6 W := Q.trans z2.q hqz
          have hrv : W.rangeAt z2.w.heap.size 2 e2.val.cells := by
            have := range_sub (Blk.range hW) 2 12
            rw [Nat.zero_add] at this
            exact this
          have hLv : ∀ y : Wd W, (Instr.loadAt 45 (.pointer (some ⟨z2.w.heap.size, 2, none⟩))).run Tryz.prog y.w = .ok (.agg (decA e2.val)) y.w := Wd.load hW.lt hrv Tryz.underlying45 rfl (by kernel_rfl)
          have hownW : ∀ y : Wd W, Owns y.w w6.heap.size 45 12 (.slice A2 j2 c2) j2 (((L.take j2).map (·.val)).flatMap DecR.cells) := fun y => hown.q (Q.trans hqz y.q)
          have HQ3 := Lib.hid hq3
          have hWs := hq3.size
          obtain ⟨v, hv⟩ := Wd.first W
          rw [hv]
          clear hW hbel hld hv hqz hq3 hown hrv hbf
          go_wp2_with (first | (refine wpList_load_run 45 (.tmp 54) (.pointer (some ⟨z2.w.heap.size, 2, none⟩)) (.agg (decA e2.val)) ?_ ?_ ?_ ?_ ?_; rfl; rfl; rfl; exact hLv _) | (refine wpList_buildSlice_run 22 1 _ #[(0, .agg (decA e2.val))] _ rfl rfl (by simp only [List.map_toArray, List.map_cons, List.map_nil]; rfl) (bsDe_val e2.val _) ?_) | (at_builtin; refine wpList_append_rows valDe_len valDe_one rfl (.tmp 53) (.tmp 56) 22 45 j0 _ 136 rfl Tryz.underlying22 hji hy0 hy1 hy2 rfl (by decide) (by decide) w6.heap.size (.slice A2 j2 c2) j2 ((L.take j2).map (·.val)) rfl ((hownW v).alloc (.cells (decA e2.val) 45)) (some ⟨v.w.heap.size, 0, none⟩) 1 1 [e2.val] rfl (RowsAt.one v.w 45 e2.val _ rfl) rfl (by omega) (by have := v.q.size; simp; omega) ?_))
          intro A5 c5 w5 hc5 hm5 hown5 hg5
          have hq5 : Q w6 w5 := q_grown (Q.trans (Q.trans HQ3.out v.q) (q_new _ _ _)) (Nat.le_refl _) ((hownW v).alloc _) hg5
          obtain ⟨y5, rfl⟩ : ∃ y5 : Wd w6, w5 = y5.w := ⟨⟨w5, hq5⟩, rfl⟩
          have e5 : List.flatMap DecR.cells (List.take j2 (List.map (fun x => x.val) L)) ++ e2.val.cells = ((L.take (j2 + 1)).map (·.val)).flatMap DecR.cells := by
            rw [HLS.out, List.flatMap_append, List.map_take]
            simp
          rw [e5] at hown5
          clear hownW hg5 hq5 hLv e5
          go_wp2_with fail
          exact ⟨⟨j2 + 1, c5, A5, y5, rfl, by go_num, rfl, by omega, hc5, hm5, hown5⟩, by simp only [intOf]; omega⟩
        · have hjn : j2 = m := by omega
          have hall : L.take j2 = L := List.take_of_length_le (by omega)
          rw [hall, ← HB.out] at hown
          have hl : (listDe key k.l).length = j2 := by rw [HB.out, List.length_map, hlen, hjn]
          have hfin : ListDeAre (listDe key k.l) w (.returned (.slice A2 j2 c2)) z2.w := ⟨A2, c2, by rw [hl], by omega, hcm2, Owns.rows valDe_len hown hl.symm, Q.trans HQ.out (Below.trans HQ6.out (Below.mono z2.q (by have := HQ6.out.size; omega)))⟩
          have HF := Lib.hid hfin
          clear hfin hl hall hown
          go_wp2_with fail
          go_ret
          exact HF.out

set_option maxRecDepth 100000 in
set_option maxHeartbeats 2000000 in
theorem allDe_any (k : KR) (key : Int) (w : World) (hT : Tab w) (hK : KIn w k) (hn : k.l.length ≤ 20) :
    Calls Tryz.prog 46 #[.agg (knA k), .int .i64 key] w (ListDeAre (listDe key k.l) w) := by
  have b1 := Blk.new w 28 (knA k)
  have q1 := q_new w (knA k) 28
  have b2 := Blk.new' (g := w.heap.size + 1) (w.alloc (.cells (knA k) 28)) 3 #[.int .i64 key] (by simp)
  have q2 := q_new (w.alloc (.cells (knA k) 28)) #[.int .i64 key] 3
  have b1 := b1.q q2
  have hq := Q.trans q1 q2
  obtain ⟨w3, hw3⟩ : ∃ w3, w3 = (w.alloc (.cells (knA k) 28)).alloc (.cells #[.int .i64 key] 3) := ⟨_, rfl⟩
  rw [← hw3] at b1 b2 hq
  have hLk := Wd.load (P := Tryz.prog) (ty := 28) b1.lt (Blk.range b1) Tryz.underlying28 rfl (by kernel_rfl) ⟨w3, Q.refl w3⟩
  have hp := pickDe_any k (w.heap.size + 1) key w3 (hT.q hq) (hK.q hq) (b2.cell 0) b2.lt hn
  have HX := Lib.hid hw3
  have HQ := Lib.hid hq
  clear q1 q2 b1 b2 hq hw3
  go_enter Tryz.func46, Tryz.ntmps46
  go_upto_region 1 with (fail)
  refine (show Code.wp _ _ _ _ w3 → Code.wp _ _ _ _ _ from fun h => by rw [HX.out] at h; exact h) ?_
  go_wp2_with (first | (refine wpList_load_run 28 (.tmp 2) (.pointer (some ⟨w.heap.size, 0, none⟩)) (.agg (knA k)) ?_ ?_ ?_ ?_ ?_; rfl; rfl; rfl; exact hLk) | (go_at_call 79; refine hp.mono ?_; rintro e w' ⟨A, c, rfl, h1, h2, h3, hq4⟩))
  go_ret
  exact ⟨A, c, rfl, h1, h2, h3, Q.trans HQ.out hq4⟩
end Go.Proofs.YtjfcllanochhmaaGreatDoor.Known

namespace Go.Proofs.YtjfcllanochhmaaGreatDoor.Dec
open Go.RowKit Grp Mem _root_.Go.Proofs.YtjfcllanochhmaaGreatDoor.Code Sha Sign _root_.Go.Proofs.YtjfcllanochhmaaGreatDoor.Item _root_.Go.Proofs.YtjfcllanochhmaaGreatDoor.Known

/-- A decision without its place in memory. -/
def bare (d : DecR) : DecR := DecR.to' d none 0
theorem bare_to (d : DecR) (A : Option Addr) (c : Nat) : bare (DecR.to' d A c) = bare d := rfl
theorem bare_bare (d : DecR) : bare (bare d) = bare d := rfl
theorem msg_bare (d : DecR) : messageB (itDec (bare d)) = messageB (itDec d) := rfl
theorem right_bare (d : DecR) : itemRight (itDec (bare d)) = itemRight (itDec d) := rfl
theorem dig_bare (d : DecR) : digOf (itDec (bare d)) = digOf (itDec d) := rfl
theorem signed_bare (sv : List Int) (d : DecR) : signedB sv (itDec (bare d)) = signedB sv (itDec d) := rfl
theorem bare_eq {d d' : DecR} (h : bare d' = bare d) : d' = DecR.to' d d'.toA d'.toC := by
  cases d
  cases d'
  unfold bare DecR.to' at h
  unfold DecR.to'
  injection h
  subst_vars
  rfl
theorem dig_of_bare {d d' : DecR} (h : bare d' = bare d) : digOf (itDec d') = digOf (itDec d) := by rw [← dig_bare d', h, dig_bare]
theorem signed_of_bare (sv : List Int) {d d' : DecR} (h : bare d' = bare d) : signedB sv (itDec d') = signedB sv (itDec d) := by rw [← signed_bare sv d', h, signed_bare]

/-! ### Signing -/
def signDec (k : Int × Int) (d : DecR) : DecR := { d with e := (sigOf k (messageB (itDec d))).1, s := (sigOf k (messageB (itDec d))).2 }
theorem signDec_bare (k : Int × Int) (d : DecR) (A : Option Addr) (c : Nat) : signDec k (DecR.to' d A c) = DecR.to' (signDec k d) A c := rfl

/-! ### The valid ones -/
def validStep (sv : List Int) (acc : List DecR) (d : DecR) : List DecR := if (acc.any fun o => decide (o.number = d.number)) || !signedB sv (itDec d) then acc else acc ++ [bare d]
def validK (sv : List Int) (ds : List DecR) : List DecR := ds.foldl (validStep sv) []
theorem valid_step (sv : List Int) (ds : List DecR) (j : Nat) (h : j < ds.length) : validK sv (ds.take (j + 1)) = validStep sv (validK sv (ds.take j)) ds[j] := by
  unfold validK
  rw [List.take_succ_eq_append_getElem h, List.foldl_append]
  rfl
theorem validStep_le (sv : List Int) (acc : List DecR) (d : DecR) : (validStep sv acc d).length ≤ acc.length + 1 := by
  unfold validStep
  split
  · omega
  · simp
theorem valid_le (sv : List Int) (ds : List DecR) : ∀ j, (validK sv (ds.take j)).length ≤ j
  | 0 => by simp [validK]
  | j + 1 => by
    have ih := valid_le sv ds j
    rcases Nat.lt_or_ge j ds.length with h | h
    · rw [valid_step sv ds j h]
      have := validStep_le sv (validK sv (ds.take j)) ds[j]
      omega
    · rw [List.take_of_length_le (by omega)]
      rw [List.take_of_length_le h] at ih
      omega
end Go.Proofs.YtjfcllanochhmaaGreatDoor.Dec

namespace Go.Proofs.YtjfcllanochhmaaGreatDoor.Dec
open Go.RowKit Grp Mem _root_.Go.Proofs.YtjfcllanochhmaaGreatDoor.Code Sha Sign _root_.Go.Proofs.YtjfcllanochhmaaGreatDoor.Item _root_.Go.Proofs.YtjfcllanochhmaaGreatDoor.Known

/-- What hands back a decision that is d, its list in a block of its own. -/
def DecIs (d : DecR) (w : World) (e : Ending) (w' : World) : Prop := ∃ TA tc, e = .returned (.agg (decA (DecR.to' d TA tc))) ∧ RowsFrom w.heap.size w' TA 1 strC d.to ∧ d.to.length ≤ tc ∧ tc ≤ maxLen ∧ Q w w'
theorem dec_in {B : Nat} {w : World} {d : DecR} {A : Option Addr} {c : Nat} (h : RowsFrom B w A 1 strC d.to) (h1 : d.to.length ≤ c) (h2 : c ≤ maxLen) : DecIn w (DecR.to' d A c) := ⟨strs_of h.rows, h1, h2⟩
theorem signDec_cells (k : Int × Int) (d : DecR) : splice (itDec d).cells 47 [.int .i64 (sigOf k (messageB (itDec d))).1, .int .i64 (sigOf k (messageB (itDec d))).2] = (itDec (signDec k d)).cells := rfl

set_option maxRecDepth 100000 in
set_option maxHeartbeats 4000000 in
theorem signDec_any (k : Int × Int) (d : DecR) (w : World) (hT : Tab w) (hx : k.1 ≤ 9223372036854775807) (hy : k.2 ≤ 9223372036854775807) (hD : DecIn w d) (hs : SmallI (itDec d)) (hl : d.to.length ≤ 1000000) :
    Calls Tryz.prog 43 #[.agg (keyCs k), .agg (decA d)] w (DecIs (signDec k d) w) := by
  have hbk := Blk.new w 63 (keyCs k)
  have hq1 := q_new w (keyCs k) 63
  have hbb := Blk.new' (g := w.heap.size + 1) (w.alloc (.cells (keyCs k) 63)) 45 (decA d) (by simp)
  have hq2 := q_new (w.alloc (.cells (keyCs k) 63)) (decA d) 45
  have hbr := Blk.new' (g := w.heap.size + 1 + 1) ((w.alloc (.cells (keyCs k) 63)).alloc (.cells (decA d) 45)) 45 (decA dec0) (by simp)
  have hq3 := q_new ((w.alloc (.cells (keyCs k) 63)).alloc (.cells (decA d) 45)) (decA dec0) 45
  have hbk := (hbk.q hq2).q hq3
  have hbb := hbb.q hq3
  have hq := Q.trans (Q.trans hq1 hq2) hq3
  clear hq1 hq2 hq3
  obtain ⟨w3, hw3⟩ : ∃ w3, w3 = (((w.alloc (.cells (keyCs k) 63)).alloc (.cells (decA d) 45)).alloc (.cells (decA dec0) 45)) := ⟨_, rfl⟩
  rw [← hw3] at hbk hbb hbr hq
  have k0 : ∀ y : Wd w3, y.w.cell? ⟨w.heap.size, 0, none⟩ = some (.int .i64 k.1) := fun y => (y.blk hbk).cell 0
  have k1 : ∀ y : Wd w3, y.w.cell? ⟨w.heap.size, 1, none⟩ = some (.int .i64 k.2) := fun y => (y.blk hbk).cell 1
  have hLd : ∀ y : Wd w3, (Instr.loadAt 45 (.pointer (some ⟨w.heap.size + 1, 0, none⟩))).run Tryz.prog y.w = .ok (.agg (decA d)) y.w := Wd.load hbb.lt (Blk.range hbb) Tryz.underlying45 rfl (by kernel_rfl)
  have hBr : ∀ y : Wd w3, Blk y.w (w.heap.size + 1 + 1) 45 dec0.cells.toArray := fun y => y.blk hbr
  have hTy : ∀ y : Wd w3, Tab y.w := fun y => hT.q (Q.trans hq y.q)
  have hOf : ∀ y : Wd w3, Calls Tryz.prog 38 #[.agg (decA d)] y.w (OfDecF d y.w) := fun y => ofDec_from d y.w (hD.q (Q.trans hq y.q)) hl
  have hms := message_size _ hs
  have HQ := Lib.hid hq
  have hlt3 := hbr.lt
  obtain ⟨x, hx3⟩ : ∃ x : Wd w3, x.w = w3 := ⟨⟨w3, Q.refl _⟩, rfl⟩
  have HX := Lib.hid (hx3.trans hw3)
  clear hx3 hw3 hbk hbb hbr hq hT
  go_enter Tryz.func43, Tryz.ntmps43
  go_upto_region 1 with (fail)
  refine (show Code.wp _ _ _ _ x.w → Code.wp _ _ _ _ _ from fun h => by rw [HX.out] at h; exact h) ?_
  go_upto_region 2 with (first | (refine wpList_load_run 45 (.tmp 3) (.pointer (some ⟨w.heap.size + 1, 0, none⟩)) (.agg (decA d)) ?_ ?_ ?_ ?_ ?_; rfl; rfl; rfl; exact hLd _) | (go_at_call 38; refine (hOf _).mono ?_; rintro e w' ⟨A', c', rfl, htR, ht1, ht2, hq2⟩; obtain ⟨y, rfl⟩ := Wd.next _ hq2; clear hq2) | (refine wpList_store_blk (Blk.new y.w 47 item0.cells.toArray) rfl 47 (.tmp 5) (.tmp 7) (itDec (DecR.to' d A' c')).cells rfl rfl rfl (by kernel_rfl) (it_all _) (Nat.le_refl 49) ?_))
  intro W hW hbel
  rw [splice_all _ _ (by rfl)] at hW
  have hq3 : Q w3 W := hbel _ _ y.q.size (Q.trans y.q (q_new _ _ _))
  have hqy : Q y.w W := hbel _ _ (Nat.le_refl _) (q_new _ _ _)
  have hdi : DecIn y.w (DecR.to' d A' c') := dec_in htR ht1 ht2
  have hxs := x.q.size
  have hs' : SmallI (itDec (DecR.to' d A' c')) := ⟨hs.claim, hs.ballot, hs.dec⟩
  have hyg := y.q.size
  have hgW := hW.lt
  have k0' : ∀ z : Wd W, z.w.cell? ⟨w.heap.size, 0, none⟩ = some (.int .i64 k.1) := fun z => k0 ⟨z.w, Q.trans hq3 z.q⟩
  have k1' : ∀ z : Wd W, z.w.cell? ⟨w.heap.size, 1, none⟩ = some (.int .i64 k.2) := fun z => k1 ⟨z.w, Q.trans hq3 z.q⟩
  have hLi : ∀ z : Wd W, (Instr.loadAt 47 (.pointer (some ⟨y.w.heap.size, 0, none⟩))).run Tryz.prog z.w = .ok (.agg (itA (itDec (DecR.to' d A' c')))) z.w := Wd.load hW.lt (Blk.range hW) Tryz.underlying47 rfl (by kernel_rfl)
  have hBi : ∀ z : Wd W, Blk z.w y.w.heap.size 47 (itDec (DecR.to' d A' c')).cells.toArray := fun z => z.blk hW
  have hBr' : ∀ z : Wd W, Blk z.w (w.heap.size + 1 + 1) 45 dec0.cells.toArray := fun z => hBr ⟨z.w, Q.trans hq3 z.q⟩
  have hMs : ∀ z : Wd W, Calls Tryz.prog 73 #[.agg (itA (itDec (DecR.to' d A' c')))] z.w fun e w' => e = .returned (.string (messageB (itDec d))) ∧ Q z.w w' := fun z => message_any (itDec (DecR.to' d A' c')) z.w (hdi.q (Q.trans hqy z.q)) hs'
  have hSg := fun z : Wd W => Sign_any k (messageB (itDec d)) z.w (hTy ⟨z.w, Q.trans hq3 z.q⟩) hx hy hms
  have HQW := Lib.hid (Q.trans HQ.out hq3)
  clear hbel hW hLd hBr hTy hOf k0 k1 hs hs'
  obtain ⟨v, hv⟩ := Wd.first W
  rw [hv]
  clear hv
  go_upto_region 2 with (fail)
  refine wp_region_wd_parts v 0 6 (by kernel_rfl) (by kernel_rfl) (by intro c d v a w h; cases d <;> exact h) ?_
  simp only [List.take_succ_cons, List.take_zero, List.drop_succ_cons, List.drop_zero]
  refine wpPure_nil ?_
  repeat (first | (refine wpQuiet_load_run 47 (.tmp 5) (.pointer (some ⟨y.w.heap.size, 0, none⟩)) (.agg (itA (itDec (DecR.to' d A' c')))) ?_ ?_ ?_ ?_ ?_; rfl; rfl; rfl; exact hLi; dsimp only [Act.put]; simp only [List.setIfInBounds_toArray, List.set_cons_succ, List.set_cons_zero]) | go_big_quiet_step (first | (go_at_call 73; exact Wd.call _ (hMs _)) | (go_at_call 72; exact Wd.call _ (hSg _))))
  refine wpQuiet_nil ?_
  rintro w'' ⟨y2, rfl⟩
  go_wp2_with (refine wpList_store_far (hBi y2) rfl 37 (.tmp 13) (.tmp 11) [.int .i64 (sigOf k (messageB (itDec d))).1, .int .i64 (sigOf k (messageB (itDec d))).2] rfl rfl rfl (by kernel_rfl) (by simp [Value.oneCell']) (Nat.le_refl 49) ?_)
  intro W2 hW2 hbel2 hfar2
  rw [show [Value.int .i64 (sigOf k (messageB (itDec d))).1, Value.int .i64 (sigOf k (messageB (itDec d))).2] = [Value.int .i64 (sigOf k (messageB (itDec (DecR.to' d A' c')))).1, Value.int .i64 (sigOf k (messageB (itDec (DecR.to' d A' c')))).2] from rfl, signDec_cells] at hW2
  have hqW : Q w W2 := by
    have h0 : Below w.heap.size w y2.w := Q.trans HQW.out y2.q
    exact hbel2 _ _ (by omega) h0
  have hqd : Q y.w W2 := hbel2 _ _ (Nat.le_refl _) (Q.trans hqy y2.q)
  have ht2R := htR.q hqd
  have hrW : Blk W2 (w.heap.size + 1 + 1) 45 dec0.cells.toArray := (hfar2 _ (by omega)).trans (hBr' y2)
  have hLW := Wd.load (P := Tryz.prog) (ty := 45) (cs := (signDec k (DecR.to' d A' c')).cells) hW2.lt (range_sub (Blk.range hW2) 37 12) Tryz.underlying45 rfl (by kernel_rfl) ⟨W2, Q.refl W2⟩
  have HW := Lib.hid hqW
  clear hbel2 hfar2 hBi hBr' hLi hMs hSg hqW k0' k1'
  go_wp2_with (first | (refine wpList_load_run 45 (.tmp 14) (.pointer (some ⟨y.w.heap.size, 37, none⟩)) (.agg (decA (signDec k (DecR.to' d A' c')))) ?_ ?_ ?_ ?_ ?_; rfl; rfl; rfl; exact hLW) | (refine wpList_store_far hrW rfl 45 (.tmp 4) (.tmp 15) (signDec k (DecR.to' d A' c')).cells rfl rfl rfl (by kernel_rfl) (dec_all _) (Nat.le_refl 12) ?_))
  intro W3 hW3 hbel3 hfar3
  rw [splice_all _ _ (by rfl)] at hW3
  have hq3' : Q w W3 := hbel3 _ _ (by omega) HW.out
  have ht3R := (ht2R.far (w' := W3) fun b hb => hfar3 b (by omega)).low (show w.heap.size ≤ x.w.heap.size by omega)
  clear hbel3 hfar3 hLW
  go_wp2_with fail
  exact bodyPost_ret (results_cell_row rfl _ _ (w.heap.size + 1 + 1) 45 (decA (signDec k (DecR.to' d A' c'))) (0, 0) _ rfl hW3 Tryz.underlying45 rfl (by kernel_rfl)) rfl ⟨A', c', rfl, ht3R, ht1, ht2, hq3'⟩
end Go.Proofs.YtjfcllanochhmaaGreatDoor.Dec

namespace Go.Proofs.YtjfcllanochhmaaGreatDoor.Dec
open Go.RowKit Grp Mem _root_.Go.Proofs.YtjfcllanochhmaaGreatDoor.Code Sha Sign _root_.Go.Proofs.YtjfcllanochhmaaGreatDoor.Item _root_.Go.Proofs.YtjfcllanochhmaaGreatDoor.Known

def seed35 : Nat → ByteArray
  | 0 => ⟨#[100, 48]⟩
  | 1 => ⟨#[100, 49]⟩
  | _ => ⟨#[100, 50]⟩
def key35 (i : Nat) : Int × Int := _root_.Go.Proofs.YtjfcllanochhmaaGreatDoor.Sign.keyOf (seedKey (seed35 i))
def pubs35 : List Int := [(key35 0).2, (key35 1).2, (key35 2).2]
theorem seed35_size (i : Nat) : (seed35 i).size = 2 := by
  unfold seed35
  split <;> rfl

set_option maxRecDepth 100000 in
set_option maxHeartbeats 2000000 in
theorem key35_any (i : Nat) (hi : i < 3) (w : World) (hT : Tab w) : Calls Tryz.prog 21 #[.int .i64 (i : Int)] w fun e w' => e = .returned (keyV (key35 i)) ∧ Q w w' := by
  have h2 := Blk.new w 63 (keyCs (0, 0))
  have hq := q_new w (keyCs (0, 0)) 63
  obtain ⟨w2, hw2⟩ : ∃ w2, w2 = w.alloc (.cells (keyCs (0, 0)) 63) := ⟨_, rfl⟩
  rw [← hw2] at h2 hq
  have hb := Blk.new w2 9 #[.string (seed35 0), .string (seed35 1), .string (seed35 2)]
  have hqb := q_new w2 #[.string (seed35 0), .string (seed35 1), .string (seed35 2)] 9
  have hk := Key_any (seed35 i) (w2.alloc (.cells #[.string (seed35 0), .string (seed35 1), .string (seed35 2)] 9)) (hT.q (Q.trans hq hqb)) (by rw [seed35_size]; omega)
  have HK : Hid (key35 i = _root_.Go.Proofs.YtjfcllanochhmaaGreatDoor.Sign.keyOf (seedKey (seed35 i))) := Lib.hid rfl
  have c0 : (w2.alloc (.cells #[.string (seed35 0), .string (seed35 1), .string (seed35 2)] 9)).cell? ⟨w2.heap.size, 0, none⟩ = some (.string ⟨#[100, 48]⟩) := hb.cell 0
  have c1 : (w2.alloc (.cells #[.string (seed35 0), .string (seed35 1), .string (seed35 2)] 9)).cell? ⟨w2.heap.size, 1, none⟩ = some (.string ⟨#[100, 49]⟩) := hb.cell 1
  have c2 : (w2.alloc (.cells #[.string (seed35 0), .string (seed35 1), .string (seed35 2)] 9)).cell? ⟨w2.heap.size, 2, none⟩ = some (.string ⟨#[100, 50]⟩) := hb.cell 2
  have h2r := h2.q hqb
  have HQ := Lib.hid (Q.trans hq hqb)
  have HX := Lib.hid hw2
  have hlt2 := h2.lt
  rw [← HK.out] at hk
  generalize key35 i = kp at *
  have h0 : seed35 0 = ⟨#[100, 48]⟩ := rfl
  have h1 : seed35 1 = ⟨#[100, 49]⟩ := rfl
  have h20 : seed35 2 = ⟨#[100, 50]⟩ := rfl
  clear hq hb hqb hw2 h2
  rw [h0, h1, h20] at *
  have hi3 : i = 0 ∨ i = 1 ∨ i = 2 := by omega
  rcases hi3 with rfl | rfl | rfl
  all_goals
    rw [show seed35 _ = _ from rfl] at hk
    go_enter Tryz.func21, Tryz.ntmps21
    go_upto_region 1 with (fail)
    refine (show Code.wp _ _ _ _ w2 → Code.wp _ _ _ _ _ from fun h => by rw [HX.out] at h; exact h) ?_
    go_wp2_with (first | (go_at_call 50; refine hk.mono ?_; rintro e w' ⟨rfl, hq2⟩) | (refine wpList_store_far (h2r.q hq2) rfl 63 (.tmp 2) (.tmp 9) [.int .i64 kp.1, .int .i64 kp.2] rfl rfl rfl (by kernel_rfl) (by simp [Value.oneCell']) (Nat.le_refl 2) ?_))
    intro W hW hbel hfar
    rw [splice_all _ _ (by rfl)] at hW
    have hqW : Q w W := hbel _ _ (by omega) (Q.trans HQ.out hq2)
    clear hbel hfar
    go_wp2_with fail
    exact bodyPost_ret (results_cell_row rfl _ _ w.heap.size 63 (keyCs kp) (0, 0) _ rfl hW Tryz.underlying63 rfl (by kernel_rfl)) rfl ⟨rfl, hqW⟩
theorem key_fld (k : Int × Int) (w : World) : (Instr.field 63 (keyV k) 1).run Tryz.prog w = .ok (.int .i64 k.2) w := by kernel_rfl
def PubsAre (w : World) (e : Ending) (w' : World) : Prop := ∃ (A : Option Addr) (c : Nat), e = .returned (.slice A 3 c) ∧ Ints w' A pubs35 ∧ Q w w'
set_option maxRecDepth 100000 in
set_option maxHeartbeats 2000000 in
theorem pubs35_any (w : World) (hT : Tab w) : Calls Tryz.prog 8 #[] w (PubsAre w) := by
  have hk0 : ∀ y : Wd w, Calls Tryz.prog 21 #[.int .i64 0] y.w fun e w' => e = .returned (keyV (key35 0)) ∧ Q y.w w' := fun y => key35_any 0 (by omega) y.w (hT.q y.q)
  have hk1 : ∀ y : Wd w, Calls Tryz.prog 21 #[.int .i64 1] y.w fun e w' => e = .returned (keyV (key35 1)) ∧ Q y.w w' := fun y => key35_any 1 (by omega) y.w (hT.q y.q)
  have hk2 : ∀ y : Wd w, Calls Tryz.prog 21 #[.int .i64 2] y.w fun e w' => e = .returned (keyV (key35 2)) ∧ Q y.w w' := fun y => key35_any 2 (by omega) y.w (hT.q y.q)
  have hf0 := fun w => key_fld (key35 0) w
  have hf1 := fun w => key_fld (key35 1) w
  have hf2 := fun w => key_fld (key35 2) w
  have hp : pubs35 = [(key35 0).2, (key35 1).2, (key35 2).2] := rfl
  unfold PubsAre
  rw [hp]
  clear hp
  generalize key35 0 = p0 at *
  generalize key35 1 = p1 at *
  generalize key35 2 = p2 at *
  have hT' := Lib.hid hT
  clear hT
  obtain ⟨x, hx⟩ := Wd.first w
  refine (show Calls Tryz.prog 8 #[] x.w _ → _ from fun h => by rwa [← hx] at h) ?_
  clear hx
  go_enter Tryz.func8, Tryz.ntmps8
  go_wp2_with (go_at_call 21; (first | with_reducible refine (hk0 _).mono ?_ | with_reducible refine (hk1 _).mono ?_ | with_reducible refine (hk2 _).mono ?_); rintro e w' ⟨rfl, hq2⟩; obtain ⟨y, rfl⟩ := Wd.next _ hq2; clear hq2)
  go_ret
  have hb := Blk.new y.w 3 #[.int .i64 p0.2, .int .i64 p1.2, .int .i64 p2.2]
  have hqb := q_new y.w #[.int .i64 p0.2, .int .i64 p1.2, .int .i64 p2.2] 3
  refine ⟨_, _, rfl, fun h0 => ⟨_, 0, rfl, hb.lt, fun j hj => ?_⟩, Q.trans y.q hqb⟩
  have hj3 : j = 0 ∨ j = 1 ∨ j = 2 := by simp at hj; omega
  rcases hj3 with rfl | rfl | rfl
  · exact hb.cell 0
  · exact hb.cell 1
  · exact hb.cell 2
/-- pick(n, 3). -/
theorem pick3_any (n : Int) (w : World) (hn : -9223372036854775808 ≤ n ∧ n ≤ 9223372036854775807) : Calls Tryz.prog 42 #[.int .i64 n, .int .i64 3] w fun e w' => e = .returned (.int .i64 (n % 3)) ∧ Q w w' := by
  have hways : (n.tmod 3 < 0 ∧ n % 3 = n.tmod 3 + 3 ∧ -3 < n.tmod 3) ∨ (¬ n.tmod 3 < 0 ∧ n % 3 = n.tmod 3) := by
    rcases Int.le_total 0 n with h | h
    · rw [Int.tmod_eq_emod_of_nonneg h]
      omega
    · have h2 : n.tmod 3 = -((-n).tmod 3) := by rw [Int.neg_tmod, Int.neg_neg]
      rw [h2, Int.tmod_eq_emod_of_nonneg (by omega)]
      omega
  generalize n % 3 = r at *
  generalize hm : n.tmod 3 = m at *
  rcases hways with ⟨h1, rfl, h3⟩ | ⟨h1, rfl⟩
  all_goals
    go_enter Tryz.func42, Tryz.ntmps42
    go_wp2_with fail
    go_ret
    exact ⟨by go_num, Q.refl _⟩
end Go.Proofs.YtjfcllanochhmaaGreatDoor.Dec

namespace Go.Proofs.YtjfcllanochhmaaGreatDoor.Dec
open Go.RowKit Grp Mem _root_.Go.Proofs.YtjfcllanochhmaaGreatDoor.Code Sha Sign _root_.Go.Proofs.YtjfcllanochhmaaGreatDoor.Item _root_.Go.Proofs.YtjfcllanochhmaaGreatDoor.Known

/-- A decision of the server that it names, modulo 3. -/
def srv3 (d : DecR) : DecR := { d with server := d.server % 3 }
def sgn35 (d : DecR) : DecR := signDec (key35 (d.server % 3).toNat) (srv3 d)
/-- What few grants of a decision, with the type's own bounds. -/
structure Fit (d : DecR) : Prop where
  small : SmallI (itDec d)
  len : d.to.length ≤ 10
  srv : -9223372036854775808 ≤ d.server ∧ d.server ≤ 9223372036854775807
theorem fit_srv {d : DecR} (h : Fit d) : SmallI (itDec (srv3 d)) := ⟨h.small.claim, h.small.ballot, fun a b => by
  obtain ⟨h1, h2, h3, h4, h5⟩ := h.small.dec a b
  refine ⟨h1, h2, h3, fun n hn => ?_, h5⟩
  rcases List.mem_cons.1 hn with e | e
  · have : n = d.server % 3 := e
    omega
  · exact h4 n (List.mem_cons_of_mem _ e)⟩
theorem key35_le (i : Nat) : (key35 i).1 ≤ 9223372036854775807 ∧ (key35 i).2 ≤ 9223372036854775807 := by
  unfold key35 _root_.Go.Proofs.YtjfcllanochhmaaGreatDoor.Sign.keyOf
  split
  · decide
  · rename_i h
    have hx : seedKey (seed35 i) ≤ 2305843009213693949 := by omega
    have := gpub (seedKey (seed35 i)) (by omega)
    exact ⟨by dsimp only; omega, by dsimp only; omega⟩
theorem srv3_cells (d : DecR) : splice d.cells 0 [.int .i64 (d.server % 3)] = (srv3 d).cells := rfl
theorem DecIn.srv {w : World} {d : DecR} (h : DecIn w d) : DecIn w (srv3 d) := ⟨h.to, h.toC⟩

set_option maxRecDepth 100000 in
set_option maxHeartbeats 4000000 in
theorem signed35_any (d : DecR) (w : World) (hT : Tab w) (hD : DecIn w d) (hF : Fit d) : Calls Tryz.prog 15 #[.agg (decA d)] w (OfDecF (sgn35 d) w) := by
  have hbb := Blk.new w 45 (decA d)
  have hq1 := q_new w (decA d) 45
  have hbr := Blk.new' (g := w.heap.size + 1) (w.alloc (.cells (decA d) 45)) 47 (itA item0) (by simp)
  have hq2 := q_new (w.alloc (.cells (decA d) 45)) (itA item0) 47
  have hbb := hbb.q hq2
  have hq := Q.trans hq1 hq2
  clear hq1 hq2
  obtain ⟨w3, hw3⟩ : ∃ w3, w3 = (w.alloc (.cells (decA d) 45)).alloc (.cells (itA item0) 47) := ⟨_, rfl⟩
  rw [← hw3] at hbb hbr hq
  have cs0 : ∀ y : Wd w3, y.w.cell? ⟨w.heap.size, 0, none⟩ = some (.int .i64 d.server) := fun y => (y.blk hbb).cell 0
  have hBd : ∀ y : Wd w3, Blk y.w w.heap.size 45 d.cells.toArray := fun y => y.blk hbb
  have hBr : ∀ y : Wd w3, Blk y.w (w.heap.size + 1) 47 item0.cells.toArray := fun y => y.blk hbr
  have hfz : ∀ y : Wd w3, y.w.frozen? ⟨w.heap.size, 0, none⟩ = false := fun y => (hBd y).frozen 0
  have hPk := fun y : Wd w3 => pick3_any d.server y.w hF.srv
  have HQ := Lib.hid hq
  have hlt3 := hbr.lt
  obtain ⟨x, hx3⟩ : ∃ x : Wd w3, x.w = w3 := ⟨⟨w3, Q.refl _⟩, rfl⟩
  have HX := Lib.hid (hx3.trans hw3)
  have hxs := x.q.size
  clear hx3 hw3 hbb hbr hq
  go_enter Tryz.func15, Tryz.ntmps15
  go_upto_region 1 with (fail)
  refine (show Code.wp _ _ _ _ x.w → Code.wp _ _ _ _ _ from fun h => by rw [HX.out] at h; exact h) ?_
  go_upto_region 2 with ((go_at_call 42; refine (hPk _).mono ?_; rintro e w' ⟨rfl, hq2⟩; obtain ⟨y, rfl⟩ := Wd.next _ hq2; clear hq2))
  have hV : ∃ V : Value, V = .int .i64 (d.server % 3) := ⟨_, rfl⟩
  have hW := Blk.setCells [.int .i64 (d.server % 3)] 0 _ y.w (hBd y) (show 1 ≤ 12 by decide)
  rw [srv3_cells] at hW
  have hfar := fun b (hne : b ≠ w.heap.size) => setCells_far (g := w.heap.size) hne [.int .i64 (d.server % 3)] 0 y.w
  have hbel := fun (B : Nat) (w0 : World) (hB : B ≤ w.heap.size) (hw : Below B w0 y.w) => below_setCells hB [.int .i64 (d.server % 3)] 0 w0 y.w hw
  obtain ⟨W, hWe⟩ : ∃ W, y.w.setCell ⟨w.heap.size, 0, none⟩ (.int .i64 (d.server % 3)) = W := ⟨_, rfl⟩
  have hWe2 : y.w.setCells w.heap.size 0 [.int .i64 (d.server % 3)] = W := hWe
  rw [hWe2] at hW hfar hbel
  rw [hWe]
  clear hWe hWe2 hV
  have hqW : Q w W := by
    have h0 : Below w.heap.size w y.w := Q.trans HQ.out y.q
    exact hbel _ _ (by omega) h0
  have hBrW : Blk W (w.heap.size + 1) 47 item0.cells.toArray := (hfar _ (by omega)).trans (hBr y)
  have hm3 : 0 ≤ d.server % 3 ∧ d.server % 3 < 3 := by omega
  have hkk := key35_le (d.server % 3).toNat
  have hKe : ∀ z : Wd W, Calls Tryz.prog 21 #[.int .i64 (d.server % 3)] z.w fun e w' => e = .returned (keyV (key35 (d.server % 3).toNat)) ∧ Q z.w w' := fun z => by
    have h := key35_any (d.server % 3).toNat (by omega) z.w (hT.q (Q.trans hqW z.q))
    rwa [Int.toNat_of_nonneg hm3.1] at h
  have hLd : ∀ z : Wd W, (Instr.loadAt 45 (.pointer (some ⟨w.heap.size, 0, none⟩))).run Tryz.prog z.w = .ok (.agg (decA (srv3 d))) z.w := Wd.load hW.lt (Blk.range hW) Tryz.underlying45 rfl (by kernel_rfl)
  have cs1 : ∀ z : Wd W, z.w.cell? ⟨w.heap.size, 0, none⟩ = some (.int .i64 (d.server % 3)) := fun z => (z.blk hW).cell 0
  have hSg : ∀ z : Wd W, Calls Tryz.prog 43 #[.agg (keyCs (key35 (d.server % 3).toNat)), .agg (decA (srv3 d))] z.w (DecIs (sgn35 d) z.w) := fun z => signDec_any _ (srv3 d) z.w (hT.q (Q.trans hqW z.q)) hkk.1 hkk.2 (DecIn.srv (hD.q (Q.trans hqW z.q))) (fit_srv hF) (by have := hF.len; show d.to.length ≤ _; omega)
  have hto : (sgn35 d).to.length ≤ 1000000 := by have := hF.len; show d.to.length ≤ _; omega
  have HQW := Lib.hid hqW
  have hgW : w.heap.size + 1 < W.heap.size := hBrW.lt
  clear hbel hfar hW hqW hfz hBd hBr hPk cs0 hkk
  generalize key35 (d.server % 3).toNat = kp at *
  generalize hD3 : d.server % 3 = n3 at *
  clear hD3
  obtain ⟨v, hv⟩ := Wd.first W
  rw [hv]
  clear hv
  go_upto_region 2 with (fail)
  refine wp_region_open (C := fun z => ∃ y : Wd W, z = y.w) 4 (by kernel_rfl) (by kernel_rfl) (v.next (Q.refl _).drew) ?_
  simp only [List.take_succ_cons, List.take_zero]
  repeat (first | (refine wpQuiet_load_run 45 (.tmp 1) (.pointer (some ⟨w.heap.size, 0, none⟩)) (.agg (decA (srv3 d))) ?_ ?_ ?_ ?_ ?_; rfl; rfl; rfl; exact hLd; dsimp only [Act.put]; simp only [List.setIfInBounds_toArray, List.set_cons_succ, List.set_cons_zero]) | go_big_quiet_step ((go_at_call 21; exact Wd.call _ (hKe _))))
  refine wpQuiet_nil ?_
  rintro w' ⟨y4, rfl⟩
  refine any_one 4 rfl (by kernel_rfl) rfl (fun K' hK' => ?_)
  go_simp
  refine (hSg y4).mono ?_
  rintro e w5 ⟨TA, tc, rfl, htR, ht1, ht2, q5⟩
  refine hK' _ _ ?_
  clear hK' K'
  try simp only [Act.put, List.setIfInBounds_toArray, List.set_cons_succ, List.set_cons_zero]
  refine any_one 5 rfl (by kernel_rfl) rfl (fun K' hK' => ?_)
  go_simp
  refine (ofDec_from (DecR.to' (sgn35 d) TA tc) w5 (dec_in htR ht1 ht2) hto).mono ?_
  rintro e w6 ⟨TB, uc, rfl, huR, hu1, hu2, q6⟩
  refine hK' _ _ ?_
  clear hK' K'
  try simp only [Act.put, List.setIfInBounds_toArray, List.set_cons_succ, List.set_cons_zero]
  have hqW6 : Q W w6 := Q.trans y4.q (Q.trans q5 q6)
  have hb6 := hBrW.q hqW6
  have hw5 : W.heap.size ≤ w5.heap.size := (Q.trans y4.q q5).size
  refine any_one 6 rfl (by kernel_rfl) rfl (fun K' hK' => ?_)
  refine wp_store_mid 47 (.tmp 2) (.tmp 12) rfl (w.heap.size + 1) 0 (itDec (DecR.to' (sgn35 d) TB uc)).cells.toArray rfl rfl (by simpa using hb6.there (Nat.le_refl 49)) (by kernel_rfl) (it_all _) ?_
  refine hK' _ _ ?_
  clear hK' K'
  refine any_done (by kernel_rfl) ?_ _
  have hsc : Blk (w6.setCells (w.heap.size + 1) 0 (itDec (DecR.to' (sgn35 d) TB uc)).cells) (w.heap.size + 1) 47 (itDec (DecR.to' (sgn35 d) TB uc)).cells.toArray := by
    have := Blk.setCells (itDec (DecR.to' (sgn35 d) TB uc)).cells 0 _ w6 hb6 (Nat.le_refl 49)
    rwa [splice_all _ _ (by rfl)] at this
  have hfar6 := fun b (hne : b ≠ w.heap.size + 1) => setCells_far (g := w.heap.size + 1) hne (itDec (DecR.to' (sgn35 d) TB uc)).cells 0 w6
  have hqf : Q w (w6.setCells (w.heap.size + 1) 0 (itDec (DecR.to' (sgn35 d) TB uc)).cells) := below_setCells (Nat.le_succ _) _ 0 w w6 (Q.trans HQW.out hqW6)
  have huF := (huR.far (w' := w6.setCells (w.heap.size + 1) 0 (itDec (DecR.to' (sgn35 d) TB uc)).cells) fun b hb => hfar6 b (by omega)).low (show w.heap.size ≤ w5.heap.size by omega)
  have HF : Hid (OfDecF (sgn35 d) w (.returned (.agg (itA (itDec (DecR.to' (sgn35 d) TB uc))))) (w6.setCells (w.heap.size + 1) 0 (itDec (DecR.to' (sgn35 d) TB uc)).cells)) := Lib.hid ⟨TB, uc, rfl, huF, hu1, hu2, hqf⟩
  clear hfar6 hqf huF hb6
  go_wp2_with fail
  exact bodyPost_ret (results_cell_row rfl _ _ (w.heap.size + 1) 47 (itA (itDec (DecR.to' (sgn35 d) TB uc))) (0, 0) _ rfl hsc Tryz.underlying47 rfl (by kernel_rfl)) rfl HF.out
end Go.Proofs.YtjfcllanochhmaaGreatDoor.Dec
