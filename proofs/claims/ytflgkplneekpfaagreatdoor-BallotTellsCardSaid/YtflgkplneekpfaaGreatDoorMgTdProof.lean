/-
  ballot.Voters.
  ballot.Quorum and ballot.Own.
  ballot.Won.
  The contracts of agoraref18's SameInts, Quorum, Votes, Voters (printed by gen_ref18.py).
  Polls: the law's inputs of layer 18, and its helpers keyOf, digest, cast.
  agoralaw18.cast.
  agoralaw18.valid.
  agoralaw18.made: the known set of a poll.
  The fixed example of agoralaw18 as plain data (printed by gen_votsmall.py). No walk in this text.
  Drawn regions, class in hand: what alone may come up, its run known.
  agoralaw18.small, walked.
  The contracts of agoraref18's Own and Won (printed by gen_ref18b.py).
  Plain laws: what package ballot finds in a right known set is what the reference finds. No walk in this text.
  What an argument's type gives: a known set.
  What an argument's type gives: a struct of two integers. How the contract of a law becomes its row: the law returns true, and below the heap's old size nothing has changed, so every argument reads as before. What the rows' list of tables gives: package sum's two tables hold what the text says; and a world for the witness.
  The law BallotTells, walked (printed by gen_tells.py).
  The statement BallotTells holds. The tables of package sum hold what the text lays.
-/
import Derived.Test.YtflgkplneekpfaaGreatDoorShelf
import Derived.Test.YtflgkplneekpfaaGreatDoorMgTb
import Derived.Sort.OwnSortedInts
import Derived.Test.YtflgkplneekpfaaGreatDoorOks
import Derived.Test.YtflgkplneekpfaaGreatDoorMgTa
import Derived.Test.YtflgkplneekpfaaGreatDoorBld2
import Derived.Test.YtflgkplneekpfaaGreatDoorMgTc
import Derived.ChangeMaps5
import Derived.Test.YtflgkplneekpfaaGreatDoorProg
import Derived.WideShapes
import Derived.ProofKit
import Derived.OpenShut
import Derived.OpenVars
import Derived.Test.YtflgkplneekpfaaGreatDoorCards
import Derived.Test.YtflgkplneekpfaaGreatDoorTie
import Derived.Test.YtflgkplneekpfaaGreatDoorShaMix
import Derived.Deep.DeepHandedRow
import Derived.Lib.LaidTab
set_option linter.unusedVariables false
set_option linter.unusedSimpArgs false


namespace Go.Proofs.YtflgkplneekpfaaGreatDoor.Vot
open Go.RowKit Grp Mem _root_.Go.Proofs.YtflgkplneekpfaaGreatDoor.Code Sha Sign _root_.Go.Proofs.YtflgkplneekpfaaGreatDoor.Item _root_.Go.Proofs.YtflgkplneekpfaaGreatDoor.Known Rng

attribute [local go_sem] Oper.semAt_some

/-! ### slices.Sort and slices.Compact of a row of ints -/
abbrev intE : Int → Value := Value.int .i64
abbrev intC : Int → List Value := fun n => [.int .i64 n]
theorem intC_one (x : Int) : ∀ v ∈ intC x, v.oneCell' = true := by
  intro v hv
  rw [List.mem_singleton] at hv
  subst hv
  rfl
theorem put_holds {w : World} {g n : Nat} {d d' : Array Int} (h : Go.Sort.Holds intE w g 0 d) (hs : d'.size = d.size) : Go.Sort.Holds intE (Go.Sort.putRow intE (Go.Sort.ahead w n) g 0 d') g 0 d' :=
  Go.Sort.holds_putRow intE (Go.Sort.ahead w n) g 0 d d' h hs
theorem holds_cut {w : World} {g : Nat} {l m : List Int} (h : Go.Sort.Holds intE w g 0 (l ++ m).toArray) : Go.Sort.Holds intE w g 0 l.toArray := fun j hj => by
  have hj' : j < l.length := by simpa using hj
  have := h j (by simp; omega)
  rw [getElem!_pos (l ++ m).toArray j (by simp; omega)] at this
  rw [getElem!_pos l.toArray j hj]
  simp only [List.getElem_toArray, List.getElem_append_left hj'] at this ⊢
  exact this
theorem sortI_any (g cap : Nat) (zs : List Int) (w : World) (hH : Go.Sort.Holds intE w g 0 zs.toArray) (hg : g < w.heap.size) (hn : zs.length ≤ 1000) :
    Calls Tryz.prog 51 #[.slice (some ⟨g, 0, none⟩) zs.length cap] w fun e w' => e = .returned (.tuple #[]) ∧ Go.Sort.Holds intE w' g 0 (zs.mergeSort fun x y => decide (x ≤ y)).toArray ∧ w.grownBy w' (some g) := by
  refine (Tryz.slices_Sort_int g 0 cap zs w hH hg (by omega)).mono ?_
  rintro e w' ⟨rfl, n, os, rfl⟩
  refine ⟨rfl, ?_, grownBy_sortedI _⟩
  refine Go.Sort.holds_grow intE _ os g 0 _ ?_ (put_holds hH ?_)
  · rw [Go.Sort.size_putRow]
    exact hg
  · simp
theorem compactI_any (g cap : Nat) (zs : List Int) (w : World) (hH : Go.Sort.Holds intE w g 0 zs.toArray) (hn : zs.length ≤ 1000) (hc : zs.length ≤ cap) :
    Calls Tryz.prog 52 #[.slice (some ⟨g, 0, none⟩) zs.length cap] w fun e w' => e = .returned (.slice (some ⟨g, 0, none⟩) (Lib.compact zs).length cap) ∧ Go.Sort.Holds intE w' g 0 (Lib.compact zs).toArray ∧ w.grownBy w' (some g) := by
  refine (Tryz.slices_Compact_int g 0 cap zs w hH (by omega) hc).mono ?_
  rintro e w' ⟨rfl, q, rfl⟩
  have hl := compact_len zs
  refine ⟨rfl, holds_cut (m := List.replicate (zs.length - (Lib.compact zs).length) 0) (put_holds hH (by simp; omega)), ?_⟩
  have := grownBy_sortedI (w := w) (g := g) (n := q) (os := #[]) (Lib.compact zs ++ List.replicate (zs.length - (Lib.compact zs).length) 0).toArray
  rwa [Go.Sort.grow_empty] at this
theorem holds_ints {w : World} {g : Nat} {l : List Int} (h : Go.Sort.Holds intE w g 0 l.toArray) (hg : g < w.heap.size) : Ints w (some ⟨g, 0, none⟩) l := fun h0 => ⟨g, 0, rfl, hg, fun j hj => by
  have := (h j (by simpa using hj)).1
  rw [getElem!_pos l.toArray j (by simpa using hj)] at this
  simpa using this⟩
theorem flat_one (l : List Int) : l.flatMap intC = l.map intE := by
  induction l with
  | nil => rfl
  | cons a l ih => rw [List.flatMap_cons, ih]; rfl
theorem owns_holds {w : World} {base g cap n : Nat} {l : List Int} (h : Owns w base 3 1 (.slice (some ⟨g, 0, none⟩) n cap) n (l.flatMap intC)) (hn : n = l.length) : Go.Sort.Holds intE w g 0 l.toArray := fun j hj => by
  have hj' : j < l.length := by simpa using hj
  obtain ⟨g', e, _, _, h1, h2⟩ := h.cellAt j (.int .i64 l[j]) (by rw [flat_one, List.getElem?_map, List.getElem?_eq_getElem hj']; rfl)
  injection e with e
  injection e with e
  subst e
  rw [getElem!_pos l.toArray j hj, Nat.zero_add]
  exact ⟨by simpa using h1, h2⟩
theorem owns_zero {w : World} {base n : Nat} {e : TypeId} {sz : Nat} {v : Value} {xs : List Value} (h : Owns w base e sz v n xs) (hn : 0 < n) : ∃ g cap, v = .slice (some ⟨g, 0, none⟩) n cap ∧ base ≤ g ∧ g < w.heap.size ∧ n ≤ cap ∧ cap ≤ maxLen ∧ ∃ cur fz, w.heap[g]? = some (.cells cur e fz) := by
  rcases h.2 with ⟨_, h0⟩ | ⟨g, cap, cur, fz, hv, hb, hg, _, h1, h2, _⟩
  · omega
  · exact ⟨g, cap, hv, hb, (Array.getElem?_eq_some_iff.1 hg).1, h1, h2, cur, fz, hg⟩

/-! ### What holds between two rounds -/
structure VInv (w0 W : World) (n0 B bc : Nat) (claim : ByteArray) (pre : List BallotV) : Prop where
  box : ∃ (A : Option Addr) (c : Nat), Boxed W B 28 (.slice A (voterL claim pre).length c) ∧ Owns W n0 3 1 (.slice A (voterL claim pre).length c) (voterL claim pre).length ((voterL claim pre).flatMap intC)
  cl : Boxed W bc 9 (.string claim)
  q : Below n0 w0 W
theorem boxed_grown {W W' : World} {row : Option Nat} {B : Nat} {t : TypeId} {v : Value} (h : Boxed W B t v) (hg : W.grownBy W' row) (hr : ∀ r, row = some r → ∃ o : Obj, W.heap[r]? = some o ∧ o.isCells = false) : Boxed W' B t v :=
  h.kept hg (fun e => by
    obtain ⟨o, ho, hc⟩ := hr B e.symm
    rw [show W.heap[B]? = _ from h] at ho
    cases ho
    cases hc)
theorem owns_grown {W W' : World} {row : Option Nat} {base n : Nat} {e : TypeId} {sz : Nat} {v : Value} {xs : List Value} (h : Owns W base e sz v n xs) (hg : W.grownBy W' row) (hr : ∀ r, row = some r → ∃ o : Obj, W.heap[r]? = some o ∧ o.isCells = false) : Owns W' base e sz v n xs :=
  h.keep fun k hk => hg.block k (h.lt k hk).2 (fun e2 => by
    rcases h.2 with ⟨rfl, _⟩ | ⟨g, cap, cur, fz, rfl, _, hgg, _⟩
    · simp [Value.ownBlock] at hk
    · simp [Value.ownBlock] at hk
      subst hk
      obtain ⟨o, ho, hc⟩ := hr g e2.symm
      rw [hgg] at ho
      cases ho
      cases hc)
theorem VInv.grown {w0 W W' : World} {n0 B bc : Nat} {claim : ByteArray} {pre : List BallotV} {row : Option Nat} (h : VInv w0 W n0 B bc claim pre) (hn : n0 ≤ w0.heap.size) (hg : W.grownBy W' row) (hr : ∀ r, row = some r → n0 ≤ r ∧ ∃ o : Obj, W.heap[r]? = some o ∧ o.isCells = false) : VInv w0 W' n0 B bc claim pre := by
  have hr2 := fun r e => (hr r e).2
  obtain ⟨A, c, h1, h2⟩ := h.box
  exact ⟨⟨A, c, boxed_grown h1 hg hr2, owns_grown h2 hg hr2⟩, boxed_grown h.cl hg hr2, h.q.grown hg (Nat.le_trans hn h.q.size) (fun k e => (hr k e).1)⟩
theorem VInv.of_q {w0 W W' : World} {n0 B bc : Nat} {claim : ByteArray} {pre : List BallotV} (h : VInv w0 W n0 B bc claim pre) (hn : n0 ≤ w0.heap.size) (hq : Q W W') : VInv w0 W' n0 B bc claim pre := h.grown hn (grown_q hq) (fun r e => by cases e)
/-- Where an own row of another type grows, a box stays. -/
theorem boxed_row {W W' : World} {B base n : Nat} {t e : TypeId} {u v : Value} {sz : Nat} {xs : List Value} (h : Boxed W B t u) (hte : t ≠ e) (hown : Owns W base e sz v n xs) (hg : W.grownBy W' v.ownBlock) : Boxed W' B t u :=
  h.kept hg (fun e2 => by
    rcases hown.2 with ⟨rfl, _⟩ | ⟨g, cap, cur, fz, rfl, _, hgg, _⟩
    · simp [Value.ownBlock] at e2
    · simp [Value.ownBlock] at e2
      subst e2
      rw [show W.heap[B]? = _ from h] at hgg
      injection hgg with hgg
      injection hgg with _ hgg
      exact hte hgg)
/-- A round that appends: the store of the row into its box. -/
theorem voter_step {w0 W W2 W3 : World} {n0 B bc : Nat} {claim : ByteArray} {pre : List BallotV} {x : BallotV} {A A2 : Option Addr} {c c2 : Nat} (hn : n0 ≤ w0.heap.size) (hB : n0 ≤ B) (hBc : B ≠ bc) (h : VInv w0 W n0 B bc claim pre) (h1 : Boxed W B 28 (.slice A (voterL claim pre).length c)) (h2 : Owns W n0 3 1 (.slice A (voterL claim pre).length c) (voterL claim pre).length ((voterL claim pre).flatMap intC))
    (hq : Q W W2) (hg : W2.grownBy W3 (Value.slice A (voterL claim pre).length c).ownBlock) (hown : Owns W3 n0 3 1 (.slice A2 (voterL claim (pre ++ [x])).length c2) (voterL claim (pre ++ [x])).length ((voterL claim (pre ++ [x])).flatMap intC)) :
    Boxed W3 B 28 (.slice A (voterL claim pre).length c) ∧ KeepsOthers W (W3.setCell ⟨B, 0, none⟩ (.slice A2 (voterL claim (pre ++ [x])).length c2)) ∧ KpB n0 46 W (W3.setCell ⟨B, 0, none⟩ (.slice A2 (voterL claim (pre ++ [x])).length c2)) ∧
    VInv w0 (W3.setCell ⟨B, 0, none⟩ (.slice A2 (voterL claim (pre ++ [x])).length c2)) n0 B bc claim (pre ++ [x]) := by
  have h2b := h2.q hq
  have hb2 : Boxed W2 B 28 (.slice A (voterL claim pre).length c) := (hq.block B h1.lt).trans h1
  have hc2 : Boxed W2 bc 9 (.string claim) := (hq.block bc h.cl.lt).trans h.cl
  have hb3 := boxed_row hb2 (by decide) h2b hg
  have hc3 := boxed_row hc2 (by decide) h2b hg
  have hB2 : Below n0 W W2 := hq.mono (Nat.le_trans hn h.q.size)
  have hB3 : Below n0 W2 W3 := (Below.refl n0 W2).grown hg (by have := hB2.size; have := h.q.size; omega) (fun k e => (h2b.lt k e).1)
  have hBs : Below n0 W (W3.setCell ⟨B, 0, none⟩ (.slice A2 (voterL claim (pre ++ [x])).length c2)) := (hB2.trans hB3).setCell (p := ⟨B, 0, none⟩) hB _
  have hrow : ∀ r, (Value.slice A (voterL claim pre).length c).ownBlock = some r → ∃ cs fz, W2.heap[r]? = some (.cells cs 3 fz) := by
    intro r hr
    rcases h2b.2 with ⟨e, _⟩ | ⟨g, cap, cur, fz, e, _, hgg, _⟩
    · rw [e] at hr
      simp [Value.ownBlock] at hr
    · rw [e] at hr
      simp [Value.ownBlock] at hr
      subst hr
      exact ⟨cur, fz, hgg⟩
  refine ⟨hb3, ?_, ⟨hBs, ?_⟩, ⟨⟨A2, c2, hb3.set _, ?_⟩, hc3.other (Ne.symm hBc) _, h.q.trans hBs⟩⟩
  · refine ((KeepsOthers.of_grownBy (grown_q hq) (fun j o e _ => by cases e)).trans (KeepsOthers.of_grownBy hg (fun j o ej hj => ?_))).trans (KeepsOthers.setCell _ _ _)
    obtain ⟨cs, fz, hh⟩ := hrow j ej
    rw [hh] at hj
    cases hj
    rfl
  · exact ((KeepT.of_q hq).trans (KeepT.grown hg hrow (by decide))).trans (KeepT.setCell W3 _ _ _ _ hb3 (by decide))
  · refine hown.keep fun k hk => Below.heap_setCell _ _ _ k ?_
    rintro rfl
    rcases hown.2 with ⟨e, _⟩ | ⟨g, cap, cur, fz, e, _, hgg, _⟩
    · rw [e] at hk
      simp [Value.ownBlock] at hk
    · rw [e] at hk
      simp [Value.ownBlock] at hk
      subst hk
      rw [show W3.heap[g]? = _ from hb3] at hgg
      injection hgg with hgg
      injection hgg with _ hgg
      exact absurd hgg (by decide)

theorem ints_far {w w' : World} {g : Nat} {l : List Int} (h : Ints w (some ⟨g, 0, none⟩) l) (hg : g < w'.heap.size) (hb : w'.heap[g]? = w.heap[g]?) : Ints w' (some ⟨g, 0, none⟩) l := fun h0 => by
  obtain ⟨b, o, e, _, hc⟩ := h h0
  injection e with e
  injection e with e1 e2
  subst e1
  subst e2
  refine ⟨g, 0, rfl, hg, fun j hj => ?_⟩
  rw [← hc j hj]
  simp only [World.cell?, hb]
theorem sortU_nil : sortU [] = [] := by
  have : (sortU []).length ≤ 0 := by
    unfold sortU
    refine Nat.le_trans (compact_len _) ?_
    rw [mergeSort_len]
    exact Nat.le_refl _
  exact List.length_eq_zero_iff.1 (by omega)

/-- What hands back the voters. -/
def VotersAre (l : List Int) (w : World) (e : Ending) (w' : World) : Prop := ∃ (A : Option Addr) (c : Nat), e = .returned (.slice A l.length c) ∧ l.length ≤ c ∧ c ≤ maxLen ∧ Ints w' A l ∧ Q w w'
theorem int_info : (Tryz.prog.info? 3).map (fun i => (i.zero, i.size, i.bytes)) = some (some (.int .i64 0), 1, 8) := by kernel_rfl

set_option maxRecDepth 100000 in
set_option maxHeartbeats 4000000 in
theorem voters_any (k : KR) (claim actor : ByteArray) (gen : Int) (w : World) (hT : Tab w) (hK : KIn w k) (hlen : k.l.length ≤ 1000) (hs : SortedF (takeB actor gen k.l)) :
    Calls Tryz.prog 14 #[.agg (knA k), .string claim, .string actor, .int .i64 gen] w (VotersAre (votersK claim (ballotsS actor gen k.l)) w) := by
  have b1 := Blk.new w 31 (knA k)
  have q1 := q_new w (knA k) 31
  have b2 := Blk.new' (g := w.heap.size + 1) (w.alloc (.cells (knA k) 31)) 9 #[.string claim] (by simp)
  have q2 := q_new (w.alloc (.cells (knA k) 31)) #[.string claim] 9
  have b3 := Blk.new' (g := w.heap.size + 1 + 1) ((w.alloc (.cells (knA k) 31)).alloc (.cells #[.string claim] 9)) 28 #[.slice none 0 0] (by simp)
  have q3 := q_new ((w.alloc (.cells (knA k) 31)).alloc (.cells #[.string claim] 9)) #[.slice none 0 0] 28
  have b1 := (b1.q q2).q q3
  have b2 := b2.q q3
  have hq := Q.trans (Q.trans q1 q2) q3
  obtain ⟨w3, hw3⟩ : ∃ w3, w3 = ((w.alloc (.cells (knA k) 31)).alloc (.cells #[.string claim] 9)).alloc (.cells #[.slice none 0 0] 28) := ⟨_, rfl⟩
  rw [← hw3] at b1 b2 b3 hq
  have hLk := Wd.load (P := Tryz.prog) (ty := 31) b1.lt (Blk.range b1) Tryz.underlying31 rfl (by kernel_rfl) ⟨w3, Q.refl w3⟩
  have HZ3 := Lib.hid (show w3.heap.size = w.heap.size + 3 by rw [hw3]; simp)
  have HX := Lib.hid hw3
  have hle : (ballotsS actor gen k.l).length ≤ 1000 := by
    unfold ballotsS
    rw [List.length_map]
    have := takeB_le actor gen k.l k.l.length
    rw [List.take_length] at this
    omega
  obtain ⟨i0, hi, hi0, hi1, hi2⟩ := info_parts int_info
  clear q1 q2 q3 hw3
  refine (callsIn_wide (n := 6)).1 ?_
  refine callsIn_of_wp_marks Tryz.func14 rfl trivial ?_ rfl
  simp only [Tryz.ntmps14, List.size_toArray, List.length_cons, List.length_nil, Nat.reduceAdd, Nat.reduceSub, Array.replicate_succ, Array.replicate_zero, List.push_toArray, List.append_toArray, List.nil_append, List.cons_append]
  refine wpIn_wide.2 ?_
  go_upto_region 2 with (fail)
  refine (show Code.wp _ _ _ _ w3 → Code.wp _ _ _ _ _ from fun h => by rw [HX.out] at h; exact h) ?_
  go_wp2_with (first | (refine wpList_load_run 31 (.tmp 4) (.pointer (some ⟨w.heap.size, 0, none⟩)) (.agg (knA k)) ?_ ?_ ?_ ?_ ?_; rfl; rfl; rfl; exact hLk) | (go_at_call 50; refine (ballotsF_any k actor gen _).mono ?_; rintro e w' ⟨rfl, hw4⟩))
  have c1 := Blk.new w3 31 (knA k)
  have p1 := q_new w3 (knA k) 31
  have c2 := Blk.new' (g := w3.heap.size + 1) (w3.alloc (.cells (knA k) 31)) 9 #[.string actor] (by simp)
  have p2 := q_new (w3.alloc (.cells (knA k) 31)) #[.string actor] 9
  have c3 := Blk.new' (g := w3.heap.size + 1 + 1) ((w3.alloc (.cells (knA k) 31)).alloc (.cells #[.string actor] 9)) 3 #[.int .i64 gen] (by simp)
  have p3 := q_new ((w3.alloc (.cells (knA k) 31)).alloc (.cells #[.string actor] 9)) #[.int .i64 gen] 3
  have c1 := (c1.q p2).q p3
  have c2 := c2.q p3
  have hp := Q.trans (Q.trans p1 p2) p3
  rw [← hw4] at c1 c2 c3 hp
  have b2 := b2.q hp
  have b3 := b3.q hp
  have hqw : Q w w' := Q.trans hq hp
  have hz4 : w'.heap.size = w.heap.size + 6 := by have := HZ3.out; rw [hw4]; simp; omega
  try rw [← hw4]
  clear hw4 p1 p2 p3 hp b1 hLk hq HX
  refine (wpIn_wide (n := 6)).1 ?_
  refine wpIn_rangeFunc_ownH rfl (by decide) (gf := 101) (lb := #[.pointer (some ⟨w3.heap.size, 0, none⟩), .pointer (some ⟨w3.heap.size + 1, 0, none⟩), .pointer (some ⟨w3.heap.size + 1 + 1, 0, none⟩)]) rfl trivial (enters_of Tryz.func101 (by kernel_rfl) rfl)
    (iter_stops 5 (by decide) _ _ _ w.heap.size k actor gen hlen hs w' (hT.q hqw) (hK.q hqw) c1 c2 c3) KpB.trans (fun W l o o' hl h hc hw => KpB.putObj (w := w') (by omega) W l o o' hl h hc hw) (Below.refl _ _) (fun _ => rfl)
    (fun pre W => VInv w' W w.heap.size (w.heap.size + 1 + 1) (w.heap.size + 1) claim pre)
    (fun _ _ _ => False)
    (fun s A B row hs hg hr => hs.grown (by omega) hg (fun r e => ⟨by have := (hr r e).1; omega, (hr r e).2⟩))
    (fun _ _ _ _ _ hs _ _ => hs)
    ⟨⟨none, 0, b3, Owns.nil_ _ _ _ _⟩, b2, Below.refl _ _⟩
    (fun x a' W => ∃ Bx, w'.heap.size ≤ Bx ∧ Blk W Bx 46 x.cells.toArray ∧ a' = { tmps := #[.agg (knA k), .string claim, .string actor, .int .i64 gen, .pointer (some ⟨w.heap.size, 0, none⟩), .pointer (some ⟨w.heap.size + 1, 0, none⟩), undef, undef, .slice none 0 0, .pointer (some ⟨w.heap.size + 1 + 1, 0, none⟩), .pointer (some ⟨Bx, 0, none⟩), .agg (knA k), .string actor, .int .i64 gen, .func (.func 101) #[] #[.pointer (some ⟨w3.heap.size, 0, none⟩), .pointer (some ⟨w3.heap.size + 1, 0, none⟩), .pointer (some ⟨w3.heap.size + 1 + 1, 0, none⟩)], .agg (ballotA x), undef, undef, undef, undef, undef, undef, undef, undef, undef, undef, undef, undef, undef], defers := [] })
    (fun x a' _ A B row hs hg hr => by
      obtain ⟨Bx, h1, h2, h3⟩ := hs
      refine ⟨Bx, h1, ?_, h3⟩
      refine (hg.block Bx (Array.getElem?_eq_some_iff.1 h2).1 ?_).trans h2
      intro e
      obtain ⟨o, ho, hc⟩ := (hr Bx e.symm).2
      rw [show A.heap[Bx]? = _ from h2] at ho
      cases ho
      cases hc) ?assign ?body ?done ?stop
  case assign =>
    rintro l pre x W K hi hK
    have hsz : w'.heap.size ≤ W.heap.size := hi.q.size
    refine region_plain_in (by rintro ⟨a, w, h⟩; exact h) (by kernel_rfl) ?_
    go_wp2_with (refine wpList_store_blk (Blk.new W 46 ballot0.cells.toArray) rfl 46 (.tmp 10) (.tmp 15) x.cells rfl rfl rfl (by kernel_rfl) (ballot_all _) (Nat.le_refl 7) ?_)
    intro W2 hW hbel
    rw [splice_all _ _ (by rfl)] at hW
    have hqz : Q W W2 := hbel _ _ (Nat.le_refl _) (q_new _ _ _)
    go_wp2_with fail
    exact hK _ _ ((KeepsOthers.of_grownBy (grown_q hqz) (fun j o e _ => by cases e)).from _) ⟨hqz.mono (by omega), KeepT.of_q hqz⟩ (hi.of_q (by omega) hqz) ⟨W.heap.size, hsz, hW, rfl⟩
  case body =>
    rintro l pre x a' W hl ⟨r, hr⟩ hI ⟨Bx, hBx, bX, rfl⟩ hlt
    have hx0 : W.cell? ⟨Bx, 0, none⟩ = some (.int .i64 x.server) := bX.cell 0
    have hx3 : W.cell? ⟨Bx, 3, none⟩ = some (.string x.claim) := bX.cell 3
    have hcl := hI.cl.cell
    have hbe := beq_str x.claim claim
    obtain ⟨A, c, h1, h2⟩ := hI.box
    have HV := Lib.hid (voterL_snoc claim pre x)
    have hlv := voterL_le claim pre
    have hsz : w'.heap.size ≤ W.heap.size := hI.q.size
    clear b1 b2 b3 c1 c2 c3 hT hK hs hr
    refine wpIn_block ?_
    refine wpIn_seq ?_
    refine region_plain_in (by rintro ⟨a, w, h⟩; exact h) (by kernel_rfl) ?_
    by_cases he : x.claim = claim
    · rw [decide_eq_true he] at hbe
      have HE := Lib.hid he
      clear he
      go_wp2_with fail
      refine wpIn_cond_true rfl ?_
      refine region_plain_in (by rintro ⟨a, w, h⟩; exact h) (by kernel_rfl) ?_
      have hc1 := h1.cell
      clear hcl hbe hx3
      go_wp2_with (at_builtin; refine wpList_append_rows (f := intC) (k := 1) (fun _ => rfl) intC_one rfl (.tmp 20) (.tmp 23) 28 3 i0 _ 8 rfl Tryz.underlying28 hi hi0 hi1 hi2 rfl (by decide) (by decide) w.heap.size (.slice A (voterL claim pre).length c) (voterL claim pre).length (voterL claim pre) rfl (h2.alloc (.cells #[.int .i64 x.server] 3)) (some ⟨W.heap.size, 0, none⟩) 1 1 [x.server] rfl (RowsAt.one W 3 x.server _ rfl) rfl (by omega) (by simp; omega) ?_)
      intro A5 c5 w5 hc5 hm5 hown5 hg5
      have eL : (voterL claim pre).length + 1 = (voterL claim (pre ++ [x])).length := by rw [HV.out, if_pos (decide_eq_true HE.out), List.length_append]; rfl
      have eF : (voterL claim pre).flatMap intC ++ intC x.server = (voterL claim (pre ++ [x])).flatMap intC := by rw [HV.out, if_pos (decide_eq_true HE.out), List.flatMap_append]; rfl
      rw [eL, eF] at hown5
      rw [eL]
      have hst := voter_step (x := x) (by omega) (by omega) (by omega) hI h1 h2 (q_new W _ _) hg5 hown5
      have hcb := hst.1.cell
      have hfb := hst.1.frozen
      have HST := Lib.hid hst.2
      clear hst hg5 hown5 eL eF hc1 hx0 h1 h2 hlv HV hI bX
      go_wp2_with fail
      exact ⟨HST.out.1.from _, HST.out.2.1, HST.out.2.2⟩
    · rw [decide_eq_false he] at hbe
      have HN := Lib.hid (show voterL claim (pre ++ [x]) = voterL claim pre by rw [HV.out, decide_eq_false he]; simp)
      clear he
      go_wp2_with fail
      refine wpIn_cond_false rfl ?_
      refine wpIn_skip ?_
      exact ⟨(KeepsOthers.refl _).from _, ⟨Below.refl _ _, KeepT.refl _ _⟩, ⟨A, c, by rw [HN.out]; exact h1, by rw [HN.out]; exact h2⟩, hI.cl, hI.q⟩
  case done =>
    rintro D xs W hD rfl hI hK
    obtain ⟨A, c, h1, h2⟩ := hI.box
    have hc1 := h1.cell
    have hlv := voterL_le claim (ballotsS actor gen k.l)
    rename_i KK hKK d1 d2
    dsimp only [Exit.inBlock, Exit.then]
    refine hKK _ _ ?_
    have HVK : Hid (votersK claim (ballotsS actor gen k.l) = sortU (voterL claim (ballotsS actor gen k.l))) := Lib.hid rfl
    generalize votersK claim (ballotsS actor gen k.l) = VK at *
    generalize voterL claim (ballotsS actor gen k.l) = zs at *
    have hqW : Q w W := Below.trans hqw hI.q
    have hcm : c ≤ maxLen := by
      obtain ⟨A', c', e, _, h⟩ := h2.shape
      injection e with _ _ e
      rw [e]
      exact h
    have hDlt := (Array.getElem?_eq_some_iff.1 hK).1
    clear hI d1 d2 b1 b2 b3 c1 c2 c3 hT hs hKK HZ3
    rcases Nat.eq_zero_or_pos zs.length with h0 | h0
    · have hz : zs = [] := List.length_eq_zero_iff.1 h0
      subst hz
      have hVK : VK = [] := by rw [HVK.out, sortU_nil]
      subst hVK
      go_wp2_with (first | (go_at_call 51; refine (Tryz.slices_Sort_int_none A c _).mono ?_; rintro e w5 ⟨rfl, rfl⟩) | (go_at_call 52; refine (Tryz.slices_Compact_int_empty A c _).mono ?_; rintro e w5 ⟨rfl, rfl⟩))
      refine ⟨by simp, .inl ⟨_, _, rfl, run_takeDeferred hK, ?_⟩⟩
      exact ⟨_, results_tmp rfl _ _ _, A, c, rfl, Nat.zero_le _, hcm, fun h => absurd h (by simp), Below.trans hqW ((Below.refl w.heap.size _).grown (grownBy_putObj' _ D _) (by omega) (fun k e => by cases e; omega))⟩
    · obtain ⟨g, cap, hv, hbg, hgl, hcap, hmx, cur, fz, hgg⟩ := owns_zero h2 h0
      injection hv with hv1 _ hv2
      subst hv1
      subst hv2
      have hS := sortI_any g c zs W (owns_holds h2 rfl) hgl (by omega)
      have hml := mergeSort_len zs
      have hcl := compact_len (zs.mergeSort fun x y => decide (x ≤ y))
      rw [hml] at hcl
      have hC := fun (w5 : World) (hH : Go.Sort.Holds intE w5 g 0 (zs.mergeSort fun x y => decide (x ≤ y)).toArray) => compactI_any g c (zs.mergeSort fun x y => decide (x ≤ y)) w5 hH (by omega) (by omega)
      rw [hml] at hC
      have HV2 : Hid (VK = Lib.compact (zs.mergeSort fun x y => decide (x ≤ y))) := Lib.hid HVK.out
      rw [← HV2.out] at hC hcl
      generalize (zs.mergeSort fun x y => decide (x ≤ y)) = ms at *
      generalize zs.length = m at *
      have hneD : some D ≠ some g := fun e => by
        injection e with e
        subst e
        rw [hK] at hgg
        cases hgg
      have hneB : some (w.heap.size + 1 + 1) ≠ some g := fun e => by
        injection e with e
        rw [← e, show W.heap[w.heap.size + 1 + 1]? = _ from h1] at hgg
        injection hgg with hgg
        injection hgg with _ hgg
        exact absurd hgg (by decide)
      have hBlt := h1.lt
      have HH1 := Lib.hid h1
      have HHK := Lib.hid hK
      clear h2 HVK HV2 hml h1 hK
      go_wp2_with (first | (go_at_call 51; refine hS.mono ?_; rintro e w5 ⟨rfl, hH5, hg5⟩; have hc5 := Boxed.cell ((hg5.block _ hBlt hneB).trans HH1.out); have HHK5 := Lib.hid ((hg5.block D hDlt hneD).trans HHK.out); have hq5 := Below.grown (Below.refl w.heap.size W) hg5 (by omega) (fun k e => by cases e; omega); have hz5 := hg5.size; clear hc1) | (go_at_call 52; refine (hC w5 hH5).mono ?_; rintro e w6 ⟨rfl, hH6, hg6⟩))
      have hK6 := (hg6.block D (by omega) hneD).trans HHK5.out
      have hq6 := Below.grown hq5 hg6 (by omega) (fun k e => by cases e; omega)
      have hz6 := hg6.size
      refine ⟨by simp, .inl ⟨_, _, rfl, run_takeDeferred hK6, ?_⟩⟩
      refine ⟨_, results_tmp rfl _ _ _, some ⟨g, 0, none⟩, c, rfl, by omega, hcm, ints_far (holds_ints hH6 (by omega)) ?_ (World.putObj_heap_other (fun e => hneD (by rw [e]))), Below.trans (Below.trans hqW hq6) ((Below.refl w.heap.size _).grown (grownBy_putObj' _ D _) (by omega) (fun k e => by cases e; omega))⟩
      have := (grownBy_putObj' w6 D (.deferred none)).size
      omega
  case stop =>
    rintro D c pre W _ _ h _
    exact h.elim
end Go.Proofs.YtflgkplneekpfaaGreatDoor.Vot

namespace Go.Proofs.YtflgkplneekpfaaGreatDoor.Vot
open Go.RowKit Grp Mem _root_.Go.Proofs.YtflgkplneekpfaaGreatDoor.Code Sha Sign _root_.Go.Proofs.YtflgkplneekpfaaGreatDoor.Item _root_.Go.Proofs.YtflgkplneekpfaaGreatDoor.Known Rng

attribute [local go_sem] Oper.semAt_some

set_option maxHeartbeats 1000000 in
theorem quorum_any (n : Int) (w : World) (hn : n ≤ 1000000) : Calls Tryz.prog 11 #[.int .i64 n] w fun e w' => e = .returned (.int .i64 (quorumK n)) ∧ Q w w' := by
  by_cases h0 : n ≤ 0
  · have HR := Lib.hid (show quorumK n = 1 by unfold quorumK; rw [if_pos h0])
    go_enter Tryz.func11, Tryz.ntmps11
    go_wp2_with fail
    go_ret
    exact ⟨by rw [HR.out]; rfl, Q.refl _⟩
  · have hR : quorumK n = n / 3 * 2 + n % 3 * 2 / 3 + 1 := by unfold quorumK; rw [if_neg h0]
    have h1 : n.tdiv 3 = n / 3 := Int.tdiv_eq_ediv_of_nonneg (by omega)
    have h2 : n.tmod 3 = n % 3 := Int.tmod_eq_emod_of_nonneg (by omega)
    have h3 : (n % 3 * 2).tdiv 3 = n % 3 * 2 / 3 := Int.tdiv_eq_ediv_of_nonneg (by omega)
    have HR := Lib.hid hR
    have hb1 : 0 ≤ n / 3 ∧ n / 3 ≤ 1000000 := by omega
    have hb2 : 0 ≤ n % 3 ∧ n % 3 < 3 := by omega
    have hb3 : 0 ≤ n % 3 * 2 / 3 ∧ n % 3 * 2 / 3 ≤ 1 := by omega
    clear hR
    generalize n / 3 = d at *
    generalize hm : n % 3 = m at *
    generalize m * 2 / 3 = e at *
    clear hm
    go_enter Tryz.func11, Tryz.ntmps11
    go_wp2_with fail
    go_ret
    exact ⟨by rw [HR.out]; go_num, Q.refl _⟩

/-! ### What holds between two rounds of Own -/
structure OInv (w0 W : World) (n0 bs bl bo : Nat) (server : Int) (acc : ByteArray × Bool) : Prop where
  s : Boxed W bs 3 (.int .i64 server)
  l : Boxed W bl 9 (.string acc.1)
  o : Boxed W bo 4 (.bool acc.2)
  q : Below n0 w0 W
theorem OInv.grown {w0 W W' : World} {n0 bs bl bo : Nat} {server : Int} {acc : ByteArray × Bool} {row : Option Nat} (h : OInv w0 W n0 bs bl bo server acc) (hn : n0 ≤ w0.heap.size) (hg : W.grownBy W' row) (hr : ∀ r, row = some r → n0 ≤ r ∧ ∃ o : Obj, W.heap[r]? = some o ∧ o.isCells = false) : OInv w0 W' n0 bs bl bo server acc := by
  have hr2 := fun r e => (hr r e).2
  exact ⟨boxed_grown h.s hg hr2, boxed_grown h.l hg hr2, boxed_grown h.o hg hr2, h.q.grown hg (Nat.le_trans hn h.q.size) (fun k e => (hr k e).1)⟩
theorem OInv.of_q {w0 W W' : World} {n0 bs bl bo : Nat} {server : Int} {acc : ByteArray × Bool} (h : OInv w0 W n0 bs bl bo server acc) (hn : n0 ≤ w0.heap.size) (hq : Q W W') : OInv w0 W' n0 bs bl bo server acc := h.grown hn (grown_q hq) (fun r e => by cases e)
theorem OInv.step {w0 W : World} {n0 bs bl bo : Nat} {server : Int} {acc : ByteArray × Bool} (h : OInv w0 W n0 bs bl bo server acc) (d : ByteArray) (h1 : n0 ≤ bl) (h2 : n0 ≤ bo) (h3 : bs ≠ bl) (h4 : bs ≠ bo) (h5 : bl ≠ bo) :
    KeepsOthers W ((W.setCell ⟨bl, 0, none⟩ (.string d)).setCell ⟨bo, 0, none⟩ (.bool true)) ∧ KpB n0 46 W ((W.setCell ⟨bl, 0, none⟩ (.string d)).setCell ⟨bo, 0, none⟩ (.bool true)) ∧
    OInv w0 ((W.setCell ⟨bl, 0, none⟩ (.string d)).setCell ⟨bo, 0, none⟩ (.bool true)) n0 bs bl bo server (d, true) := by
  have ho1 : Boxed (W.setCell ⟨bl, 0, none⟩ (.string d)) bo 4 (.bool acc.2) := h.o.other (Ne.symm h5) _
  have hB := ((Below.refl n0 W).setCell (p := ⟨bl, 0, none⟩) h1 (.string d)).setCell (p := ⟨bo, 0, none⟩) h2 (.bool true)
  refine ⟨(KeepsOthers.setCell _ _ _).trans (KeepsOthers.setCell _ _ _), ⟨hB, (KeepT.setCell W ⟨bl, 0, none⟩ (.string d) _ _ h.l (by decide)).trans (KeepT.setCell _ ⟨bo, 0, none⟩ (.bool true) _ _ ho1 (by decide))⟩, (h.s.other h3 _).other h4 _, (h.l.set _).other h5 _, ho1.set _, h.q.trans hB⟩

set_option maxRecDepth 100000 in
set_option maxHeartbeats 4000000 in
theorem own_any (k : KR) (server : Int) (actor : ByteArray) (gen : Int) (w : World) (hT : Tab w) (hK : KIn w k) (hlen : k.l.length ≤ 1000) (hs : SortedF (takeB actor gen k.l)) :
    Calls Tryz.prog 31 #[.agg (knA k), .int .i64 server, .string actor, .int .i64 gen] w fun e w' => e = .returned (.tuple #[.string (ownK server (ballotsS actor gen k.l)).1, .bool (ownK server (ballotsS actor gen k.l)).2]) ∧ Q w w' := by
  have b1 := Blk.new w 31 (knA k)
  have q1 := q_new w (knA k) 31
  have b2 := Blk.new' (g := w.heap.size + 1) (w.alloc (.cells (knA k) 31)) 3 #[.int .i64 server] (by simp)
  have q2 := q_new (w.alloc (.cells (knA k) 31)) #[.int .i64 server] 3
  have b3 := Blk.new' (g := w.heap.size + 1 + 1) ((w.alloc (.cells (knA k) 31)).alloc (.cells #[.int .i64 server] 3)) 9 #[.string ⟨#[]⟩] (by simp)
  have q3 := q_new ((w.alloc (.cells (knA k) 31)).alloc (.cells #[.int .i64 server] 3)) #[.string ⟨#[]⟩] 9
  have b4 := Blk.new' (g := w.heap.size + 1 + 1 + 1) (((w.alloc (.cells (knA k) 31)).alloc (.cells #[.int .i64 server] 3)).alloc (.cells #[.string ⟨#[]⟩] 9)) 4 #[.bool false] (by simp)
  have q4 := q_new (((w.alloc (.cells (knA k) 31)).alloc (.cells #[.int .i64 server] 3)).alloc (.cells #[.string ⟨#[]⟩] 9)) #[.bool false] 4
  have b1 := ((b1.q q2).q q3).q q4
  have b2 := (b2.q q3).q q4
  have b3 := b3.q q4
  have hq := Q.trans (Q.trans (Q.trans q1 q2) q3) q4
  obtain ⟨w3, hw3⟩ : ∃ w3, w3 = (((w.alloc (.cells (knA k) 31)).alloc (.cells #[.int .i64 server] 3)).alloc (.cells #[.string ⟨#[]⟩] 9)).alloc (.cells #[.bool false] 4) := ⟨_, rfl⟩
  rw [← hw3] at b1 b2 b3 b4 hq
  have hLk := Wd.load (P := Tryz.prog) (ty := 31) b1.lt (Blk.range b1) Tryz.underlying31 rfl (by kernel_rfl) ⟨w3, Q.refl w3⟩
  have HZ3 := Lib.hid (show w3.heap.size = w.heap.size + 4 by rw [hw3]; simp)
  have HX := Lib.hid hw3
  clear q1 q2 q3 q4 hw3
  refine (callsIn_wide (n := 6)).1 ?_
  refine callsIn_of_wp_marks Tryz.func31 rfl trivial ?_ rfl
  simp only [Tryz.ntmps31, List.size_toArray, List.length_cons, List.length_nil, Nat.reduceAdd, Nat.reduceSub, Array.replicate_succ, Array.replicate_zero, List.push_toArray, List.append_toArray, List.nil_append, List.cons_append]
  refine wpIn_wide.2 ?_
  go_upto_region 2 with (fail)
  refine (show Code.wp _ _ _ _ w3 → Code.wp _ _ _ _ _ from fun h => by rw [HX.out] at h; exact h) ?_
  go_wp2_with (first | (refine wpList_load_run 31 (.tmp 4) (.pointer (some ⟨w.heap.size, 0, none⟩)) (.agg (knA k)) ?_ ?_ ?_ ?_ ?_; rfl; rfl; rfl; exact hLk) | (go_at_call 50; refine (ballotsF_any k actor gen _).mono ?_; rintro e w' ⟨rfl, hw4⟩))
  have c1 := Blk.new w3 31 (knA k)
  have p1 := q_new w3 (knA k) 31
  have c2 := Blk.new' (g := w3.heap.size + 1) (w3.alloc (.cells (knA k) 31)) 9 #[.string actor] (by simp)
  have p2 := q_new (w3.alloc (.cells (knA k) 31)) #[.string actor] 9
  have c3 := Blk.new' (g := w3.heap.size + 1 + 1) ((w3.alloc (.cells (knA k) 31)).alloc (.cells #[.string actor] 9)) 3 #[.int .i64 gen] (by simp)
  have p3 := q_new ((w3.alloc (.cells (knA k) 31)).alloc (.cells #[.string actor] 9)) #[.int .i64 gen] 3
  have c1 := (c1.q p2).q p3
  have c2 := c2.q p3
  have hp := Q.trans (Q.trans p1 p2) p3
  rw [← hw4] at c1 c2 c3 hp
  have b2 := b2.q hp
  have b3 := b3.q hp
  have b4 := b4.q hp
  have hqw : Q w w' := Q.trans hq hp
  have hz4 : w'.heap.size = w.heap.size + 7 := by have := HZ3.out; rw [hw4]; simp; omega
  try rw [← hw4]
  clear hw4 p1 p2 p3 hp b1 hLk hq HX
  rename_i KK hKK d1 d2
  refine (wpIn_wide (n := 6)).1 ?_
  refine wpIn_rangeFunc_ownH rfl (by decide) (gf := 101) (lb := #[.pointer (some ⟨w3.heap.size, 0, none⟩), .pointer (some ⟨w3.heap.size + 1, 0, none⟩), .pointer (some ⟨w3.heap.size + 1 + 1, 0, none⟩)]) rfl trivial (enters_of Tryz.func101 (by kernel_rfl) rfl)
    (iter_stops 5 (by decide) _ _ _ w.heap.size k actor gen hlen hs w' (hT.q hqw) (hK.q hqw) c1 c2 c3) KpB.trans (fun W l o o' hl h hc hw => KpB.putObj (w := w') (by omega) W l o o' hl h hc hw) (Below.refl _ _) (fun _ => rfl)
    (fun pre W => OInv w' W w.heap.size (w.heap.size + 1) (w.heap.size + 1 + 1) (w.heap.size + 1 + 1 + 1) server (ownK server pre))
    (fun _ _ _ => False)
    (fun s A B row hs hg hr => hs.grown (by omega) hg (fun r e => ⟨by have := (hr r e).1; omega, (hr r e).2⟩))
    (fun _ _ _ _ _ hs _ _ => hs)
    ⟨b2, b3, b4, Below.refl _ _⟩
    (fun x a' W => ∃ Bx, w'.heap.size ≤ Bx ∧ Blk W Bx 46 x.cells.toArray ∧ a' = { tmps := #[.agg (knA k), .int .i64 server, .string actor, .int .i64 gen, .pointer (some ⟨w.heap.size, 0, none⟩), .pointer (some ⟨w.heap.size + 1, 0, none⟩), undef, undef, .string ⟨#[]⟩, .bool false, .pointer (some ⟨w.heap.size + 1 + 1, 0, none⟩), .pointer (some ⟨w.heap.size + 1 + 1 + 1, 0, none⟩), .pointer (some ⟨Bx, 0, none⟩), .agg (knA k), .string actor, .int .i64 gen, .func (.func 101) #[] #[.pointer (some ⟨w3.heap.size, 0, none⟩), .pointer (some ⟨w3.heap.size + 1, 0, none⟩), .pointer (some ⟨w3.heap.size + 1 + 1, 0, none⟩)], .agg (ballotA x), undef, undef, undef, undef, undef, undef, undef, undef, undef, undef, undef, undef, undef, undef, undef, undef, undef, undef], defers := [] })
    (fun x a' _ A B row hs hg hr => by
      obtain ⟨Bx, h1, h2, h3⟩ := hs
      refine ⟨Bx, h1, ?_, h3⟩
      refine (hg.block Bx (Array.getElem?_eq_some_iff.1 h2).1 ?_).trans h2
      intro e
      obtain ⟨o, ho, hc⟩ := (hr Bx e.symm).2
      rw [show A.heap[Bx]? = _ from h2] at ho
      cases ho
      cases hc) ?assign ?body ?done ?stop
  case assign =>
    rintro l pre x W K hi hK
    have hsz : w'.heap.size ≤ W.heap.size := hi.q.size
    refine region_plain_in (by rintro ⟨a, w, h⟩; exact h) (by kernel_rfl) ?_
    go_wp2_with (refine wpList_store_blk (Blk.new W 46 ballot0.cells.toArray) rfl 46 (.tmp 12) (.tmp 17) x.cells rfl rfl rfl (by kernel_rfl) (ballot_all _) (Nat.le_refl 7) ?_)
    intro W2 hW hbel
    rw [splice_all _ _ (by rfl)] at hW
    have hqz : Q W W2 := hbel _ _ (Nat.le_refl _) (q_new _ _ _)
    go_wp2_with fail
    exact hK _ _ ((KeepsOthers.of_grownBy (grown_q hqz) (fun j o e _ => by cases e)).from _) ⟨hqz.mono (by omega), KeepT.of_q hqz⟩ (hi.of_q (by omega) hqz) ⟨W.heap.size, hsz, hW, rfl⟩
  case body =>
    rintro l pre x a' W hl ⟨r, hr⟩ hI ⟨Bx, hBx, bX, rfl⟩ hlt
    have hx0 : W.cell? ⟨Bx, 0, none⟩ = some (.int .i64 x.server) := bX.cell 0
    have hx3 : W.cell? ⟨Bx, 3, none⟩ = some (.string x.claim) := bX.cell 3
    have hcs := hI.s.cell
    have hco := hI.o.cell
    have hcl := hI.l.cell
    have HV := Lib.hid (ownK_snoc server pre x)
    have hst := hI.step x.claim (by omega) (by omega) (by omega) (by omega) (by omega)
    have HST := Lib.hid hst
    have HI := Lib.hid hI
    clear b2 b3 b4 c1 c2 c3 hT hK hs hr hst hKK
    refine wpIn_block ?_
    refine wpIn_seq ?_
    refine region_plain_in (by rintro ⟨a, w, h⟩; exact h) (by kernel_rfl) ?_
    have hfl := hI.l.frozen
    have ho1 : Boxed (W.setCell ⟨w.heap.size + 1 + 1, 0, none⟩ (.string x.claim)) (w.heap.size + 1 + 1 + 1) 4 (.bool (ownK server pre).2) := hI.o.other (by omega) _
    have hco1 := ho1.cell
    have hfo1 := ho1.frozen
    clear ho1 hI
    generalize ownK server pre = acc at *
    obtain ⟨d, ok⟩ := acc
    dsimp only at hco hcl hco1
    have hless : Op.bytesLess x.claim.toList d.toList = lessB x.claim d := rfl
    by_cases he : x.server = server
    · cases ok
      · have HE := Lib.hid (show ownK server (pre ++ [x]) = (x.claim, true) by rw [HV.out]; unfold ownStep; rw [decide_eq_true he]; rfl)
        clear hless
        go_wp2_with fail
        refine wpIn_cond_true rfl ?_
        refine region_plain_in (by rintro ⟨a, w, h⟩; exact h) (by kernel_rfl) ?_
        go_wp2_with fail
        exact ⟨HST.out.1.from _, HST.out.2.1, by dsimp only; rw [HE.out]; exact HST.out.2.2⟩
      · cases hlb : lessB x.claim d
        · rw [hlb] at hless
          have HE := Lib.hid (show ownK server (pre ++ [x]) = (d, true) by rw [HV.out]; unfold ownStep; rw [decide_eq_true he, hlb]; rfl)
          clear hfl hco1 hfo1 hlb
          go_wp2_with fail
          refine wpIn_cond_false rfl ?_
          refine wpIn_skip ?_
          exact ⟨(KeepsOthers.refl _).from _, ⟨Below.refl _ _, KeepT.refl _ _⟩, by dsimp only; rw [HE.out]; exact HI.out⟩
        · rw [hlb] at hless
          have HE := Lib.hid (show ownK server (pre ++ [x]) = (x.claim, true) by rw [HV.out]; unfold ownStep; rw [decide_eq_true he, hlb]; rfl)
          clear hlb
          go_wp2_with fail
          refine wpIn_cond_true rfl ?_
          refine region_plain_in (by rintro ⟨a, w, h⟩; exact h) (by kernel_rfl) ?_
          go_wp2_with fail
          exact ⟨HST.out.1.from _, HST.out.2.1, by dsimp only; rw [HE.out]; exact HST.out.2.2⟩
    · have HE := Lib.hid (show ownK server (pre ++ [x]) = (d, ok) by rw [HV.out]; unfold ownStep; rw [decide_eq_false he]; rfl)
      clear hless hx3 hco hcl
      go_wp2_with fail
      refine wpIn_cond_false rfl ?_
      refine wpIn_skip ?_
      exact ⟨(KeepsOthers.refl _).from _, ⟨Below.refl _ _, KeepT.refl _ _⟩, by dsimp only; rw [HE.out]; exact HI.out⟩
  case done =>
    rintro D xs W hD rfl hI hK
    dsimp only [Exit.inBlock, Exit.then]
    refine hKK _ _ ?_
    have hcl := hI.l.cell
    have hco := hI.o.cell
    have hqW : Q w W := Below.trans hqw hI.q
    obtain ⟨acc, hacc⟩ : ∃ acc, ownK server (ballotsS actor gen k.l) = acc := ⟨_, rfl⟩
    have HA := Lib.hid hacc
    rw [hacc] at hcl hco
    clear hacc
    obtain ⟨d, ok⟩ := acc
    dsimp only at hcl hco
    have hDlt := (Array.getElem?_eq_some_iff.1 hK).1
    clear hI d1 d2 b2 b3 b4 c1 c2 c3 hT hs hKK HZ3
    go_upto_region 6 with (fail)
    go_quiet (fail)
    go_wp2_with fail
    refine ⟨by simp, .inl ⟨_, _, rfl, run_takeDeferred (show (W.drewN nq).heap[D]? = _ from hK), ?_⟩⟩
    exact ⟨_, results_tmp2 rfl _ _ _, by rw [HA.out]; rfl, Below.trans (Q.drewN hqW nq) ((Below.refl w.heap.size _).grown (grownBy_putObj' _ D _) (show w.heap.size ≤ W.heap.size by omega) (fun k e => by cases e; omega))⟩
  case stop =>
    rintro D c pre W _ _ h _
    exact h.elim
end Go.Proofs.YtflgkplneekpfaaGreatDoor.Vot

namespace Go.Proofs.YtflgkplneekpfaaGreatDoor.Vot
open Go.RowKit Grp Mem _root_.Go.Proofs.YtflgkplneekpfaaGreatDoor.Code Sha Sign _root_.Go.Proofs.YtflgkplneekpfaaGreatDoor.Item _root_.Go.Proofs.YtflgkplneekpfaaGreatDoor.Known Rng

/-- Does a claim win, with these ballots? -/
def winsB (q : Int) (bs : List BallotV) (gen : Int) (c : ClaimV) : Bool := decide (c.gen = gen) && decide (q ≤ ((votersK (digOf (itClaim c)) bs).length : Int))
def wonO (q : Int) (bs : List BallotV) (gen : Int) (cs : List ClaimV) : Option ClaimV := cs.find? (winsB q bs gen)
def wonR : Option ClaimV → ClaimV × Bool
  | some c => (c, true)
  | none => (claim0, false)
theorem won_at (q : Int) (bs : List BallotV) (gen : Int) (cs : List ClaimV) (j : Nat) (h : j < cs.length) (hno : wonO q bs gen (cs.take j) = none) (hw : winsB q bs gen cs[j] = true) : wonO q bs gen cs = some cs[j] := by
  unfold wonO at hno ⊢
  conv => lhs; rw [← List.take_append_drop j cs]
  rw [List.find?_append, hno, List.drop_eq_getElem_cons h, List.find?_cons_of_pos hw]
  rfl
theorem won_step (q : Int) (bs : List BallotV) (gen : Int) (cs : List ClaimV) (j : Nat) (h : j < cs.length) (hno : wonO q bs gen (cs.take j) = none) (hw : winsB q bs gen cs[j] = false) : wonO q bs gen (cs.take (j + 1)) = none := by
  unfold wonO at hno ⊢
  rw [List.take_succ_eq_append_getElem h, List.find?_append, hno, List.find?_cons_of_neg (by simp [hw])]
  rfl

theorem build_claim0 (w : World) : (Instr.build 37 #[]).run Tryz.prog w = .ok (.agg (claimA claim0)) w := by kernel_rfl
set_option maxRecDepth 100000 in
set_option maxHeartbeats 4000000 in
theorem won_any (k : KR) (actor : ByteArray) (gen : Int) (w : World) (hT : Tab w) (hK : KIn w k) (hlen : k.l.length ≤ 1000) (hsv : k.sv.length ≤ 1000000) (hs : SortedF (takeB actor gen k.l)) (hs2 : SortedF (takeCl actor k.l)) :
    Calls Tryz.prog 16 #[.agg (knA k), .string actor, .int .i64 gen] w fun e w' => e = .returned (.tuple #[.agg (claimA (wonR (wonO (quorumK k.sv.length) (ballotsS actor gen k.l) gen (claimsS actor k.l))).1), .bool (wonR (wonO (quorumK k.sv.length) (ballotsS actor gen k.l) gen (claimsS actor k.l))).2]) ∧ Q w w' := by
  have h1 := Blk.new w 31 (knA k)
  have q1 := q_new w (knA k) 31
  have h2 := Blk.new' (g := w.heap.size + 1) (w.alloc (.cells (knA k) 31)) 37 (claimA claim0) (by simp)
  have q2 := q_new (w.alloc (.cells (knA k) 31)) (claimA claim0) 37
  obtain ⟨w3, hw3⟩ : ∃ w3, w3 = ((w.alloc (.cells (knA k) 31)).alloc (.cells (claimA claim0) 37)) := ⟨_, rfl⟩
  have h1 := h1.q q2
  have hq := Q.trans q1 q2
  rw [← hw3] at h1 h2 hq
  have cS : ∀ y : Wd w3, y.w.cell? ⟨w.heap.size, 0, none⟩ = some (.slice k.sA k.sv.length k.sC) := fun y => (y.blk h1).cell 0
  have hBr : ∀ y : Wd w3, Blk y.w (w.heap.size + 1) 37 claim0.cells.toArray := fun y => y.blk h2
  have hLk : ∀ y : Wd w3, (Instr.loadAt 31 (.pointer (some ⟨w.heap.size, 0, none⟩))).run Tryz.prog y.w = .ok (.agg (knA k)) y.w := Wd.load h1.lt (Blk.range h1) Tryz.underlying31 rfl (by kernel_rfl)
  have hQu : ∀ y : Wd w3, Calls Tryz.prog 11 #[.int .i64 (k.sv.length : Int)] y.w fun e w' => e = .returned (.int .i64 (quorumK k.sv.length)) ∧ Q y.w w' := fun y => quorum_any _ y.w (by omega)
  have hCl : ∀ y : Wd w3, Calls Tryz.prog 53 #[.agg (knA k), .string actor] y.w (ListClAre (claimsS actor k.l) y.w) := fun y => claimsS_any k actor y.w (hT.q (Q.trans hq y.q)) (hK.q (Q.trans hq y.q)) hlen hs2
  have hVo : ∀ (claim : ByteArray) (y : Wd w3), Calls Tryz.prog 14 #[.agg (knA k), .string claim, .string actor, .int .i64 gen] y.w (VotersAre (votersK claim (ballotsS actor gen k.l)) y.w) := fun claim y => voters_any k claim actor gen y.w (hT.q (Q.trans hq y.q)) (hK.q (Q.trans hq y.q)) hlen hs
  have hTy : ∀ y : Wd w3, Tab y.w := fun y => hT.q (Q.trans hq y.q)
  have HQ := Lib.hid hq
  obtain ⟨u, hu⟩ : ∃ u : Wd w3, u.w = w3 := ⟨⟨w3, Q.refl _⟩, rfl⟩
  have HX := Lib.hid (hu.trans hw3)
  have hg3 := h2.lt
  have hlb : k.sv.length ≤ 9223372036854775807 := by omega
  have hcl9 : (claimsS actor k.l).length ≤ 1000 := by
    unfold claimsS
    rw [List.length_map]
    have := takeCl_le actor k.l k.l.length
    rw [List.take_length] at this
    omega
  have hvl : ∀ claim, (votersK claim (ballotsS actor gen k.l)).length ≤ 1000 := fun claim => by
    have h := voters_le claim (ballotsS actor gen k.l)
    unfold ballotsS at h ⊢
    rw [List.length_map] at h
    have := takeB_le actor gen k.l k.l.length
    rw [List.take_length] at this
    omega
  clear hu hw3 h1 h2 q1 q2 hq hs hs2
  generalize ballotsS actor gen k.l = BS at *
  generalize claimsS actor k.l = L at *
  generalize quorumK k.sv.length = QU at *
  go_enter Tryz.func16, Tryz.ntmps16
  go_upto_region 1 with (fail)
  refine (show Code.wp _ _ _ _ u.w → Code.wp _ _ _ _ _ from fun h => by rw [HX.out] at h; exact h) ?_
  go_wp2_with (first | (go_at_call 11; refine (hQu _).mono ?_; rintro e w' ⟨rfl, hq2⟩; obtain ⟨u2, rfl⟩ := Wd.next _ hq2; clear hq2) | (refine wpList_load_run 31 (.tmp 3) (.pointer (some ⟨w.heap.size, 0, none⟩)) (.agg (knA k)) ?_ ?_ ?_ ?_ ?_; rfl; rfl; rfl; exact hLk _) | (go_at_call 53; refine (hCl _).mono ?_; rintro e w' ⟨A, c, rfl, hlc, hcm, hR, hq2⟩; obtain ⟨u3, rfl⟩ := Wd.next _ hq2; have hRy : ∀ y : Wd u3.w, RowsAt y.w A 9 ClaimV.cells L := (fun y => hR.q y.q); clear hq2))
  clear hQu hCl hR
  go_loopw [20] (fun i wr => ∃ (j : Nat) (z : Wd w3), i = .int .i64 j ∧ wr = z.w ∧ j ≤ L.length ∧ Q u3.w z.w ∧ Hid (wonO QU BS gen (L.take j) = none)) (fun i _ => L.length - (intOf i).toNat)
  case atStart => exact ⟨0, u3, rfl, rfl, Nat.zero_le _, Q.refl _, Lib.hid rfl⟩
  case round =>
    obtain ⟨j, z, rfl, rfl, hj, hqz0, hno⟩ := hrel
    by_cases hlt : j < L.length
    · obtain ⟨b, o, eA, hb, hcs⟩ := hRy ⟨z.w, hqz0⟩ (by omega)
      have hld : ∀ y : Wd z.w, (Instr.loadAt 37 (.pointer (some ⟨b, o + j * 9, none⟩))).run Tryz.prog y.w = .ok (.agg (claimA L[j])) y.w := Wd.load hb (hcs j hlt) Tryz.underlying37 rfl (by kernel_rfl)
      have HA := Lib.hid (fun h => won_at QU BS gen L j hlt hno.out h)
      have HS := Lib.hid (fun h => won_step QU BS gen L j hlt hno.out h)
      have hzs := z.q.size
      rw [eA]
      clear hcs hno
      generalize L[j] = x at *
      go_wp2_with (first | (refine wpList_load_run 37 (.tmp 22) (.pointer (some ⟨b, o + j * 9, none⟩)) (.agg (claimA x)) ?_ ?_ ?_ ?_ ?_; rfl; rfl; rfl; exact hld ⟨_, Q.refl _⟩) | (refine wpList_store_blk (Blk.new z.w 37 claim0.cells.toArray) rfl 37 (.tmp 10) (.tmp 23) x.cells rfl rfl rfl (by kernel_rfl) (claim_all _) (Nat.le_refl 9) ?_))
      intro W hW hbel
      rw [splice_all _ _ (by rfl)] at hW
      have hqz : Q z.w W := hbel _ _ (Nat.le_refl _) (q_new _ _ _)
      have hq3 : Q w3 W := Q.trans z.q hqz
      have hLi : ∀ y : Wd W, (Instr.loadAt 37 (.pointer (some ⟨z.w.heap.size, 0, none⟩))).run Tryz.prog y.w = .ok (.agg (claimA x)) y.w := Wd.load hW.lt (Blk.range hW) Tryz.underlying37 rfl (by kernel_rfl)
      have hgn : ∀ y : Wd W, y.w.cell? ⟨z.w.heap.size, 3, none⟩ = some (.int .i64 x.gen) := fun y => (y.blk hW).cell 3
      have hBr' : ∀ y : Wd W, Blk y.w (w.heap.size + 1) 37 claim0.cells.toArray := fun y => hBr ⟨y.w, Q.trans hq3 y.q⟩
      have hLk' : ∀ y : Wd W, (Instr.loadAt 31 (.pointer (some ⟨w.heap.size, 0, none⟩))).run Tryz.prog y.w = .ok (.agg (knA k)) y.w := fun y => hLk ⟨y.w, Q.trans hq3 y.q⟩
      have hof : ∀ y : Wd W, Calls Tryz.prog 13 #[.agg (claimA x)] y.w fun e w' => e = .returned (.agg (itA (itClaim x))) ∧ Q y.w w' := fun y => ofClaim_any x y.w
      have hdg : ∀ y : Wd W, Calls Tryz.prog 25 #[.agg (itA (itClaim x))] y.w fun e w' => e = .returned (.string (digOf (itClaim x))) ∧ Q y.w w' := fun y => digest_any (itClaim x) y.w (hTy ⟨y.w, Q.trans hq3 y.q⟩) (itClaim_in x y.w)
      have hvo : ∀ y : Wd W, Calls Tryz.prog 14 #[.agg (knA k), .string (digOf (itClaim x)), .string actor, .int .i64 gen] y.w (VotersAre (votersK (digOf (itClaim x)) BS) y.w) := fun y => hVo _ ⟨y.w, Q.trans hq3 y.q⟩
      have hvl2 := hvl (digOf (itClaim x))
      have HQ3 := Lib.hid hq3
      have HQU := Lib.hid (Q.trans hqz0 hqz)
      have HW : Hid (winsB QU BS gen x = (decide (x.gen = gen) && decide (QU ≤ ((votersK (digOf (itClaim x)) BS).length : Int)))) := Lib.hid rfl
      obtain ⟨v, hv⟩ := Wd.first W
      rw [hv]
      clear hW hbel hld hv hqz hq3 hqz0 hVo hvl hTy hBr hLk cS
      generalize digOf (itClaim x) = d at *
      generalize itClaim x = it at *
      generalize votersK d BS = V at *
      by_cases hg : x.gen = gen
      · by_cases hqu : QU ≤ (V.length : Int)
        · have HF := Lib.hid (HA.out (by rw [HW.out, decide_eq_true hg, decide_eq_true hqu]; rfl))
          go_wp2_with (first | (refine wpList_load_run 37 (.tmp 10) (.pointer (some ⟨z.w.heap.size, 0, none⟩)) (.agg (claimA x)) ?_ ?_ ?_ ?_ ?_; rfl; rfl; rfl; exact hLi _) | (refine wpList_load_run 31 (.tmp 3) (.pointer (some ⟨w.heap.size, 0, none⟩)) (.agg (knA k)) ?_ ?_ ?_ ?_ ?_; rfl; rfl; rfl; exact hLk' _) | (go_at_call 13; refine (hof _).mono ?_; rintro e w' ⟨rfl, hq2⟩; obtain ⟨y, rfl⟩ := Wd.next _ hq2; clear hq2) | (go_at_call 25; refine (hdg _).mono ?_; rintro e w' ⟨rfl, hq2⟩; obtain ⟨y2, rfl⟩ := Wd.next _ hq2; clear hq2) | (go_at_call 14; refine (hvo _).mono ?_; rintro e w' ⟨A2, c2, rfl, hl2, hm2, hI2, hq2⟩; obtain ⟨y3, rfl⟩ := Wd.next _ hq2; clear hq2) | (refine wpList_store_far (hBr' _) rfl 37 (.tmp 6) (.tmp 39) x.cells rfl rfl rfl (by kernel_rfl) (claim_all _) (Nat.le_refl 9) ?_))
          intro W2 hW2 hbel2 hfar2
          rw [splice_all _ _ (by rfl)] at hW2
          have hqW : Q w W2 := hbel2 _ _ (by omega) (Q.trans (Q.trans HQ.out HQ3.out) (Wd.q _))
          clear hbel2 hfar2
          go_wp2_with fail
          exact bodyPost_ret (results_row_tmp rfl _ _ (w.heap.size + 1) 37 (claimA x) (0, 0) _ _ rfl rfl hW2 Tryz.underlying37 rfl (by kernel_rfl)) rfl ⟨by rw [HF.out]; rfl, hqW⟩
        · have HN := Lib.hid (HS.out (by rw [HW.out, decide_eq_true hg, decide_eq_false hqu]; rfl))
          go_wp2_with (first | (refine wpList_load_run 37 (.tmp 10) (.pointer (some ⟨z.w.heap.size, 0, none⟩)) (.agg (claimA x)) ?_ ?_ ?_ ?_ ?_; rfl; rfl; rfl; exact hLi _) | (refine wpList_load_run 31 (.tmp 3) (.pointer (some ⟨w.heap.size, 0, none⟩)) (.agg (knA k)) ?_ ?_ ?_ ?_ ?_; rfl; rfl; rfl; exact hLk' _) | (go_at_call 13; refine (hof _).mono ?_; rintro e w' ⟨rfl, hq2⟩; obtain ⟨y, rfl⟩ := Wd.next _ hq2; clear hq2) | (go_at_call 25; refine (hdg _).mono ?_; rintro e w' ⟨rfl, hq2⟩; obtain ⟨y2, rfl⟩ := Wd.next _ hq2; clear hq2) | (go_at_call 14; refine (hvo _).mono ?_; rintro e w' ⟨A2, c2, rfl, hl2, hm2, hI2, hq2⟩; obtain ⟨y3, rfl⟩ := Wd.next _ hq2; clear hq2))
          exact ⟨⟨j + 1, ⟨y3.w, Q.trans HQ3.out y3.q⟩, by go_num, rfl, by omega, Q.trans HQU.out y3.q, HN⟩, by simp only [intOf]; omega⟩
      · have HN := Lib.hid (HS.out (by rw [HW.out, decide_eq_false hg]; rfl))
        go_wp2_with fail
        exact ⟨⟨j + 1, ⟨v.w, Q.trans HQ3.out v.q⟩, by go_num, rfl, by omega, Q.trans HQU.out v.q, HN⟩, by simp only [intOf]; omega⟩
    · have hjn : j = L.length := by omega
      have hall : L.take j = L := List.take_of_length_le (by omega)
      have HN := Lib.hid (show wonO QU BS gen L = none by rw [← hall]; exact hno.out)
      clear hno hall hVo hvl hTy hLk cS
      go_wp2_with (first | (refine wpList_build_run 37 _ #[] (.agg (claimA claim0)) rfl rfl (by simp) (build_claim0 _) ?_) | (refine wpList_store_far (hBr z) rfl 37 (.tmp 6) (.tmp 41) claim0.cells rfl rfl rfl (by kernel_rfl) (claim_all _) (Nat.le_refl 9) ?_))
      intro W2 hW2 hbel2 hfar2
      rw [splice_all _ _ (by rfl)] at hW2
      have hqW : Q w W2 := hbel2 _ _ (by omega) (Q.trans HQ.out z.q)
      clear hbel2 hfar2
      go_wp2_with fail
      exact bodyPost_ret (results_row_tmp rfl _ _ (w.heap.size + 1) 37 (claimA claim0) (0, 0) _ _ rfl rfl hW2 Tryz.underlying37 rfl (by kernel_rfl)) rfl ⟨by rw [HN.out]; rfl, hqW⟩
end Go.Proofs.YtflgkplneekpfaaGreatDoor.Vot

namespace Go.Proofs.YtflgkplneekpfaaGreatDoor.Vot
open Go.RowKit Grp Mem _root_.Go.Proofs.YtflgkplneekpfaaGreatDoor.Code Sha Sign _root_.Go.Proofs.YtflgkplneekpfaaGreatDoor.Item _root_.Go.Proofs.YtflgkplneekpfaaGreatDoor.Known Rng

theorem take_eq18 {l m : List Int} {j : Nat} (h : j < l.length) (h' : j < m.length) (h0 : l.take j = m.take j) (he : l[j] = m[j]) : l.take (j + 1) = m.take (j + 1) := by
  rw [List.take_succ_eq_append_getElem h, List.take_succ_eq_append_getElem h', h0, he]
set_option maxRecDepth 100000 in
set_option maxHeartbeats 4000000 in
theorem rsameInts_any (A B : Option Addr) (c d : Nat) (l m : List Int) (w : World) (hl : l.length ≤ 9223372036854775807) (hm : m.length ≤ 9223372036854775807) (hA : Ints w A l) (hB : Ints w B m) :
    Calls Tryz.prog 33 #[.slice A l.length c, .slice B m.length d] w fun e w' => e = .returned (.bool (decide (l = m))) ∧ Q w w' := by
  by_cases hn : l.length = m.length
  rotate_left
  · have HR := Lib.hid (show decide (l = m) = false from decide_eq_false fun h => hn (by rw [h]))
    have hne : ((l.length : Int) != (m.length : Int)) = true := by rw [bne_iff_ne]; omega
    have hne2 : ¬ ((l.length : Int) = (m.length : Int)) := by omega
    go_enter Tryz.func33, Tryz.ntmps33
    go_wp2_with fail
    go_ret
    exact ⟨by rw [HR.out]; rfl, Q.refl _⟩
  obtain ⟨x, hx⟩ := Wd.first w
  refine (show Calls Tryz.prog 33 #[.slice A l.length c, .slice B m.length d] x.w (fun e w' => e = .returned (.bool (decide (l = m))) ∧ Q w w') → _ from fun h => by rwa [← hx] at h) ?_
  clear hx
  rw [← hn]
  go_enter Tryz.func33, Tryz.ntmps33
  go_wp2_with fail
  go_loopw [5] (fun i wr => ∃ (j : Nat) (z : Wd w), i = .int .i64 j ∧ wr = z.w ∧ j ≤ l.length ∧ Hid (l.take j = m.take j)) (fun i _ => l.length - (intOf i).toNat)
  case atStart => exact ⟨0, x, rfl, rfl, Nat.zero_le _, Lib.hid rfl⟩
  case round =>
    obtain ⟨j, z, rfl, rfl, hj, hjt⟩ := hrel
    by_cases hlt : j < l.length
    · obtain ⟨b1, o1, e1, hb1, hc1⟩ := (hA.q z.q) (by omega)
      obtain ⟨b2, o2, e2, hb2, hc2⟩ := (hB.q z.q) (by omega)
      have hlt2 : j < m.length := by omega
      have h1 := hc1 j hlt
      have h2 := hc2 j hlt2
      have c1 : ∀ y : Wd z.w, y.w.cell? ⟨b1, o1 + j, none⟩ = some (.int .i64 l[j]) := fun y => (y.q.cell (p := ⟨b1, o1 + j, none⟩) hb1).trans h1
      have c2 : ∀ y : Wd z.w, y.w.cell? ⟨b2, o2 + j, none⟩ = some (.int .i64 m[j]) := fun y => (y.q.cell (p := ⟨b2, o2 + j, none⟩) hb2).trans h2
      have hjl : (j : Int) < (l.length : Int) := by omega
      have HST := Lib.hid (fun he : l[j] = m[j] => take_eq18 hlt hlt2 hjt.out he)
      have HNE := Lib.hid (show l[j] ≠ m[j] → decide (l = m) = false from fun h => decide_eq_false fun e => h (by simp only [e]))
      rw [e1, e2]
      clear hc1 hc2 h1 h2 e1 e2
      generalize l[j] = p at *
      generalize m[j] = q at *
      obtain ⟨v, hv⟩ := Wd.first z.w
      rw [hv]
      clear hv
      by_cases hpq : p = q
      · have hb : (p != q) = false := by simpa using hpq
        go_upto_region 6 with (fail)
        refine wp_region_wd v (by kernel_rfl) (by kernel_rfl) ?_
        repeat (go_big_quiet_step (fail))
        refine wpQuiet_nil ?_
        rintro w'' ⟨y, rfl⟩
        go_wp2_with fail
        exact ⟨⟨j + 1, ⟨y.w, Q.trans z.q y.q⟩, by go_num, rfl, by omega, Lib.hid (HST.out hpq)⟩, by simp only [intOf]; omega⟩
      · have hb : (p != q) = true := by simpa using hpq
        go_upto_region 6 with (fail)
        refine wp_region_wd v (by kernel_rfl) (by kernel_rfl) ?_
        repeat (go_big_quiet_step (fail))
        refine wpQuiet_nil ?_
        rintro w'' ⟨y, rfl⟩
        go_wp2_with fail
        go_ret
        exact ⟨by rw [HNE.out hpq]; rfl, Q.trans z.q y.q⟩
    · have hjn : j = l.length := by omega
      have HR := Lib.hid (show decide (l = m) = true from decide_eq_true (by have := hjt.out; rw [hjn, List.take_length, hn, List.take_length] at this; exact this))
      clear hjn
      go_wp2_with fail
      go_ret
      exact ⟨by rw [HR.out]; rfl, z.q⟩


/-! ### Quorum -/
set_option maxHeartbeats 1000000 in
theorem rquorum_any (n : Int) (w : World) (hn1 : -1000000 ≤ n) (hn : n ≤ 1000000) : Calls Tryz.prog 35 #[.int .i64 n] w fun e w' => e = .returned (.int .i64 (quorumK n)) ∧ Q w w' := by
  have hQ : 1 ≤ quorumK n ∧ quorumK n ≤ 1000001 ∧ 2 * n < 3 * quorumK n ∧ (quorumK n = 1 ∨ 3 * (quorumK n - 1) ≤ 2 * n) := by
    unfold quorumK
    split <;> omega
  obtain ⟨qa, qb, qc, qd⟩ := hQ
  generalize quorumK n = q at *
  go_enter Tryz.func35, Tryz.ntmps35
  go_wp2_with fail
  go_loopw [3] (fun i wr => ∃ j : Int, i = .int .i64 j ∧ wr = w ∧ 1 ≤ j ∧ j ≤ q) (fun i _ => (q - intOf i).toNat)
  case atStart => exact ⟨1, rfl, rfl, by omega, by omega⟩
  case round =>
    obtain ⟨j, rfl, rfl, h0, hj⟩ := hrel
    by_cases hlt : 3 * j ≤ 2 * n
    · go_wp2_with fail
      exact ⟨⟨j + 1, by go_num, by trivial, by omega, by omega⟩, by simp only [intOf]; omega⟩
    · obtain rfl : j = q := by omega
      go_wp2_with fail
      go_ret
      exact ⟨rfl, Q.refl _⟩

/-! ### Votes -/
def votesB (s : Int) (claim actor : ByteArray) (gen : Int) (x : ItemR) : Bool := decide (x.kind = 2) && (decide (x.ballot.server = s) && (decide (x.ballot.claim = claim) && (decide (x.ballot.actor = actor) && decide (x.ballot.gen = gen))))
theorem any_take_next {α : Type} (l : List α) (p : α → Bool) (j : Nat) (h : j < l.length) (h0 : (l.take j).any p = false) (h1 : p l[j] = false) : (l.take (j + 1)).any p = false := by
  rw [List.take_succ_eq_append_getElem h, List.any_append, h0]
  simp [h1]
theorem any_at {α : Type} (l : List α) (p : α → Bool) (j : Nat) (h : j < l.length) (h1 : p l[j] = true) : l.any p = true := List.any_eq_true.2 ⟨_, List.getElem_mem h, h1⟩
theorem votes_ways (s : Int) (claim actor : ByteArray) (gen : Int) (x : ItemR) :
    (votesB s claim actor gen x = false ∧ ¬ x.kind = 2) ∨ (votesB s claim actor gen x = false ∧ x.kind = 2 ∧ ¬ x.ballot.server = s) ∨ (votesB s claim actor gen x = false ∧ x.kind = 2 ∧ x.ballot.server = s ∧ x.ballot.claim ≠ claim) ∨
      (votesB s claim actor gen x = false ∧ x.kind = 2 ∧ x.ballot.server = s ∧ x.ballot.claim = claim ∧ x.ballot.actor ≠ actor) ∨ (votesB s claim actor gen x = false ∧ x.kind = 2 ∧ x.ballot.server = s ∧ x.ballot.claim = claim ∧ x.ballot.actor = actor ∧ ¬ x.ballot.gen = gen) ∨
      (votesB s claim actor gen x = true ∧ x.kind = 2 ∧ x.ballot.server = s ∧ x.ballot.claim = claim ∧ x.ballot.actor = actor ∧ x.ballot.gen = gen) := by
  unfold votesB
  by_cases h1 : x.kind = 2 <;> by_cases h2 : x.ballot.server = s <;> by_cases h3 : x.ballot.claim = claim <;> by_cases h4 : x.ballot.actor = actor <;> by_cases h5 : x.ballot.gen = gen <;> simp [h1, h2, h3, h4, h5]
theorem at0 {w : World} {b o : Nat} {v : Value} (h : w.cell? ⟨b, o + 0, none⟩ = some v) : w.cell? ⟨b, o, none⟩ = some v := h
set_option maxRecDepth 100000 in
set_option maxHeartbeats 4000000 in
theorem rvotes_any (k : KR) (s : Int) (claim actor : ByteArray) (gen : Int) (w : World) (hK : KIn w k) (hn : k.l.length ≤ 100000) :
    Calls Tryz.prog 66 #[.agg (knA k), .int .i64 s, .string claim, .string actor, .int .i64 gen] w fun e w' => e = .returned (.bool (k.l.any (votesB s claim actor gen))) ∧ Q w w' := by
  obtain ⟨w1, x, hx, hq1, hbk⟩ := boxedB w 31 k.cells
  have hx : w.alloc (.cells (knA k) 31) = x.w := hx
  have cI : ∀ y : Wd w1, y.w.cell? ⟨w.heap.size, 1, none⟩ = some (.slice k.iA k.l.length k.iC) := fun y => (y.blk hbk).cell 1
  have hIt : ∀ y : Wd w1, RowsAt y.w k.iA 49 ItemR.cells k.l := fun y => (hK.q (Q.trans hq1 y.q)).items.rows
  have HQ := Lib.hid hq1
  have hlt1 := hbk.lt
  clear hbk hq1 hK
  generalize hn0 : k.l.length = n0 at *
  go_enter Tryz.func66, Tryz.ntmps66
  go_wp2_with fail
  go_loopw [11] (fun i wr => ∃ (j : Nat) (z : Wd w1), i = .int .i64 j ∧ wr = z.w ∧ j ≤ n0 ∧ Hid ((k.l.take j).any (votesB s claim actor gen) = false)) (fun i _ => n0 - (intOf i).toNat)
  case atStart => exact ⟨0, x, rfl, rfl, Nat.zero_le _, Lib.hid rfl⟩
  case round =>
    obtain ⟨j, z, rfl, rfl, hj, hno⟩ := hrel
    by_cases hlt : j < n0
    · have hltI : (j : Int) < (n0 : Int) := by omega
      have hltL : j < k.l.length := by omega
      obtain ⟨b, o, eA, hb, hcell⟩ := hIt z (by omega)
      have cIz : ∀ y : Wd z.w, y.w.cell? ⟨w.heap.size, 1, none⟩ = some (.slice (some ⟨b, o, none⟩) n0 k.iC) := fun y => eA ▸ cI ⟨y.w, Q.trans z.q y.q⟩
      have hcj := hcell j hltL
      have hrv : z.w.rangeAt b (o + j * 49 + 30) k.l[j].ballot.cells := range_sub hcj 30 7
      have hLv : ∀ y : Wd z.w, (Instr.loadAt 46 (.pointer (some ⟨b, o + j * 49 + 30, none⟩))).run Tryz.prog y.w = .ok (.agg (ballotA k.l[j].ballot)) y.w := Wd.load hb hrv Tryz.underlying46 rfl (by kernel_rfl)
      have hcK : ∀ y : Wd z.w, y.w.cell? ⟨b, o + j * 49, none⟩ = some (.int .i64 k.l[j].kind) := fun y => at0 (Wd.get hb hcj 0 rfl y)
      have HN := Lib.hid (any_take_next k.l (votesB s claim actor gen) j hltL hno.out)
      have HY := Lib.hid (any_at k.l (votesB s claim actor gen) j hltL)
      have hways := votes_ways s claim actor gen k.l[j]
      have hzs := z.q.size
      have d0 := cIz ⟨z.w, Q.refl _⟩
      dsimp only at d0
      clear hcell hcj hrv hno cI hIt eA
      generalize k.l[j] = it at *
      go_wp2_with (first | (refine wpList_index_rows 29 50 (.tmp 21) (.tmp 22) b o n0 k.iC j 49 rfl rfl rfl rfl Tryz.underlying29 (by kernel_rfl) Tryz.sizeOf50 hlt ?_) | (refine wpList_load_run 46 (.tmp 24) (.pointer (some ⟨b, o + j * 49 + 30, none⟩)) (.agg (ballotA it.ballot)) ?_ ?_ ?_ ?_ ?_; rfl; rfl; rfl; exact hLv ⟨_, Q.refl _⟩) | (refine wpList_store_blk (Blk.new z.w 46 ballot0.cells.toArray) rfl 46 (.tmp 12) (.tmp 25) it.ballot.cells rfl rfl rfl (by kernel_rfl) (ballot_all _) (Nat.le_refl 7) ?_))
      intro W hW hbel
      rw [splice_all _ _ (by rfl)] at hW
      have hqW : Q z.w W := hbel _ _ (Nat.le_refl _) (q_new _ _ _)
      have e0 : W.cell? ⟨z.w.heap.size, 0, none⟩ = some (.int .i64 it.ballot.server) := hW.cell 0
      have e1 : W.cell? ⟨z.w.heap.size, 1, none⟩ = some (.string it.ballot.actor) := hW.cell 1
      have e2 : W.cell? ⟨z.w.heap.size, 2, none⟩ = some (.int .i64 it.ballot.gen) := hW.cell 2
      have e3 : W.cell? ⟨z.w.heap.size, 3, none⟩ = some (.string it.ballot.claim) := hW.cell 3
      have dW := cIz ⟨W, hqW⟩
      have kW := hcK ⟨W, hqW⟩
      dsimp only at dW kW
      have HQW := Lib.hid (Q.trans z.q hqW)
      clear hW hbel hqW cIz hcK hLv d0
      rcases hways with ⟨HB, h1⟩ | ⟨HB, h1, h2⟩ | ⟨HB, h1, h2, h3⟩ | ⟨HB, h1, h2, h3, h4⟩ | ⟨HB, h1, h2, h3, h4, h5⟩ | ⟨HB, h1, h2, h3, h4, h5⟩
      · have HE := Lib.hid (HN.out HB)
        have n1 : (it.kind == 2) = false := by simpa using h1
        clear HN HY HB
        go_wp2_with (refine wpList_index_rows 29 50 (.tmp 27) (.tmp 28) b o n0 k.iC j 49 rfl rfl rfl rfl Tryz.underlying29 (by kernel_rfl) Tryz.sizeOf50 hlt ?_)
        exact ⟨⟨j + 1, ⟨W, HQW.out⟩, by go_num, rfl, by omega, HE⟩, by simp only [intOf]; omega⟩
      · have HE := Lib.hid (HN.out HB)
        have n1 : (it.kind == 2) = true := by simpa using h1
        have n2 : (it.ballot.server == s) = false := by simpa using h2
        clear HN HY HB
        go_wp2_with (refine wpList_index_rows 29 50 (.tmp 27) (.tmp 28) b o n0 k.iC j 49 rfl rfl rfl rfl Tryz.underlying29 (by kernel_rfl) Tryz.sizeOf50 hlt ?_)
        exact ⟨⟨j + 1, ⟨W, HQW.out⟩, by go_num, rfl, by omega, HE⟩, by simp only [intOf]; omega⟩
      · have HE := Lib.hid (HN.out HB)
        have n1 : (it.kind == 2) = true := by simpa using h1
        have n2 : (it.ballot.server == s) = true := by simpa using h2
        have n3 : (it.ballot.claim.toList == claim.toList) = false := beq_eq_false_iff_ne.2 (str_ne h3)
        clear HN HY HB
        go_wp2_with (refine wpList_index_rows 29 50 (.tmp 27) (.tmp 28) b o n0 k.iC j 49 rfl rfl rfl rfl Tryz.underlying29 (by kernel_rfl) Tryz.sizeOf50 hlt ?_)
        exact ⟨⟨j + 1, ⟨W, HQW.out⟩, by go_num, rfl, by omega, HE⟩, by simp only [intOf]; omega⟩
      · have HE := Lib.hid (HN.out HB)
        have n1 : (it.kind == 2) = true := by simpa using h1
        have n2 : (it.ballot.server == s) = true := by simpa using h2
        have n3 : (it.ballot.claim.toList == claim.toList) = true := by rw [h3]; simp
        have n4 : (it.ballot.actor.toList == actor.toList) = false := beq_eq_false_iff_ne.2 (str_ne h4)
        clear HN HY HB
        go_wp2_with (refine wpList_index_rows 29 50 (.tmp 27) (.tmp 28) b o n0 k.iC j 49 rfl rfl rfl rfl Tryz.underlying29 (by kernel_rfl) Tryz.sizeOf50 hlt ?_)
        exact ⟨⟨j + 1, ⟨W, HQW.out⟩, by go_num, rfl, by omega, HE⟩, by simp only [intOf]; omega⟩
      · have HE := Lib.hid (HN.out HB)
        have n1 : (it.kind == 2) = true := by simpa using h1
        have n2 : (it.ballot.server == s) = true := by simpa using h2
        have n3 : (it.ballot.claim.toList == claim.toList) = true := by rw [h3]; simp
        have n4 : (it.ballot.actor.toList == actor.toList) = true := by rw [h4]; simp
        have n5 : (it.ballot.gen == gen) = false := by simpa using h5
        clear HN HY HB
        go_wp2_with (refine wpList_index_rows 29 50 (.tmp 27) (.tmp 28) b o n0 k.iC j 49 rfl rfl rfl rfl Tryz.underlying29 (by kernel_rfl) Tryz.sizeOf50 hlt ?_)
        exact ⟨⟨j + 1, ⟨W, HQW.out⟩, by go_num, rfl, by omega, HE⟩, by simp only [intOf]; omega⟩
      · have HE := Lib.hid (HY.out HB)
        have n1 : (it.kind == 2) = true := by simpa using h1
        have n2 : (it.ballot.server == s) = true := by simpa using h2
        have n3 : (it.ballot.claim.toList == claim.toList) = true := by rw [h3]; simp
        have n4 : (it.ballot.actor.toList == actor.toList) = true := by rw [h4]; simp
        have n5 : (it.ballot.gen == gen) = true := by simpa using h5
        clear HN HY HB
        go_wp2_with (refine wpList_index_rows 29 50 (.tmp 27) (.tmp 28) b o n0 k.iC j 49 rfl rfl rfl rfl Tryz.underlying29 (by kernel_rfl) Tryz.sizeOf50 hlt ?_)
        go_ret
        exact ⟨by rw [HE.out]; rfl, Q.trans HQ.out HQW.out⟩
    · obtain rfl : j = n0 := by omega
      have HE := Lib.hid (show k.l.any (votesB s claim actor gen) = false by have := hno.out; rwa [← hn0, List.take_length] at this)
      have hnl : ¬ ((j : Int) < (j : Int)) := by omega
      have d0 := cI z
      clear hno
      go_wp2_with fail
      go_ret
      exact ⟨by rw [HE.out]; rfl, Q.trans HQ.out z.q⟩

/-! ### Voters -/
def rvotersN (l : List ItemR) (claim actor : ByteArray) (gen : Int) (m : Nat) : List Int := ((List.range m).filter fun s : Nat => l.any (votesB (s : Int) claim actor gen)).map fun s : Nat => (s : Int)
theorem rvoters_succ (l : List ItemR) (claim actor : ByteArray) (gen : Int) (m : Nat) : rvotersN l claim actor gen (m + 1) = rvotersN l claim actor gen m ++ if l.any (votesB (m : Int) claim actor gen) then [(m : Int)] else [] := by
  unfold rvotersN
  rw [List.range_succ, List.filter_append, List.map_append]
  congr 1
  cases h : l.any (votesB (m : Int) claim actor gen) <;> simp [List.filter, h]
theorem rvoters_le (l : List ItemR) (claim actor : ByteArray) (gen : Int) (m : Nat) : (rvotersN l claim actor gen m).length ≤ m := by
  unfold rvotersN
  rw [List.length_map]
  exact Nat.le_trans (List.length_filter_le _ _) (by rw [List.length_range]; exact Nat.le_refl _)
set_option maxRecDepth 100000 in
set_option maxHeartbeats 4000000 in
theorem rvoters_any (k : KR) (claim actor : ByteArray) (gen : Int) (w : World) (hK : KIn w k) (hn : k.l.length ≤ 100000) :
    Calls Tryz.prog 34 #[.agg (knA k), .string claim, .string actor, .int .i64 gen] w (VotersAre (rvotersN k.l claim actor gen 20) w) := by
  obtain ⟨w1, x, hx, hq1, hbk⟩ := boxedB w 31 k.cells
  have hx : w.alloc (.cells (knA k) 31) = x.w := hx
  have hLk : ∀ y : Wd w1, (Instr.loadAt 31 (.pointer (some ⟨w.heap.size, 0, none⟩))).run Tryz.prog y.w = .ok (.agg (knA k)) y.w := Wd.load hbk.lt (Blk.range hbk) Tryz.underlying31 rfl (by kernel_rfl)
  have hVo : ∀ (s : Int) (y : Wd w1), Calls Tryz.prog 66 #[.agg (knA k), .int .i64 s, .string claim, .string actor, .int .i64 gen] y.w fun e w' => e = .returned (.bool (k.l.any (votesB s claim actor gen))) ∧ Q y.w w' := fun s y => rvotes_any k s claim actor gen y.w (hK.q (Q.trans hq1 y.q)) hn
  have HS := Lib.hid (rvoters_succ k.l claim actor gen)
  have hle := rvoters_le k.l claim actor gen
  obtain ⟨i0, hi, hi0, hi1, hi2⟩ := info_parts int_info
  have HQ := Lib.hid hq1
  have hlt1 := hbk.lt
  have hz : rvotersN k.l claim actor gen 0 = [] := rfl
  clear hbk hq1 hK
  generalize hF : rvotersN k.l claim actor gen = F at *
  go_enter Tryz.func34, Tryz.ntmps34
  go_wp2_with fail
  go_loopw [9, 10] (fun a i wr => ∃ (j c n : Nat) (A : Option Addr) (z : Wd w1), a = .slice A n c ∧ i = .int .i64 j ∧ wr = z.w ∧ j ≤ 20 ∧ n ≤ 20 ∧ n ≤ c ∧ c ≤ maxLen ∧ Hid (n = (F j).length) ∧ Owns z.w w1.heap.size 3 1 (.slice A n c) n ((F j).flatMap intC)) (fun _ i _ => 20 - (intOf i).toNat)
  case atStart => exact ⟨0, 0, 0, none, x, rfl, rfl, rfl, by omega, by omega, Nat.zero_le _, Nat.zero_le _, Lib.hid (by rw [hz]; rfl), by rw [hz]; exact Owns.nil_ _ _ _ _⟩
  case round =>
    obtain ⟨j, c, n, A, z, rfl, rfl, rfl, hj, hn20, hnc, hcm, hnl, hown⟩ := hrel
    by_cases hlt : j < 20
    · have hltI : (j : Int) < 20 := by omega
      have hS := HS.out j
      have hvo := hVo (j : Int)
      have hzs := z.q.size
      have hle1 := hle (j + 1)
      cases hv : k.l.any (votesB (j : Int) claim actor gen)
      · rw [hv] at hS hvo
        rw [if_neg Bool.false_ne_true, List.append_nil] at hS
        have HE := Lib.hid hS
        clear hS hVo hv HS hle hle1
        go_wp2_with (first | (refine wpList_load_run 31 (.tmp 4) (.pointer (some ⟨w.heap.size, 0, none⟩)) (.agg (knA k)) ?_ ?_ ?_ ?_ ?_; rfl; rfl; rfl; exact hLk _) | (go_at_call 66; refine (hvo _).mono ?_; rintro e w' ⟨rfl, hq2⟩; have hown2 := hown.q hq2; obtain ⟨y, rfl⟩ := Wd.next _ hq2; clear hq2))
        exact ⟨⟨j + 1, c, n, A, y, rfl, by go_num, rfl, by omega, hn20, hnc, hcm, Lib.hid (by rw [HE.out]; exact hnl.out), by rw [HE.out]; exact hown2⟩, by simp only [intOf]; omega⟩
      · rw [hv] at hS hvo
        rw [if_pos rfl] at hS
        have HE := Lib.hid hS
        have hn1 : n + 1 ≤ 20 := by
          have h1 := hnl.out
          rw [hS, List.length_append] at hle1
          simp at hle1
          omega
        clear hS hVo hv HS hle hle1
        go_wp2_with (first | (refine wpList_load_run 31 (.tmp 4) (.pointer (some ⟨w.heap.size, 0, none⟩)) (.agg (knA k)) ?_ ?_ ?_ ?_ ?_; rfl; rfl; rfl; exact hLk _) | (go_at_call 66; refine (hvo _).mono ?_; rintro e w' ⟨rfl, hq2⟩; have hown2 := hown.q hq2; obtain ⟨y, rfl⟩ := Wd.next _ hq2; clear hq2; have hys := y.q.size) | (at_builtin; refine wpList_append_rows (f := intC) (k := 1) (fun _ => rfl) intC_one rfl (.tmp 21) (.tmp 23) 28 3 i0 _ 8 rfl Tryz.underlying28 hi hi0 hi1 hi2 rfl (by decide) (by decide) w1.heap.size (.slice A n c) n _ rfl (hown2.alloc (.cells #[.int .i64 (j : Int)] 3)) (some ⟨y.w.heap.size, 0, none⟩) 1 1 [(j : Int)] rfl (RowsAt.one y.w 3 (j : Int) _ rfl) rfl (by omega) (by simp; omega) ?_))
        intro A5 c5 w5 hc5 hm5 hown5 hg5
        have hq5 : Q w1 w5 := q_grown (Q.trans y.q (q_new _ _ _)) (Nat.le_refl _) (hown2.alloc _) hg5
        have eF : (F j).flatMap intC ++ intC (j : Int) = (F (j + 1)).flatMap intC := by rw [HE.out, List.flatMap_append]; rfl
        have hnl5 : Hid (n + 1 = (F (j + 1)).length) := Lib.hid (by rw [HE.out, List.length_append, ← hnl.out]; rfl)
        rw [eF] at hown5
        clear hown2 hg5 eF hown
        go_wp2_with fail
        exact ⟨⟨j + 1, c5, n + 1, A5, ⟨w5, hq5⟩, rfl, by go_num, rfl, by omega, hn1, hc5, hm5, hnl5, hown5⟩, by simp only [intOf]; omega⟩
    · obtain rfl : j = 20 := by omega
      have hfin : VotersAre (F 20) w (.returned (.slice A n c)) z.w := ⟨A, c, by rw [hnl.out], by rw [← hnl.out]; exact hnc, hcm, ints_of (Owns.rows (fun _ => rfl) hown hnl.out), Q.trans HQ.out z.q⟩
      have HF := Lib.hid hfin
      clear hfin hown hnl HS hVo hle hz
      go_wp2_with fail
      go_ret
      exact HF.out
end Go.Proofs.YtflgkplneekpfaaGreatDoor.Vot

namespace Go.Proofs.YtflgkplneekpfaaGreatDoor.Vot
open Go.RowKit Grp Mem _root_.Go.Proofs.YtflgkplneekpfaaGreatDoor.Code Sha Sign _root_.Go.Proofs.YtflgkplneekpfaaGreatDoor.Item _root_.Go.Proofs.YtflgkplneekpfaaGreatDoor.Known Rng

structure PollR where
  seed : ByteArray
  many : Int
  claims : List ClaimV
  clA : Option Addr
  clC : Nat
  votes : List (Int × Int)
  vA : Option Addr
  vC : Nat
def PollR.cells (p : PollR) : List Value := [.string p.seed, .int .i64 p.many, .slice p.clA p.claims.length p.clC, .slice p.vA p.votes.length p.vC]
abbrev pollA (p : PollR) : Array Value := p.cells.toArray
def voteC (v : Int × Int) : List Value := [.int .i64 v.1, .int .i64 v.2]
structure PollIn (w : World) (p : PollR) : Prop where
  cl : RowsAt w p.clA 9 ClaimV.cells p.claims
  vo : RowsAt w p.vA 2 voteC p.votes
  clC : p.claims.length ≤ p.clC ∧ p.clC ≤ maxLen
  vC : p.votes.length ≤ p.vC ∧ p.vC ≤ maxLen
theorem PollIn.q {w w' : World} {p : PollR} (h : PollIn w p) (hq : Q w w') : PollIn w' p := ⟨h.cl.q hq, h.vo.q hq, h.clC, h.vC⟩
/-- The key of a server. -/
def seedAt (seed : ByteArray) (s : Nat) : ByteArray := ⟨(seed.data.toList ++ [UInt8.ofNat s]).toArray⟩
def keyP (seed : ByteArray) (s : Nat) : Int × Int := _root_.Go.Proofs.YtflgkplneekpfaaGreatDoor.Sign.keyOf (seedKey (seedAt seed s))
theorem seedAt_size (seed : ByteArray) (s : Nat) : (seedAt seed s).size = seed.size + 1 := by
  unfold seedAt
  rw [ba_size, List.length_append, ba_length]
  rfl

set_option maxRecDepth 100000 in
set_option maxHeartbeats 2000000 in
theorem keyOf_any (p : PollR) (s : Nat) (w : World) (hT : Tab w) (hs : s < 256) (hz : p.seed.size ≤ 1000) :
    Calls Tryz.prog 43 #[.agg (pollA p), .int .i64 (s : Int)] w fun e w' => e = .returned (keyV (keyP p.seed s)) ∧ Q w w' := by
  have h1 := Blk.new w 25 (pollA p)
  have q1 := q_new w (pollA p) 25
  have h2 := Blk.new' (g := w.heap.size + 1) (w.alloc (.cells (pollA p) 25)) 86 (keyCs (0, 0)) (by simp)
  have q2 := q_new (w.alloc (.cells (pollA p) 25)) (keyCs (0, 0)) 86
  obtain ⟨w2, hw2⟩ : ∃ w2, w2 = ((w.alloc (.cells (pollA p) 25)).alloc (.cells (keyCs (0, 0)) 86)) := ⟨_, rfl⟩
  have h1 := h1.q q2
  have hq := Q.trans q1 q2
  rw [← hw2] at h1 h2 hq
  have c0 : w2.cell? ⟨w.heap.size, 0, none⟩ = some (.string p.seed) := h1.cell 0
  have hu8 : (UInt8.ofNat s).toNat = s := by simp; omega
  have hsI : (0 : Int) ≤ (s : Int) ∧ (s : Int) < 256 := by omega
  have hb := Blk.new w2 5 #[.int .u8 (s : Int)]
  have hqb := q_new w2 #[.int .u8 (s : Int)] 5
  have hcv := run_convert_bytes_back (P := Tryz.prog) (w2.alloc (.cells #[.int .u8 (s : Int)] 5)) 121 9 5 ⟨w2.heap.size, 0, none⟩ 1 [UInt8.ofNat s] Tryz.underlying121 Tryz.underlying5 Tryz.underlying9 (fun j hj => by
    have hj0 : j = 0 := by simp at hj; omega
    subst hj0
    have := hb.cell 0
    rw [show (⟨w2.heap.size, 0, none⟩ : Addr).add 0 = ⟨w2.heap.size, 0, none⟩ from rfl, this]
    show _ = some (Value.int .u8 ((UInt8.ofNat s).toNat : Int))
    rw [hu8]
    rfl)
  simp only [List.length_cons, List.length_nil, Nat.zero_add] at hcv
  have hk := Key_any (seedAt p.seed s) (w2.alloc (.cells #[.int .u8 (s : Int)] 5)) (hT.q (Q.trans hq hqb)) (by rw [seedAt_size]; omega)
  have hcat : p.seed ++ (⟨#[UInt8.ofNat s]⟩ : ByteArray) = seedAt p.seed s := by
    apply ByteArray.ext
    apply Array.toList_inj.1
    simp [seedAt]
  have HK : Hid (keyP p.seed s = _root_.Go.Proofs.YtflgkplneekpfaaGreatDoor.Sign.keyOf (seedKey (seedAt p.seed s))) := Lib.hid rfl
  have h2r := h2.q hqb
  have HQ := Lib.hid (Q.trans hq hqb)
  have hsz : p.seed.size + (⟨#[UInt8.ofNat s]⟩ : ByteArray).size ≤ 9223372036854775807 := by
    show p.seed.size + 1 ≤ _
    omega
  have HX := Lib.hid hw2
  have hlt2 := h2.lt
  generalize keyP p.seed s = kp at *
  rw [← HK.out] at hk
  clear h1 q1 q2 hq hb hqb hu8 hw2 h2
  go_enter Tryz.func43, Tryz.ntmps43
  go_upto_region 1 with (fail)
  refine (show Code.wp _ _ _ _ w2 → Code.wp _ _ _ _ _ from fun h => by rw [HX.out] at h; exact h) ?_
  go_wp2_with (first | (go_at_call 85; refine hk.mono ?_; rintro e w' ⟨rfl, hq2⟩) | (refine wpList_store_far (h2r.q hq2) rfl 86 (.tmp 4) (.tmp 12) [.int .i64 kp.1, .int .i64 kp.2] rfl rfl rfl (by kernel_rfl) (by simp [Value.oneCell']) (Nat.le_refl 2) ?_))
  intro W hW hbel hfar
  rw [splice_all _ _ (by rfl)] at hW
  have hqW : Q w W := hbel _ _ (by omega) (Q.trans HQ.out hq2)
  clear hbel hfar
  go_wp2_with fail
  exact bodyPost_ret (results_cell_row rfl _ _ (w.heap.size + 1) 86 (keyCs kp) (0, 0) _ rfl hW Tryz.underlying86 rfl (by kernel_rfl)) rfl ⟨rfl, hqW⟩

/-- The digest of a claim. -/
def digC (c : ClaimV) : ByteArray := digOf (itClaim c)
set_option maxRecDepth 100000 in
set_option maxHeartbeats 2000000 in
theorem digestC_any (c : ClaimV) (w : World) (hT : Tab w) : Calls Tryz.prog 15 #[.agg (claimA c)] w fun e w' => e = .returned (.string (digC c)) ∧ Q w w' := by
  have hb := Blk.new w 37 (claimA c)
  have hq := q_new w (claimA c) 37
  obtain ⟨w1, hw1⟩ : ∃ w1, w1 = w.alloc (.cells (claimA c) 37) := ⟨_, rfl⟩
  rw [← hw1] at hb hq
  have hL := Wd.load (P := Tryz.prog) (ty := 37) hb.lt (Blk.range hb) Tryz.underlying37 rfl (by kernel_rfl) ⟨w1, Q.refl w1⟩
  have hd := fun (w' : World) (h : Q w1 w') => digest_any (itClaim c) w' (hT.q (Q.trans hq h)) (itClaim_in c w')
  have HX := Lib.hid hw1
  have HQ := Lib.hid hq
  have HD : Hid (digC c = digOf (itClaim c)) := Lib.hid rfl
  rw [← HD.out] at hd
  generalize digC c = d at *
  clear hb hq hw1
  go_enter Tryz.func15, Tryz.ntmps15
  go_upto_region 1 with (fail)
  refine (show Code.wp _ _ _ _ w1 → Code.wp _ _ _ _ _ from fun h => by rw [HX.out] at h; exact h) ?_
  go_wp2_with (first | (refine wpList_load_run 37 (.tmp 1) (.pointer (some ⟨w.heap.size, 0, none⟩)) (.agg (claimA c)) ?_ ?_ ?_ ?_ ?_; rfl; rfl; rfl; exact hL) | (go_at_call 13; refine (ofClaim_any c _).mono ?_; rintro e w' ⟨rfl, hq2⟩) | (go_at_call 25; refine (hd _ hq2).mono ?_; rintro e w' ⟨rfl, hq3⟩))
  go_ret
  exact ⟨rfl, Q.trans HQ.out (Q.trans hq2 hq3)⟩
end Go.Proofs.YtflgkplneekpfaaGreatDoor.Vot

namespace Go.Proofs.YtflgkplneekpfaaGreatDoor.Vot
open Go.RowKit Grp Mem _root_.Go.Proofs.YtflgkplneekpfaaGreatDoor.Code Sha Sign _root_.Go.Proofs.YtflgkplneekpfaaGreatDoor.Item _root_.Go.Proofs.YtflgkplneekpfaaGreatDoor.Known Rng

/-- The ballot of a vote for a claim, signed. -/
def castB (seed : ByteArray) (s : Int) (c : ClaimV) : BallotV := signBallot (keyP seed s.toNat) ⟨s, c.actor, c.gen, digC c, 0, 0, 0⟩
def claimAt (l : List ClaimV) (n : Int) : ClaimV := l.getD n.toNat claim0
def castI (seed : ByteArray) (l : List ClaimV) (v : Int × Int) : ItemR := itBallot (castB seed v.1 (claimAt l v.2))
theorem digC_size (c : ClaimV) : (digC c).size ≤ 32 := by
  unfold digC digOf
  split
  · rw [sha_size]
    exact Nat.le_refl _
  · decide
theorem keyP_bd (seed : ByteArray) (s : Nat) : (keyP seed s).1 ≤ 9223372036854775807 ∧ (keyP seed s).2 ≤ 9223372036854775807 := by
  unfold keyP _root_.Go.Proofs.YtflgkplneekpfaaGreatDoor.Sign.keyOf
  split
  · decide
  · rename_i h
    have hx : seedKey (seedAt seed s) ≤ 2305843009213693949 := by omega
    have := gpub (seedKey (seedAt seed s)) (by omega)
    exact ⟨by dsimp only; omega, by dsimp only; omega⟩
theorem build_ballot4 (s : Int) (a : ByteArray) (g : Int) (d : ByteArray) (w : World) : (Instr.build 46 #[(0, .int .i64 s), (1, .string a), (2, .int .i64 g), (3, .string d)]).run Tryz.prog w = .ok (.agg (ballotA ⟨s, a, g, d, 0, 0, 0⟩)) w := by kernel_rfl

set_option maxRecDepth 100000 in
set_option maxHeartbeats 4000000 in
theorem cast_any (p : PollR) (v : Int × Int) (w : World) (hT : Tab w) (hP : PollIn w p) (h0 : 0 ≤ v.1) (h1 : v.1 < 256) (h2 : 0 ≤ v.2) (h3 : v.2 < p.claims.length) (hz : p.seed.size ≤ 1000) (hb : ∀ c ∈ p.claims, c.actor.size ≤ 140737488351232 ∧ c.gen ≤ 9223372036854775807) :
    Calls Tryz.prog 44 #[.agg (pollA p), .agg (voteC v).toArray] w fun e w' => e = .returned (.agg (itA (castI p.seed p.claims v))) ∧ Q w w' := by
  obtain ⟨s, n⟩ := v
  dsimp only at h0 h1 h2 h3
  obtain ⟨s, rfl⟩ := Int.eq_ofNat_of_zero_le h0
  obtain ⟨n, rfl⟩ := Int.eq_ofNat_of_zero_le h2
  have hnl : n < p.claims.length := by omega
  have hnI : (n : Int) < (p.claims.length : Int) := by omega
  have hsl : s < 256 := by omega
  have hbx := hb _ (List.getElem_mem hnl)
  have hca : claimAt p.claims (n : Int) = p.claims[n] := by
    unfold claimAt
    rw [show ((n : Int)).toNat = n from rfl, List.getD_eq_getElem?_getD, List.getElem?_eq_getElem hnl]
    rfl
  have b1 := Blk.new w 25 (pollA p)
  have q1 := q_new w (pollA p) 25
  have b2 := Blk.new' (g := w.heap.size + 1) (w.alloc (.cells (pollA p) 25)) 84 (voteC ((s : Int), (n : Int))).toArray (by simp)
  have q2 := q_new (w.alloc (.cells (pollA p) 25)) (voteC ((s : Int), (n : Int))).toArray 84
  have b3 := Blk.new' (g := w.heap.size + 1 + 1) ((w.alloc (.cells (pollA p) 25)).alloc (.cells (voteC ((s : Int), (n : Int))).toArray 84)) 50 (itA item0) (by simp)
  have q3 := q_new ((w.alloc (.cells (pollA p) 25)).alloc (.cells (voteC ((s : Int), (n : Int))).toArray 84)) (itA item0) 50
  have b1 := (b1.q q2).q q3
  have b2 := b2.q q3
  have hq := Q.trans (Q.trans q1 q2) q3
  obtain ⟨w3, hw3⟩ : ∃ w3, w3 = ((w.alloc (.cells (pollA p) 25)).alloc (.cells (voteC ((s : Int), (n : Int))).toArray 84)).alloc (.cells (itA item0) 50) := ⟨_, rfl⟩
  rw [← hw3] at b1 b2 b3 hq
  have hLp : ∀ y : Wd w3, (Instr.loadAt 25 (.pointer (some ⟨w.heap.size, 0, none⟩))).run Tryz.prog y.w = .ok (.agg (pollA p)) y.w := Wd.load b1.lt (Blk.range b1) Tryz.underlying25 rfl (by kernel_rfl)
  have c2 : ∀ y : Wd w3, y.w.cell? ⟨w.heap.size, 2, none⟩ = some (.slice p.clA p.claims.length p.clC) := fun y => (y.blk b1).cell 2
  have v0 : ∀ y : Wd w3, y.w.cell? ⟨w.heap.size + 1, 0, none⟩ = some (.int .i64 (s : Int)) := fun y => (y.blk b2).cell 0
  have v1 : ∀ y : Wd w3, y.w.cell? ⟨w.heap.size + 1, 1, none⟩ = some (.int .i64 (n : Int)) := fun y => (y.blk b2).cell 1
  have hBr : ∀ y : Wd w3, Blk y.w (w.heap.size + 1 + 1) 50 item0.cells.toArray := fun y => y.blk b3
  obtain ⟨b, o, eA, hb0, hcs⟩ := (hP.cl.q hq) (by omega)
  have hld : ∀ y : Wd w3, (Instr.loadAt 37 (.pointer (some ⟨b, o + n * 9, none⟩))).run Tryz.prog y.w = .ok (.agg (claimA p.claims[n])) y.w := Wd.load hb0 (hcs n hnl) Tryz.underlying37 rfl (by kernel_rfl)
  have hTy : ∀ y : Wd w3, Tab y.w := fun y => hT.q (Q.trans hq y.q)
  have hKe : ∀ y : Wd w3, Calls Tryz.prog 43 #[.agg (pollA p), .int .i64 (s : Int)] y.w fun e w' => e = .returned (keyV (keyP p.seed s)) ∧ Q y.w w' := fun y => keyOf_any p s y.w (hTy y) hsl hz
  have HC := Lib.hid (show castI p.seed p.claims ((s : Int), (n : Int)) = itBallot (signBallot (keyP p.seed s) ⟨(s : Int), p.claims[n].actor, p.claims[n].gen, digC p.claims[n], 0, 0, 0⟩) by unfold castI castB; dsimp only; rw [hca]; rfl)
  have hkb : (keyP p.seed s).1 ≤ 9223372036854775807 ∧ (keyP p.seed s).2 ≤ 9223372036854775807 := keyP_bd _ _
  have HQ := Lib.hid hq
  obtain ⟨u, hu⟩ : ∃ u : Wd w3, u.w = w3 := ⟨⟨w3, Q.refl _⟩, rfl⟩
  have HX := Lib.hid (hu.trans hw3)
  have hlt3 := b3.lt
  rw [eA] at c2
  clear hu hw3 b1 b2 b3 q1 q2 q3 hq hca hcs eA hb
  generalize p.claims[n] = c at *
  generalize castI p.seed p.claims ((s : Int), (n : Int)) = IT at *
  generalize keyP p.seed s = kp at *
  have hBB : BigB ⟨(s : Int), c.actor, c.gen, digC c, 0, 0, 0⟩ := ⟨hbx.1, by have := digC_size c; dsimp only; omega, by intro m hm; simp at hm; rcases hm with rfl | rfl | rfl <;> omega⟩
  generalize p.claims.length = cl at *
  generalize hd : digC c = d at *
  go_enter Tryz.func44, Tryz.ntmps44
  go_upto_region 1 with (fail)
  refine (show Code.wp _ _ _ _ u.w → Code.wp _ _ _ _ _ from fun h => by rw [HX.out] at h; exact h) ?_
  go_wp2_with (first | (refine wpList_load_run 37 (.tmp 10) (.pointer (some ⟨b, o + n * 9, none⟩)) (.agg (claimA c)) ?_ ?_ ?_ ?_ ?_; rfl; rfl; rfl; exact hld _) | (refine wpList_store_blk (Blk.new u.w 37 claim0.cells.toArray) rfl 37 (.tmp 5) (.tmp 11) c.cells rfl rfl rfl (by kernel_rfl) (claim_all _) (Nat.le_refl 9) ?_))
  intro W hW hbel
  rw [splice_all _ _ (by rfl)] at hW
  have hqz : Q u.w W := hbel _ _ (Nat.le_refl _) (q_new _ _ _)
  have hq3 : Q w3 W := Q.trans u.q hqz
  have hgc : u.w.heap.size < W.heap.size := hW.lt
  have hLc : ∀ y : Wd W, (Instr.loadAt 37 (.pointer (some ⟨u.w.heap.size, 0, none⟩))).run Tryz.prog y.w = .ok (.agg (claimA c)) y.w := Wd.load hW.lt (Blk.range hW) Tryz.underlying37 rfl (by kernel_rfl)
  have hc0 : ∀ y : Wd W, y.w.cell? ⟨u.w.heap.size, 0, none⟩ = some (.string c.actor) := fun y => (y.blk hW).cell 0
  have hc3 : ∀ y : Wd W, y.w.cell? ⟨u.w.heap.size, 3, none⟩ = some (.int .i64 c.gen) := fun y => (y.blk hW).cell 3
  have hv0 : ∀ y : Wd W, y.w.cell? ⟨w.heap.size + 1, 0, none⟩ = some (.int .i64 (s : Int)) := fun y => v0 ⟨y.w, Q.trans hq3 y.q⟩
  have hLp' : ∀ y : Wd W, (Instr.loadAt 25 (.pointer (some ⟨w.heap.size, 0, none⟩))).run Tryz.prog y.w = .ok (.agg (pollA p)) y.w := fun y => hLp ⟨y.w, Q.trans hq3 y.q⟩
  have hBr' : ∀ y : Wd W, Blk y.w (w.heap.size + 1 + 1) 50 item0.cells.toArray := fun y => hBr ⟨y.w, Q.trans hq3 y.q⟩
  have hKe' : ∀ y : Wd W, Calls Tryz.prog 43 #[.agg (pollA p), .int .i64 (s : Int)] y.w fun e w' => e = .returned (keyV kp) ∧ Q y.w w' := fun y => hKe ⟨y.w, Q.trans hq3 y.q⟩
  have hT' : ∀ y : Wd W, Tab y.w := fun y => hTy ⟨y.w, Q.trans hq3 y.q⟩
  have hdg : ∀ y : Wd W, Calls Tryz.prog 15 #[.agg (claimA c)] y.w fun e w' => e = .returned (.string d) ∧ Q y.w w' := fun y => hd ▸ digestC_any c y.w (hT' y)
  have HQ3 := Lib.hid hq3
  obtain ⟨x, hx⟩ := Wd.first W
  rw [hx]
  clear hbel hx hW hq3 hqz hLp v0 v1 c2 hld hBr hKe hTy hd
  generalize u.w.heap.size = gc at *
  go_upto_region 2 with (fail)
  refine wp_region_wd_parts x 0 15 (by kernel_rfl) (by kernel_rfl) (by intro c d v a w h; cases d <;> exact h) ?_
  simp only [List.take_succ_cons, List.take_zero, List.drop_succ_cons, List.drop_zero]
  refine wpPure_nil ?_
  repeat (first | (refine wpQuiet_load_run 25 (.tmp 2) (.pointer (some ⟨w.heap.size, 0, none⟩)) (.agg (pollA p)) ?_ ?_ ?_ ?_ ?_; rfl; rfl; rfl; exact hLp'; dsimp only [Act.put]; simp only [List.setIfInBounds_toArray, List.set_cons_succ, List.set_cons_zero]) | (refine wpQuiet_load_run 37 (.tmp 5) (.pointer (some ⟨gc, 0, none⟩)) (.agg (claimA c)) ?_ ?_ ?_ ?_ ?_; rfl; rfl; rfl; exact hLc; dsimp only [Act.put]; simp only [List.setIfInBounds_toArray, List.set_cons_succ, List.set_cons_zero]) | (refine wpQuiet_build_run 46 _ #[(0, .int .i64 (s : Int)), (1, .string c.actor), (2, .int .i64 c.gen), (3, .string d)] _ rfl rfl (by simp only [List.map_toArray, List.map_cons, List.map_nil]; rfl) (build_ballot4 (s : Int) c.actor c.gen d) ?_; dsimp only [Act.put]; simp only [List.setIfInBounds_toArray, List.set_cons_succ, List.set_cons_zero]) | go_big_quiet_step (first | (go_at_call 43; exact Wd.call _ (hKe' _)) | (go_at_call 15; exact Wd.call _ (hdg _)) | (go_at_call 87; exact Wd.call _ (signBallot_big kp _ _ (hT' _) hkb.1 hkb.2 hBB)) | (go_at_call 86; exact Wd.call _ (ofBallot_any _ _))))
  refine wpQuiet_nil ?_
  rintro w'' ⟨y, rfl⟩
  rw [← HC.out]
  go_wp2_with (refine wpList_store_far (hBr' y) rfl 50 (.tmp 4) (.tmp 26) IT.cells rfl rfl rfl (by kernel_rfl) (it_all _) (Nat.le_refl 49) ?_)
  intro W2 hW2 hbel2 hfar2
  rw [splice_all _ _ (by rfl)] at hW2
  have hz := HQ3.out.size
  have hqW : Q w W2 := hbel2 _ _ (by omega) (Q.trans (Q.trans HQ.out HQ3.out) y.q)
  clear hbel2 hfar2
  go_wp2_with fail
  exact bodyPost_ret (results_cell_row rfl _ _ (w.heap.size + 1 + 1) 50 (itA IT) (0, 0) _ rfl hW2 Tryz.underlying50 rfl (by kernel_rfl)) rfl ⟨rfl, hqW⟩
end Go.Proofs.YtflgkplneekpfaaGreatDoor.Vot

namespace Go.Proofs.YtflgkplneekpfaaGreatDoor.Vot
open Go.RowKit Grp Mem _root_.Go.Proofs.YtflgkplneekpfaaGreatDoor.Code Sha Sign _root_.Go.Proofs.YtflgkplneekpfaaGreatDoor.Item _root_.Go.Proofs.YtflgkplneekpfaaGreatDoor.Known Rng

def voteOk (m : Int) (n : Nat) (v : Int × Int) : Prop := 0 ≤ v.1 ∧ v.1 < m ∧ 0 ≤ v.2 ∧ v.2 < n
def VotesOk (m : Int) (n : Nat) (l : List (Int × Int)) : Prop := ∀ v ∈ l, voteOk m n v
structure Valid (p : PollR) : Prop where
  m1 : 1 ≤ p.many
  m7 : p.many ≤ 7
  c5 : p.claims.length ≤ 5
  v24 : p.votes.length ≤ 24
  s100 : p.seed.size ≤ 100
  ok : VotesOk p.many p.claims.length p.votes

end Go.Proofs.YtflgkplneekpfaaGreatDoor.Vot

namespace Go.Proofs.YtflgkplneekpfaaGreatDoor.Vot
open Go.RowKit Grp Mem _root_.Go.Proofs.YtflgkplneekpfaaGreatDoor.Code Sha Sign _root_.Go.Proofs.YtflgkplneekpfaaGreatDoor.Item _root_.Go.Proofs.YtflgkplneekpfaaGreatDoor.Known Rng

/-- The public keys of the first m servers. -/
def pubs (seed : ByteArray) (m : Nat) : List Int := (List.range m).map fun i => (keyP seed i).2
theorem pubs_succ (seed : ByteArray) (m : Nat) : pubs seed (m + 1) = pubs seed m ++ [(keyP seed m).2] := by simp [pubs, List.range_succ]
theorem pubs_len (seed : ByteArray) (m : Nat) : (pubs seed m).length = m := by simp [pubs]
def claimIs (l : List ClaimV) : List ItemR := l.map itClaim
def castIs (seed : ByteArray) (l : List ClaimV) (v : List (Int × Int)) : List ItemR := v.map (castI seed l)
/-- The set after some claims, and after all claims and some votes. -/
def setC (p : PollR) (j : Nat) : List ItemR := fillK (pubs p.seed p.many.toNat) [] (claimIs (p.claims.take j))
def setV (p : PollR) (j : Nat) : List ItemR := fillK (pubs p.seed p.many.toNat) (setC p p.claims.length) (castIs p.seed p.claims (p.votes.take j))
theorem setC_succ (p : PollR) (j : Nat) (h : j < p.claims.length) : setC p (j + 1) = addK (pubs p.seed p.many.toNat) (setC p j) (itClaim p.claims[j]) := by
  unfold setC claimIs
  rw [List.take_succ_eq_append_getElem h, List.map_append, List.map_cons, List.map_nil, fillK_snoc]
theorem setV_succ (p : PollR) (j : Nat) (h : j < p.votes.length) : setV p (j + 1) = addK (pubs p.seed p.many.toNat) (setV p j) (castI p.seed p.claims p.votes[j]) := by
  unfold setV castIs
  rw [List.take_succ_eq_append_getElem h, List.map_append, List.map_cons, List.map_nil, fillK_snoc]
theorem setV_zero (p : PollR) : setV p 0 = setC p p.claims.length := rfl
theorem setC_len (p : PollR) (j : Nat) : (setC p j).length ≤ p.claims.length := by
  unfold setC claimIs
  have := fillK_length (pubs p.seed p.many.toNat) ((p.claims.take j).map itClaim) []
  rw [List.length_map, List.length_take, List.length_nil] at this
  omega
theorem setV_len (p : PollR) (j : Nat) : (setV p j).length ≤ p.claims.length + p.votes.length := by
  unfold setV castIs
  have := fillK_length (pubs p.seed p.many.toNat) ((p.votes.take j).map (castI p.seed p.claims)) (setC p p.claims.length)
  rw [List.length_map, List.length_take] at this
  have := setC_len p p.claims.length
  omega

/-- The set so far lies in its block. -/
structure MSt (W2 : World) (gk : Nat) (sv : List Int) (l : List ItemR) (wr : World) (k : KR) : Prop where
  q : Below gk W2 wr
  blk : Blk wr gk 31 k.cells.toArray
  inn : KIn wr k
  hsv : k.sv = sv
  hl : k.l = l
theorem known_only {w : World} {g : Nat} {k : KR} (h : Blk w g 31 k.cells.toArray) : ∀ o' v, w.cell? ⟨g, o', none⟩ = some v → ∃ A n c, v = .slice A n c := by
  intro o' v hv
  rw [h.cell] at hv
  rcases o' with _ | _ | n
  · exact ⟨_, _, _, (Option.some.inj hv).symm⟩
  · exact ⟨_, _, _, (Option.some.inj hv).symm⟩
  · simp [KR.cells] at hv
theorem MSt.step {W2 : World} {gk : Nat} {sv : List Int} {l l' : List ItemR} {wr w2 : World} {k k' : KR} (h : MSt W2 gk sv l wr k) (hq : Q wr w2) (hk : KIn w2 k') (hsv : k'.sv = sv) (hl : k'.l = l') : MSt W2 gk sv l' (w2.setCells gk 0 k'.cells) k' := by
  have hb2 := h.blk.q hq
  have hgk := h.blk.lt
  have hbel : Below gk W2 w2 := h.q.trans (hq.mono (Nat.le_of_lt hgk))
  have hsc : Blk (w2.setCells gk 0 k'.cells) gk 31 k'.cells.toArray := by
    have := Blk.setCells k'.cells 0 _ w2 hb2 (Nat.le_refl 2)
    rwa [splice_all _ _ (by rfl)] at this
  have hfar := fun b (hne : b ≠ gk) => setCells_far (g := gk) hne k'.cells 0 w2
  have hside : _root_.Go.Proofs.YtflgkplneekpfaaGreatDoor.Known.Aside w2 (w2.setCells gk 0 k'.cells) gk := ⟨known_only hb2, hfar, (below_setCells (Nat.le_refl _) k'.cells 0 w2 w2 (Below.refl gk w2)).size⟩
  exact ⟨below_setCells (Nat.le_refl _) k'.cells 0 W2 w2 hbel, hsc, hside.known hk, hsv, hl⟩

theorem key_field (k : Int × Int) (w : World) : (Instr.field 86 (keyV k) 1).run Tryz.prog w = .ok (.int .i64 k.2) w := by kernel_rfl

set_option maxRecDepth 100000 in
set_option maxHeartbeats 4000000 in
theorem made_any (p : PollR) (n : Int) (w : World) (hT : Tab w) (hP : PollIn w p) (hv : Valid p) (hn0 : 0 ≤ n) (hn : n ≤ 9223372036854775807) (hb : ∀ c ∈ p.claims, c.actor.size ≤ 140737488351232 ∧ c.gen ≤ 9223372036854775807) :
    Calls Tryz.prog 10 #[.agg (pollA p), .int .i64 n] w (KnownIs (pubs p.seed p.many.toNat) (setV p n.toNat) w) := by
  obtain ⟨m, hm⟩ := Int.eq_ofNat_of_zero_le (show 0 ≤ p.many by have := hv.m1; omega)
  have hm7 : m ≤ 7 := by have := hv.m7; omega
  have hc5 := hv.c5
  have hv24 := hv.v24
  have hz := hv.s100
  have hokv := Lib.hid hv.ok
  rw [hm] at hokv
  rw [show p.many.toNat = m by omega]
  have b1 := Blk.new w 25 (pollA p)
  have q1 := q_new w (pollA p) 25
  have b2 := Blk.new' (g := w.heap.size + 1) (w.alloc (.cells (pollA p) 25)) 31 (knA known0) (by simp)
  have q2 := q_new (w.alloc (.cells (pollA p) 25)) (knA known0) 31
  have b1 := b1.q q2
  have hq := Q.trans q1 q2
  obtain ⟨w3, hw3⟩ : ∃ w3, w3 = (w.alloc (.cells (pollA p) 25)).alloc (.cells (knA known0) 31) := ⟨_, rfl⟩
  rw [← hw3] at b1 b2 hq
  have hLp : ∀ y : Wd w3, (Instr.loadAt 25 (.pointer (some ⟨w.heap.size, 0, none⟩))).run Tryz.prog y.w = .ok (.agg (pollA p)) y.w := Wd.load b1.lt (Blk.range b1) Tryz.underlying25 rfl (by kernel_rfl)
  have hBp : ∀ y : Wd w3, Blk y.w w.heap.size 25 (pollA p) := fun y => y.blk b1
  have c1 : ∀ y : Wd w3, y.w.cell? ⟨w.heap.size, 1, none⟩ = some (.int .i64 (m : Int)) := fun y => by
    have := (y.blk b1).cell 1
    rw [this]
    show some (Value.int .i64 p.many) = _
    rw [hm]
  have c2 : ∀ y : Wd w3, y.w.cell? ⟨w.heap.size, 2, none⟩ = some (.slice p.clA p.claims.length p.clC) := fun y => (y.blk b1).cell 2
  have c3 : ∀ y : Wd w3, y.w.cell? ⟨w.heap.size, 3, none⟩ = some (.slice p.vA p.votes.length p.vC) := fun y => (y.blk b1).cell 3
  have hBr : ∀ y : Wd w3, Blk y.w (w.heap.size + 1) 31 known0.cells.toArray := fun y => y.blk b2
  have hPy : ∀ y : Wd w3, PollIn y.w p := fun y => hP.q (Q.trans hq y.q)
  have hTy : ∀ y : Wd w3, Tab y.w := fun y => hT.q (Q.trans hq y.q)
  have hKe : ∀ (i : Nat), i < 256 → ∀ y : Wd w3, Calls Tryz.prog 43 #[.agg (pollA p), .int .i64 (i : Int)] y.w fun e w' => e = .returned (keyV (keyP p.seed i)) ∧ Q y.w w' := fun i hi y => keyOf_any p i y.w (hTy y) hi (by omega)
  obtain ⟨i0, hi, hi0, hi1, hi2⟩ := info_parts int_info
  have HQ := Lib.hid hq
  obtain ⟨u, hu⟩ : ∃ u : Wd w3, u.w = w3 := ⟨⟨w3, Q.refl _⟩, rfl⟩
  have HX := Lib.hid (hu.trans hw3)
  have hlt3 := b2.lt
  have HBB := Lib.hid hb
  have HM := Lib.hid hm
  clear hu hw3 b1 b2 q1 q2 hq hv hm hb
  go_enter Tryz.func10, Tryz.ntmps10
  go_upto_region 1 with (fail)
  refine (show Code.wp _ _ _ _ u.w → Code.wp _ _ _ _ _ from fun h => by rw [HX.out] at h; exact h) ?_
  go_wp2_with fail
  go_loopw [5, 6] (fun a i wr => ∃ (j c : Nat) (A : Option Addr) (z : Wd w3), a = .slice A j c ∧ i = .int .i64 j ∧ wr = z.w ∧ j ≤ m ∧ j ≤ c ∧ c ≤ maxLen ∧ Owns z.w w3.heap.size 3 1 (.slice A j c) j ((pubs p.seed j).flatMap intC)) (fun _ i _ => m - (intOf i).toNat)
  case atStart => exact ⟨0, 0, none, u, rfl, rfl, rfl, Nat.zero_le _, Nat.zero_le _, Nat.zero_le _, Owns.nil_ _ _ _ _⟩
  case round =>
    obtain ⟨j, c, A, z, rfl, rfl, rfl, hj, hjc, hcm, hown⟩ := hrel
    by_cases hlt : j < m
    · have hlI : (j : Int) < (m : Int) := by omega
      have hke := hKe j (by omega)
      have hkf := fun w => key_field (keyP p.seed j) w
      have HP := Lib.hid (pubs_succ p.seed j)
      have hpl := pubs_len p.seed j
      have hzs := z.q.size
      generalize keyP p.seed j = kp at *
      clear c2 c3 hKe
      go_wp2_with (first | (refine wpList_load_run 25 (.tmp 2) (.pointer (some ⟨w.heap.size, 0, none⟩)) (.agg (pollA p)) ?_ ?_ ?_ ?_ ?_; rfl; rfl; rfl; exact hLp _) | (go_at_call 43; refine (hke _).mono ?_; rintro e w' ⟨rfl, hq2⟩; have hown2 := hown.q hq2; obtain ⟨y, rfl⟩ := Wd.next _ hq2; clear hq2; have hys := y.q.size) | (at_builtin; refine wpList_append_rows (f := intC) (k := 1) (fun _ => rfl) intC_one rfl (.tmp 16) (.tmp 21) 28 3 i0 _ 8 rfl Tryz.underlying28 hi hi0 hi1 hi2 rfl (by decide) (by decide) w3.heap.size (.slice A j c) j (pubs p.seed j) rfl (hown2.alloc (.cells #[.int .i64 kp.2] 3)) (some ⟨y.w.heap.size, 0, none⟩) 1 1 [kp.2] rfl (RowsAt.one y.w 3 kp.2 _ rfl) rfl (by omega) (by simp; omega) ?_))
      intro A5 c5 w5 hc5 hm5 hown5 hg5
      have hq5 : Q w3 w5 := q_grown (Q.trans y.q (q_new _ _ _)) (Nat.le_refl _) (hown2.alloc _) hg5
      have eF : (pubs p.seed j).flatMap intC ++ intC kp.2 = (pubs p.seed (j + 1)).flatMap intC := by rw [HP.out, List.flatMap_append]; rfl
      rw [eF] at hown5
      clear hown2 hg5 eF hown
      go_wp2_with fail
      exact ⟨⟨j + 1, c5, A5, ⟨w5, hq5⟩, rfl, by go_num, rfl, by omega, hc5, hm5, hown5⟩, by simp only [intOf]; omega⟩
    · obtain rfl : j = m := by omega
      have hnl : ¬ ((j : Int) < (j : Int)) := by omega
      have hI : Ints z.w A (pubs p.seed j) := ints_of (Owns.rows (fun _ => rfl) hown (pubs_len p.seed j).symm)
      have hnew := new_any A c (pubs p.seed j) z.w hI (by rw [pubs_len]; omega)
      rw [pubs_len] at hnew
      have hzs := z.q.size
      clear hown hI hKe hi hi0 hi1 hi2
      go_wp2_with (first | (go_at_call 36; refine hnew.mono ?_; rintro e w' ⟨kn, rfl, hks, hkl, hkK, hq2⟩; obtain ⟨y, rfl⟩ := Wd.next _ hq2; clear hq2) | (refine wpList_store_blk (Blk.new y.w 31 known0.cells.toArray) rfl 31 (.tmp 7) (.tmp 24) kn.cells rfl rfl rfl (by kernel_rfl) (kn_all _) (Nat.le_refl 2) ?_))
      intro W2 hB2 hbel2
      rw [splice_all _ _ (by rfl)] at hB2
      have hq32 : Q w3 W2 := hbel2 _ _ y.q.size (Q.trans y.q (q_new _ _ _))
      have hgk : w3.heap.size ≤ y.w.heap.size := y.q.size
      have hst0 : MSt W2 y.w.heap.size (pubs p.seed j) (setC p 0) W2 kn := ⟨Below.refl _ _, hB2, hkK.q (hbel2 _ _ (Nat.le_refl _) (q_new _ _ _)), hks, hkl⟩
      have hgW : y.w.heap.size < W2.heap.size := hB2.lt
      generalize y.w.heap.size = gk at *
      have HST0 := Lib.hid hst0
      have HPW := Lib.hid (hPy ⟨W2, hq32⟩)
      have HTW := Lib.hid (hTy ⟨W2, hq32⟩)
      have HRW := Lib.hid (hBr ⟨W2, hq32⟩)
      have HBp := Lib.hid (hBp ⟨W2, hq32⟩)
      have d2 := c2 ⟨W2, hq32⟩
      have d3 := c3 ⟨W2, hq32⟩
      have HQ2 := Lib.hid hq32
      dsimp only at d2 d3
      clear hst0 hB2 hbel2 hkK hks hkl hnew hPy hTy hBr hBp c1 c2 c3
      go_wp2_with fail
      go_loopw [8] (fun i wr => ∃ (t : Nat) (k : KR), i = .int .i64 t ∧ t ≤ p.claims.length ∧ MSt W2 gk (pubs p.seed j) (setC p t) wr k) (fun i _ => p.claims.length - (intOf i).toNat)
      case atStart => exact ⟨0, kn, rfl, Nat.zero_le _, HST0.out⟩
      case round =>
        obtain ⟨t, k, rfl, ht, hst⟩ := hrel
        have hqr : Q w wr := Below.trans (Q.trans HQ.out HQ2.out) (hst.q.mono (by omega))
        have hPr := hP.q hqr
        have hTr := hT.q hqr
        have e2 : wr.cell? ⟨w.heap.size, 2, none⟩ = some (.slice p.clA p.claims.length p.clC) := (hst.q.cell (p := ⟨w.heap.size, 2, none⟩) (show w.heap.size < gk by omega)).trans d2
        have e3 : wr.cell? ⟨w.heap.size, 3, none⟩ = some (.slice p.vA p.votes.length p.vC) := (hst.q.cell (p := ⟨w.heap.size, 3, none⟩) (show w.heap.size < gk by omega)).trans d3
        have hLk : ∀ y : Wd wr, (Instr.loadAt 31 (.pointer (some ⟨gk, 0, none⟩))).run Tryz.prog y.w = .ok (.agg (knA k)) y.w := Wd.load hst.blk.lt (Blk.range hst.blk) Tryz.underlying31 rfl (by kernel_rfl)
        by_cases hlt : t < p.claims.length
        · obtain ⟨b, o, eA, hb0, hcs⟩ := hPr.cl (by omega)
          have hld : ∀ y : Wd wr, (Instr.loadAt 37 (.pointer (some ⟨b, o + t * 9, none⟩))).run Tryz.prog y.w = .ok (.agg (claimA p.claims[t])) y.w := Wd.load hb0 (hcs t hlt) Tryz.underlying37 rfl (by kernel_rfl)
          have HF := Lib.hid (setC_succ p t hlt)
          rw [HM.out, show ((j : Int)).toNat = j from rfl] at HF
          have hlI : (t : Int) < (p.claims.length : Int) := by omega
          have htI : (0 : Int) ≤ (t : Int) := by omega
          have hlen : k.l.length ≤ 100000 := by
            rw [hst.hl]
            have := setC_len p t
            omega
          rw [eA] at e2
          have e2y : ∀ y : Wd wr, y.w.cell? ⟨w.heap.size, 2, none⟩ = some (.slice (some ⟨b, o, none⟩) p.claims.length p.clC) := fun y => (y.cell (by have := hst.q.size; omega)).trans e2
          clear hcs eA d2 d3 e3
          generalize p.claims[t] = c at *
          generalize p.claims.length = cl at *
          go_wp2_with fail
          refine wp_region_open (C := fun w' => ∃ y : Wd wr, w' = y.w) 7 (by kernel_rfl) (by kernel_rfl) ((Wd.mk wr (Q.refl _)).next (Q.refl _).drew) ?_
          simp only [List.take_succ_cons, List.take_zero]
          repeat (first | (refine wpQuiet_load_run 31 (.tmp 7) (.pointer (some ⟨gk, 0, none⟩)) (.agg (knA k)) ?_ ?_ ?_ ?_ ?_; rfl; rfl; rfl; exact hLk; dsimp only [Act.put]; simp only [List.setIfInBounds_toArray, List.set_cons_succ, List.set_cons_zero]) | (refine wpQuiet_load_run 37 (.tmp 37) (.pointer (some ⟨b, o + t * 9, none⟩)) (.agg (claimA c)) ?_ ?_ ?_ ?_ ?_; rfl; rfl; rfl; exact hld; dsimp only [Act.put]; simp only [List.setIfInBounds_toArray, List.set_cons_succ, List.set_cons_zero]) | go_big_quiet_step (first | (go_at_call 13; exact Wd.call _ (ofClaim_any _ _))))
          refine wpQuiet_nil ?_
          rintro w' ⟨y, rfl⟩
          refine any_one 7 rfl (by kernel_rfl) rfl (fun K' hK' => ?_)
          go_simp
          refine (add_any k (itClaim c) y.w (hTr.q y.q) (hst.inn.q y.q) (itClaim_in c y.w) hlen).mono ?_
          rintro e w2 ⟨k', rfl, hsv, hl, hK2, hq2⟩
          refine hK' _ _ ?_
          clear hK' K'
          try simp only [Act.put, List.setIfInBounds_toArray, List.set_cons_succ, List.set_cons_zero]
          refine any_pure 8 (v := .tuple #[.agg (knA k'), .bool (addOk k.sv k.l (itClaim c))]) rfl (by kernel_rfl) (by kernel_rfl) (by kernel_rfl) (by intro c d v a w h; cases d <;> exact h) rfl (fun w => by rfl) ?_
          try simp only [Act.put, List.setIfInBounds_toArray, List.set_cons_succ, List.set_cons_zero]
          refine any_pure 9 (v := .agg (knA k')) rfl (by kernel_rfl) (by kernel_rfl) (by kernel_rfl) (by intro c d v a w h; cases d <;> exact h) rfl (fun w => by rfl) ?_
          try simp only [Act.put, List.setIfInBounds_toArray, List.set_cons_succ, List.set_cons_zero]
          refine any_pure 10 (v := .bool (addOk k.sv k.l (itClaim c))) rfl (by kernel_rfl) (by kernel_rfl) (by kernel_rfl) (by intro c d v a w h; cases d <;> exact h) rfl (fun w => by rfl) ?_
          try simp only [Act.put, List.setIfInBounds_toArray, List.set_cons_succ, List.set_cons_zero]
          have hqr2 : Q wr w2 := Q.trans y.q hq2
          have hb2 := hst.blk.q hqr2
          refine any_one 11 rfl (by kernel_rfl) rfl (fun K' hK' => ?_)
          refine wp_store_mid 31 (.tmp 7) (.tmp 41) rfl gk 0 k'.cells.toArray rfl rfl (by simpa using hb2.there (Nat.le_refl 2)) (by kernel_rfl) (kn_all _) ?_
          refine hK' _ _ ?_
          clear hK' K'
          refine any_done (by kernel_rfl) ?_ _
          have HST2 := Lib.hid (hst.step hqr2 hK2 (hsv.trans hst.hsv) (l' := setC p (t + 1)) (by rw [hl, hst.hsv, hst.hl, HF.out]))
          go_wp2_with fail
          exact ⟨⟨t + 1, k', by go_num, by omega, HST2.out⟩, by simp only [intOf]; omega⟩
        · have htn : t = p.claims.length := by omega
          have HC0 := Lib.hid (show setC p t = setV p 0 by rw [htn, setV_zero])
          have HST1 := Lib.hid hst
          have hlI : ¬ ((t : Int) < (p.claims.length : Int)) := by omega
          clear hst hqr hPr hTr e3 hLk d2
          go_wp2_with fail
          clear e2
          go_loopw [9] (fun i wr => ∃ (t : Nat) (k : KR), i = .int .i64 t ∧ t ≤ p.votes.length ∧ (t : Int) ≤ n ∧ MSt W2 gk (pubs p.seed j) (setV p t) wr k) (fun i _ => p.votes.length - (intOf i).toNat)
          case atStart => exact ⟨0, k, rfl, Nat.zero_le _, hn0, by rw [← HC0.out]; exact HST1.out⟩
          case round =>
            clear HST1 HC0 htn hlI hlt ht
            obtain ⟨r, k, rfl, hr, hrn, hst⟩ := hrel
            have hqr : Q w wr := Below.trans (Q.trans HQ.out HQ2.out) (hst.q.mono (by omega))
            have hPr := hP.q hqr
            have hTr := hT.q hqr
            have e3 : wr.cell? ⟨w.heap.size, 3, none⟩ = some (.slice p.vA p.votes.length p.vC) := (hst.q.cell (p := ⟨w.heap.size, 3, none⟩) (show w.heap.size < gk by omega)).trans d3
            have hLk : ∀ y : Wd wr, (Instr.loadAt 31 (.pointer (some ⟨gk, 0, none⟩))).run Tryz.prog y.w = .ok (.agg (knA k)) y.w := Wd.load hst.blk.lt (Blk.range hst.blk) Tryz.underlying31 rfl (by kernel_rfl)
            have hwz := hqr.size
            have hgr := hst.blk.lt
            by_cases hlt : r < p.votes.length ∧ (r : Int) < n
            · obtain ⟨hlt, hltn⟩ := hlt
              obtain ⟨b, o, eA, hb0, hcs⟩ := hPr.vo (by omega)
              have hBp2 : Blk wr w.heap.size 25 (pollA p) := (hst.q.block w.heap.size (by omega)).trans HBp.out
              have hLq : ∀ y : Wd wr, (Instr.loadAt 25 (.pointer (some ⟨w.heap.size, 0, none⟩))).run Tryz.prog y.w = .ok (.agg (pollA p)) y.w := Wd.load hBp2.lt (Blk.range hBp2) Tryz.underlying25 rfl (by kernel_rfl)
              have hld : ∀ y : Wd wr, (Instr.loadAt 84 (.pointer (some ⟨b, o + r * 2, none⟩))).run Tryz.prog y.w = .ok (.agg (voteC p.votes[r]).toArray) y.w := Wd.load hb0 (hcs r hlt) Tryz.underlying84 rfl (by kernel_rfl)
              have HF := Lib.hid (setV_succ p r hlt)
              rw [HM.out, show ((j : Int)).toNat = j from rfl] at HF
              have hvo := hokv.out _ (List.getElem_mem hlt)
              unfold voteOk at hvo
              have hcast : ∀ y : Wd wr, Calls Tryz.prog 44 #[.agg (pollA p), .agg (voteC p.votes[r]).toArray] y.w fun e w' => e = .returned (.agg (itA (castI p.seed p.claims p.votes[r]))) ∧ Q y.w w' := fun y => cast_any p p.votes[r] y.w (hTr.q y.q) (hPr.q y.q) hvo.1 (by omega) hvo.2.2.1 hvo.2.2.2 (by omega) HBB.out
              have HIT : Hid (∀ w, ItemIn w (castI p.seed p.claims p.votes[r])) := Lib.hid fun w => itBallot_in _ w
              have hlI : (r : Int) < (p.votes.length : Int) := by omega
              have hrI : (0 : Int) ≤ (r : Int) := by omega
              have hlen : k.l.length ≤ 100000 := by
                rw [hst.hl]
                have := setV_len p r
                omega
              rw [eA] at e3
              have e3y : ∀ y : Wd wr, y.w.cell? ⟨w.heap.size, 3, none⟩ = some (.slice (some ⟨b, o, none⟩) p.votes.length p.vC) := fun y => (y.cell (by omega)).trans e3
              clear hcs eA d3 hvo hBp2
              generalize castI p.seed p.claims p.votes[r] = IT at *
              generalize p.votes[r] = v at *
              generalize p.votes.length = cl at *
              go_wp2_with fail
              refine wp_region_open (C := fun w' => ∃ y : Wd wr, w' = y.w) 8 (by kernel_rfl) (by kernel_rfl) ((Wd.mk wr (Q.refl _)).next (Q.refl _).drew) ?_
              simp only [List.take_succ_cons, List.take_zero]
              repeat (first | (refine wpQuiet_load_run 31 (.tmp 7) (.pointer (some ⟨gk, 0, none⟩)) (.agg (knA k)) ?_ ?_ ?_ ?_ ?_; rfl; rfl; rfl; exact hLk; dsimp only [Act.put]; simp only [List.setIfInBounds_toArray, List.set_cons_succ, List.set_cons_zero]) | (refine wpQuiet_load_run 25 (.tmp 2) (.pointer (some ⟨w.heap.size, 0, none⟩)) (.agg (pollA p)) ?_ ?_ ?_ ?_ ?_; rfl; rfl; rfl; exact hLq; dsimp only [Act.put]; simp only [List.setIfInBounds_toArray, List.set_cons_succ, List.set_cons_zero]) | (refine wpQuiet_load_run 84 (.tmp 61) (.pointer (some ⟨b, o + r * 2, none⟩)) (.agg (voteC v).toArray) ?_ ?_ ?_ ?_ ?_; rfl; rfl; rfl; exact hld; dsimp only [Act.put]; simp only [List.setIfInBounds_toArray, List.set_cons_succ, List.set_cons_zero]) | go_big_quiet_step (first | (go_at_call 44; exact Wd.call _ (hcast _))))
              refine wpQuiet_nil ?_
              rintro w' ⟨y, rfl⟩
              refine any_one 8 rfl (by kernel_rfl) rfl (fun K' hK' => ?_)
              go_simp
              refine (add_any k IT y.w (hTr.q y.q) (hst.inn.q y.q) (HIT.out y.w) hlen).mono ?_
              rintro e w2 ⟨k', rfl, hsv, hl, hK2, hq2⟩
              refine hK' _ _ ?_
              clear hK' K'
              try simp only [Act.put, List.setIfInBounds_toArray, List.set_cons_succ, List.set_cons_zero]
              refine any_pure 9 (v := .tuple #[.agg (knA k'), .bool (addOk k.sv k.l IT)]) rfl (by kernel_rfl) (by kernel_rfl) (by kernel_rfl) (by intro c d v a w h; cases d <;> exact h) rfl (fun w => by rfl) ?_
              try simp only [Act.put, List.setIfInBounds_toArray, List.set_cons_succ, List.set_cons_zero]
              refine any_pure 10 (v := .agg (knA k')) rfl (by kernel_rfl) (by kernel_rfl) (by kernel_rfl) (by intro c d v a w h; cases d <;> exact h) rfl (fun w => by rfl) ?_
              try simp only [Act.put, List.setIfInBounds_toArray, List.set_cons_succ, List.set_cons_zero]
              refine any_pure 11 (v := .bool (addOk k.sv k.l IT)) rfl (by kernel_rfl) (by kernel_rfl) (by kernel_rfl) (by intro c d v a w h; cases d <;> exact h) rfl (fun w => by rfl) ?_
              try simp only [Act.put, List.setIfInBounds_toArray, List.set_cons_succ, List.set_cons_zero]
              have hqr2 : Q wr w2 := Q.trans y.q hq2
              have hb2 := hst.blk.q hqr2
              refine any_one 12 rfl (by kernel_rfl) rfl (fun K' hK' => ?_)
              refine wp_store_mid 31 (.tmp 7) (.tmp 65) rfl gk 0 k'.cells.toArray rfl rfl (by simpa using hb2.there (Nat.le_refl 2)) (by kernel_rfl) (kn_all _) ?_
              refine hK' _ _ ?_
              clear hK' K'
              refine any_done (by kernel_rfl) ?_ _
              have HST2 := Lib.hid (hst.step hqr2 hK2 (hsv.trans hst.hsv) (l' := setV p (r + 1)) (by rw [hl, hst.hsv, hst.hl, HF.out]))
              go_wp2_with fail
              exact ⟨⟨r + 1, k', by go_num, by omega, by omega, HST2.out⟩, by simp only [intOf]; omega⟩
            · have HV := Lib.hid (show setV p r = setV p n.toNat by
                rcases Nat.lt_or_ge r p.votes.length with h1 | h1
                · rw [show n.toNat = r by omega]
                · unfold setV
                  rw [List.take_of_length_le h1, List.take_of_length_le (show p.votes.length ≤ n.toNat by omega)])
              have hways : ¬ (r : Int) < n ∨ ((r : Int) < n ∧ ¬ (r : Int) < (p.votes.length : Int)) := by omega
              have hBr2 : Blk wr (w.heap.size + 1) 31 known0.cells.toArray := (hst.q.block (w.heap.size + 1) (by omega)).trans HRW.out
              have HST := Lib.hid hst
              clear hst d3 hPr hTr
              rcases hways with h1 | ⟨h1, h2⟩
              all_goals
                go_wp2_with (first | (refine wpList_load_run 31 (.tmp 7) (.pointer (some ⟨gk, 0, none⟩)) (.agg (knA k)) ?_ ?_ ?_ ?_ ?_; rfl; rfl; rfl; exact hLk ⟨wr, Q.refl _⟩) | (refine wpList_store_far hBr2 rfl 31 (.tmp 4) (.tmp 67) k.cells rfl rfl rfl (by kernel_rfl) (kn_all _) (Nat.le_refl 2) ?_))
                intro W hW hbel hfar
                rw [splice_all _ _ (by rfl)] at hW
                have hst := HST.out
                have hside : _root_.Go.Proofs.YtflgkplneekpfaaGreatDoor.Known.Aside wr W (w.heap.size + 1) := ⟨known_only hBr2, hfar, (hbel (w.heap.size + 1) wr (Nat.le_refl _) (Below.refl _ wr)).size⟩
                have hqW : Q w W := hbel _ _ (Nat.le_succ _) hqr
                have hkW : KIn W k := hside.known hst.inn
                have h3 : k.sv = pubs p.seed j := hst.hsv
                have h4 : k.l = setV p n.toNat := by rw [hst.hl, HV.out]
                clear hst
                go_wp2_with fail
                exact bodyPost_ret (results_cell_row rfl _ _ (w.heap.size + 1) 31 (knA k) (0, 0) _ rfl hW Tryz.underlying31 rfl (by kernel_rfl)) rfl ⟨_, rfl, h3, h4, hkW, hqW⟩
end Go.Proofs.YtflgkplneekpfaaGreatDoor.Vot

namespace Go.Proofs.YtflgkplneekpfaaGreatDoor.Vot
open Go.RowKit Grp Mem _root_.Go.Proofs.YtflgkplneekpfaaGreatDoor.Code Sha Sign _root_.Go.Proofs.YtflgkplneekpfaaGreatDoor.Item _root_.Go.Proofs.YtflgkplneekpfaaGreatDoor.Known Rng

def smA : ByteArray := ⟨#[48, 48, 48, 48, 48, 48, 48, 48, 48, 48, 48, 48, 48, 48, 97, 49]⟩
def smPr : ByteArray := ⟨#[48, 49, 50, 51, 52, 53, 54, 55, 56, 57, 97, 98, 99, 100, 101, 102, 48, 49, 50, 51, 52, 53, 54, 55, 56, 57, 97, 98, 99, 100, 101, 102]⟩
def smSeed : ByteArray := ⟨#[115]⟩
def smC : ClaimV := ⟨smA, 1, smPr, 0, 0, 37, 0, 0, 0⟩
def smVotes : List (Int × Int) := [(3, 0), (0, 0), (2, 0)]
def smP (A1 : Option Addr) (c1 : Nat) (A2 : Option Addr) (c2 : Nat) : PollR := ⟨smSeed, 4, [smC], A1, c1, smVotes, A2, c2⟩
def smD : ByteArray := ⟨#[119, 7, 230, 48, 79, 3, 10, 222, 123, 212, 174, 157, 248, 82, 17, 44, 156, 222, 230, 72, 107, 132, 152, 94, 206, 247, 20, 34, 81, 97, 90, 164]⟩
def smD0 : ByteArray := ⟨#[105, 192, 214, 49, 124, 92, 79, 252, 195, 168, 54, 235, 75, 169, 201, 163, 94, 97, 196, 150, 40, 121, 126, 237, 68, 185, 97, 171, 200, 143, 239, 120]⟩
def smB0 : BallotV := ⟨3, smA, 0, smD, 0, 2031286010294514331, 267022116298758693⟩
def smD1 : ByteArray := ⟨#[196, 35, 153, 183, 204, 18, 71, 4, 109, 208, 99, 131, 120, 241, 71, 228, 221, 67, 203, 80, 224, 32, 89, 94, 189, 154, 139, 17, 140, 159, 248, 117]⟩
def smB1 : BallotV := ⟨0, smA, 0, smD, 0, 569865455568627628, 1007561883739844594⟩
def smD2 : ByteArray := ⟨#[238, 43, 46, 126, 59, 193, 113, 113, 102, 167, 2, 96, 10, 13, 73, 23, 58, 175, 233, 82, 156, 42, 200, 132, 81, 51, 173, 180, 4, 186, 214, 39]⟩
def smB2 : BallotV := ⟨2, smA, 0, smD, 0, 1945413608298588137, 1541086457852228763⟩
theorem sm_dC : digC smC = smD := by decide +kernel
theorem sm_k0 : keyP smSeed 0 = (201576895867722005, 368323679197964784) := by decide +kernel
theorem sm_k1 : keyP smSeed 1 = (200033809931774192, 1736231029517862051) := by decide +kernel
theorem sm_k2 : keyP smSeed 2 = (1829549726076230926, 1332748958076624905) := by decide +kernel
theorem sm_k3 : keyP smSeed 3 = (146142744092064610, 1042082317385557421) := by decide +kernel
def smSv : List Int := [368323679197964784, 1736231029517862051, 1332748958076624905, 1042082317385557421]
theorem sm_pubs : pubs smSeed 4 = smSv := by
  unfold pubs
  rw [show List.range 4 = [0, 1, 2, 3] from rfl]
  simp only [List.map_cons, List.map_nil, sm_k0, sm_k1, sm_k2, sm_k3]
  rfl
theorem sm_s0 : sigOf (146142744092064610, 1042082317385557421) (messageB (itBallot ⟨3, smA, 0, smD, 0, 0, 0⟩)) = (2031286010294514331, 267022116298758693) := by decide +kernel
theorem sm_b0 : castB smSeed 3 smC = smB0 := by
  unfold castB
  rw [sm_dC, show ((3 : Int)).toNat = 3 from rfl, sm_k3]
  unfold signBallot
  rw [show smC.actor = smA from rfl, show smC.gen = 0 from rfl, sm_s0]
  rfl
theorem sm_d0 : digOf (itBallot smB0) = smD0 := by decide +kernel
theorem sm_g0 : signedB smSv (itBallot smB0) = true := by decide +kernel
theorem sm_s1 : sigOf (201576895867722005, 368323679197964784) (messageB (itBallot ⟨0, smA, 0, smD, 0, 0, 0⟩)) = (569865455568627628, 1007561883739844594) := by decide +kernel
theorem sm_b1 : castB smSeed 0 smC = smB1 := by
  unfold castB
  rw [sm_dC, show ((0 : Int)).toNat = 0 from rfl, sm_k0]
  unfold signBallot
  rw [show smC.actor = smA from rfl, show smC.gen = 0 from rfl, sm_s1]
  rfl
theorem sm_d1 : digOf (itBallot smB1) = smD1 := by decide +kernel
theorem sm_g1 : signedB smSv (itBallot smB1) = true := by decide +kernel
theorem sm_s2 : sigOf (1829549726076230926, 1332748958076624905) (messageB (itBallot ⟨2, smA, 0, smD, 0, 0, 0⟩)) = (1945413608298588137, 1541086457852228763) := by decide +kernel
theorem sm_b2 : castB smSeed 2 smC = smB2 := by
  unfold castB
  rw [sm_dC, show ((2 : Int)).toNat = 2 from rfl, sm_k2]
  unfold signBallot
  rw [show smC.actor = smA from rfl, show smC.gen = 0 from rfl, sm_s2]
  rfl
theorem sm_d2 : digOf (itBallot smB2) = smD2 := by decide +kernel
theorem sm_g2 : signedB smSv (itBallot smB2) = true := by decide +kernel
theorem sm_g : signedB smSv (itClaim smC) = true := by decide +kernel
theorem sm_dig : digOf (itClaim smC) = smD := sm_dC
theorem right_of_signed {sv : List Int} {x : ItemR} (h : signedB sv x = true) : itemRight x = true := by
  unfold signedB at h
  rw [Bool.and_eq_true] at h
  exact h.1
theorem addK_ok {sv : List Int} {l : List ItemR} {x : ItemR} (h1 : signedB sv x = true) (h2 : hasD l (digOf x) = false) : addK sv l x = insK l x := by
  unfold addK addOk
  rw [h1, h2]
  rfl
theorem sm_cast (i : Nat) (s : Int) (b : BallotV) (h : castB smSeed s smC = b) : castI smSeed [smC] (s, 0) = itBallot b := by
  unfold castI
  rw [show claimAt [smC] ((s, (0 : Int)).2) = smC from rfl, h]
theorem sm_set0 : fillK smSv [] (claimIs [smC]) = [itClaim smC] := by
  unfold claimIs
  show addK smSv [] (itClaim smC) = _
  rw [addK_ok sm_g rfl]
  rfl
theorem ins_one (l : List ItemR) (x : ItemR) (d : ByteArray) (ds : List ByteArray) (n : Nat) (hd : digOf x = d) (hl : digs l = ds) (hc : cutK d ds = n) : insK l x = l.take n ++ x :: l.drop n := by
  unfold insK
  rw [hd, hl, hc]
theorem has_no (l : List ItemR) (x : ItemR) (d : ByteArray) (ds : List ByteArray) (hd : digOf x = d) (hl : digs l = ds) (hc : ds.any (fun o => decide (o = d)) = false) : hasD l (digOf x) = false := by
  unfold hasD
  rw [hd, hl, hc]
def smI0 : List ItemR := [itBallot smB0, itClaim smC]
def smI1 : List ItemR := [itBallot smB0, itClaim smC, itBallot smB1]
def smI2 : List ItemR := [itBallot smB0, itClaim smC, itBallot smB1, itBallot smB2]
theorem sm_l0 : digs smI0 = [smD0, smD] := by unfold digs smI0; simp only [List.map_cons, List.map_nil, sm_d0, sm_dig]
theorem sm_l1 : digs smI1 = [smD0, smD, smD1] := by unfold digs smI1; simp only [List.map_cons, List.map_nil, sm_d0, sm_dig, sm_d1]
theorem sm_a0 : addK smSv [itClaim smC] (itBallot smB0) = smI0 := by
  have hl : digs [itClaim smC] = [smD] := by unfold digs; simp only [List.map_cons, List.map_nil, sm_dig]
  rw [addK_ok sm_g0 (has_no _ _ smD0 [smD] sm_d0 hl (by decide +kernel)), ins_one _ _ smD0 [smD] 0 sm_d0 hl (by decide +kernel)]
  rfl
theorem sm_a1 : addK smSv smI0 (itBallot smB1) = smI1 := by
  rw [addK_ok sm_g1 (has_no _ _ smD1 _ sm_d1 sm_l0 (by decide +kernel)), ins_one _ _ smD1 _ 2 sm_d1 sm_l0 (by decide +kernel)]
  rfl
theorem sm_a2 : addK smSv smI1 (itBallot smB2) = smI2 := by
  rw [addK_ok sm_g2 (has_no _ _ smD2 _ sm_d2 sm_l1 (by decide +kernel)), ins_one _ _ smD2 _ 3 sm_d2 sm_l1 (by decide +kernel)]
  rfl
theorem sm_ci : claimIs ([smC].take [smC].length) = claimIs [smC] := rfl
theorem sm_c2 : castIs smSeed [smC] (smVotes.take 2) = [itBallot smB0, itBallot smB1] := by
  unfold castIs smVotes
  rw [show List.take 2 [((3 : Int), (0 : Int)), (0, 0), (2, 0)] = [(3, 0), (0, 0)] from rfl]
  simp only [List.map_cons, List.map_nil]
  rw [sm_cast 0 3 _ sm_b0, sm_cast 0 0 _ sm_b1]
theorem sm_c3 : castIs smSeed [smC] (smVotes.take 3) = [itBallot smB0, itBallot smB1, itBallot smB2] := by
  unfold castIs smVotes
  rw [show List.take 3 [((3 : Int), (0 : Int)), (0, 0), (2, 0)] = [(3, 0), (0, 0), (2, 0)] from rfl]
  simp only [List.map_cons, List.map_nil]
  rw [sm_cast 0 3 _ sm_b0, sm_cast 0 0 _ sm_b1, sm_cast 0 2 _ sm_b2]
theorem setV_of (p : PollR) (seed : ByteArray) (m : Nat) (cs : List ClaimV) (vs : List (Int × Int)) (j : Nat) (h1 : p.seed = seed) (h2 : p.many.toNat = m) (h3 : p.claims = cs) (h4 : p.votes = vs) : setV p j = fillK (pubs seed m) (fillK (pubs seed m) [] (claimIs (cs.take cs.length))) (castIs seed cs (vs.take j)) := by
  unfold setV setC
  rw [h1, h2, h3, h4]
theorem fill2 (sv : List Int) (l : List ItemR) (x y : ItemR) : fillK sv l [x, y] = addK sv (addK sv l x) y := rfl
theorem fill3 (sv : List Int) (l : List ItemR) (x y z : ItemR) : fillK sv l [x, y, z] = addK sv (addK sv (addK sv l x) y) z := rfl
theorem sm_set2 (A1 : Option Addr) (c1 : Nat) (A2 : Option Addr) (c2 : Nat) : setV (smP A1 c1 A2 c2) 2 = smI1 := by
  rw [setV_of _ smSeed 4 [smC] smVotes 2 rfl rfl rfl rfl, sm_ci, sm_c2, sm_pubs, sm_set0, fill2, sm_a0, sm_a1]
theorem sm_set3 (A1 : Option Addr) (c1 : Nat) (A2 : Option Addr) (c2 : Nat) : setV (smP A1 c1 A2 c2) 3 = smI2 := by
  rw [setV_of _ smSeed 4 [smC] smVotes 3 rfl rfl rfl rfl, sm_ci, sm_c3, sm_pubs, sm_set0, fill3, sm_a0, sm_a1, sm_a2]

/-! ### What Voters, Won and Own answer -/
theorem sm_r0 : itemRight (itBallot smB0) = true := right_of_signed sm_g0
theorem sm_r1 : itemRight (itBallot smB1) = true := right_of_signed sm_g1
theorem sm_r2 : itemRight (itBallot smB2) = true := right_of_signed sm_g2
theorem sm_r : itemRight (itClaim smC) = true := right_of_signed sm_g
theorem sm_bal1 : ballotsS smA 0 smI1 = [smB0, smB1] := by
  unfold ballotsS takeB smI1
  simp only [List.filter, show wantB smA 0 (itBallot smB0) = true from rfl, show wantB smA 0 (itClaim smC) = false from rfl, show wantB smA 0 (itBallot smB1) = true from rfl, sm_r0, sm_r1, Bool.true_and, Bool.false_and]
  rfl
theorem sm_bal2 : ballotsS smA 0 smI2 = [smB0, smB1, smB2] := by
  unfold ballotsS takeB smI2
  simp only [List.filter, show wantB smA 0 (itBallot smB0) = true from rfl, show wantB smA 0 (itClaim smC) = false from rfl, show wantB smA 0 (itBallot smB1) = true from rfl, show wantB smA 0 (itBallot smB2) = true from rfl, sm_r0, sm_r1, sm_r2, Bool.true_and, Bool.false_and]
  rfl
theorem sm_cl1 : claimsS smA smI1 = [smC] := by
  unfold claimsS takeCl smI1
  simp only [List.filter, show wantCl smA (itBallot smB0) = false from rfl, show wantCl smA (itClaim smC) = true from rfl, show wantCl smA (itBallot smB1) = false from rfl, sm_r, Bool.true_and, Bool.false_and]
  rfl
theorem sm_cl2 : claimsS smA smI2 = [smC] := by
  unfold claimsS takeCl smI2
  simp only [List.filter, show wantCl smA (itBallot smB0) = false from rfl, show wantCl smA (itClaim smC) = true from rfl, show wantCl smA (itBallot smB1) = false from rfl, show wantCl smA (itBallot smB2) = false from rfl, sm_r, Bool.true_and, Bool.false_and]
  rfl
theorem sm_v2 : votersK smD [smB0, smB1, smB2] = [0, 2, 3] := by
  refine asc_unique _ _ (voters_asc _ _) (by decide) fun d => ?_
  rw [voters_mem]
  constructor
  · rintro ⟨b, hb, -, rfl⟩
    rcases List.mem_cons.1 hb with rfl | hb
    · decide
    · rcases List.mem_cons.1 hb with rfl | hb
      · decide
      · rw [List.mem_singleton] at hb
        subst hb
        decide
  · intro hd
    rcases List.mem_cons.1 hd with rfl | hd
    · exact ⟨smB1, by simp, rfl, rfl⟩
    · rcases List.mem_cons.1 hd with rfl | hd
      · exact ⟨smB2, by simp, rfl, rfl⟩
      · rw [List.mem_singleton] at hd
        subst hd
        exact ⟨smB0, by simp, rfl, rfl⟩
theorem sm_v1 : (votersK smD [smB0, smB1]).length ≤ 2 := voters_le _ _
theorem sm_won2 : wonR (wonO (quorumK 4) [smB0, smB1, smB2] 0 [smC]) = (smC, true) := by
  have h : winsB (quorumK 4) [smB0, smB1, smB2] 0 smC = true := by
    unfold winsB
    rw [sm_dig, sm_v2]
    decide
  unfold wonO
  rw [List.find?_cons_of_pos h]
  rfl
theorem sm_won1 : (wonR (wonO (quorumK 4) [smB0, smB1] 0 [smC])).2 = false := by
  have h : winsB (quorumK 4) [smB0, smB1] 0 smC = false := by
    unfold winsB
    rw [sm_dig, Bool.and_eq_false_iff]
    refine .inr (decide_eq_false ?_)
    have := sm_v1
    have hq : quorumK 4 = 3 := by decide
    rw [hq]
    omega
  unfold wonO
  rw [List.find?_cons_of_neg (by simp [h])]
  rfl
theorem sm_own3 : ownK 3 [smB0, smB1, smB2] = (smD, true) := rfl
theorem sm_own1 : (ownK 1 [smB0, smB1, smB2]).2 = false := rfl
end Go.Proofs.YtflgkplneekpfaaGreatDoor.Vot

namespace Go.Proofs.YtflgkplneekpfaaGreatDoor.Vot
open Go.RowKit Grp Mem

end Go.Proofs.YtflgkplneekpfaaGreatDoor.Vot

namespace Go.Proofs.YtflgkplneekpfaaGreatDoor.Vot
open Go.RowKit Grp Mem _root_.Go.Proofs.YtflgkplneekpfaaGreatDoor.Code Sha Sign _root_.Go.Proofs.YtflgkplneekpfaaGreatDoor.Item _root_.Go.Proofs.YtflgkplneekpfaaGreatDoor.Known Rng

/-! ### Sets that were filled -/
theorem setV_filled (p : PollR) (j : Nat) : Filled (pubs p.seed p.many.toNat) (setV p j) := Filled.fill _ (Filled.fill _ (Filled.nil _))
theorem sortB_of {l : List ItemR} (h : Asc (digs l)) (actor : ByteArray) (gen : Int) : SortedF (takeB actor gen l) := sortedF_of foundB (fun _ => rfl) (fun _ => rfl) _ l h
theorem sortCl_of {l : List ItemR} (h : Asc (digs l)) (actor : ByteArray) : SortedF (takeCl actor l) := sortedF_of foundCl (fun _ => rfl) (fun _ => rfl) _ l h

theorem build_smC (w : World) : (Instr.build 37 #[(0, .string ⟨#[48, 48, 48, 48, 48, 48, 48, 48, 48, 48, 48, 48, 48, 48, 97, 49]⟩), (1, .int .i64 1), (2, .string ⟨#[48, 49, 50, 51, 52, 53, 54, 55, 56, 57, 97, 98, 99, 100, 101, 102, 48, 49, 50, 51, 52, 53, 54, 55, 56, 57, 97, 98, 99, 100, 101, 102]⟩), (5, .int .i64 37)]).run Tryz.prog w = .ok (.agg (claimA smC)) w := by kernel_rfl
theorem build_vote (s n : Int) (w : World) : (Instr.build 84 #[(0, .int .i64 s), (1, .int .i64 n)]).run Tryz.prog w = .ok (.agg (voteC (s, n)).toArray) w := by kernel_rfl
theorem bs_votes (w : World) : (Instr.buildSlice 23 3 #[(0, .agg (voteC (3, 0)).toArray), (1, .agg (voteC (0, 0)).toArray), (2, .agg (voteC (2, 0)).toArray)]).run Tryz.prog w = .ok (.slice (some ⟨w.heap.size, 0, none⟩) 3 3) (w.alloc (.cells (smVotes.flatMap voteC).toArray 84)) := by kernel_rfl
theorem eql_smC (w : World) : (binOp .eql 37 (.agg (claimA smC)) (.agg (claimA smC))).run Tryz.prog w = .ok (.bool true) w := by kernel_rfl
theorem sm_valid (A1 : Option Addr) (c1 : Nat) (A2 : Option Addr) (c2 : Nat) : Valid (smP A1 c1 A2 c2) where
  m1 := show (1 : Int) ≤ 4 by decide
  m7 := show (4 : Int) ≤ 7 by decide
  c5 := show [smC].length ≤ 5 by simp
  v24 := show smVotes.length ≤ 24 by decide
  s100 := show smSeed.size ≤ 100 by decide
  ok := by
    intro v hv
    have h : v.1 = 3 ∨ v.1 = 0 ∨ v.1 = 2 := by
      rcases List.mem_cons.1 hv with rfl | hv
      · exact .inl rfl
      · rcases List.mem_cons.1 hv with rfl | hv
        · exact .inr (.inl rfl)
        · rw [List.mem_singleton] at hv
          subst hv
          exact .inr (.inr rfl)
    have h2 : v.2 = 0 := by
      rcases List.mem_cons.1 hv with rfl | hv
      · rfl
      · rcases List.mem_cons.1 hv with rfl | hv
        · rfl
        · rw [List.mem_singleton] at hv
          subst hv
          rfl
    refine ⟨by omega, show v.1 < (4 : Int) by omega, by omega, ?_⟩
    rw [h2]
    show (0 : Int) < (1 : Nat)
    decide
theorem votes_rows {w : World} {g : Nat} (h : Blk w g 84 (smVotes.flatMap voteC).toArray) : RowsAt w (some ⟨g, 0, none⟩) 2 voteC smVotes := fun _ => ⟨g, 0, rfl, h.lt, fun j hj => by
  have hr := Blk.range h
  have h0 := range_sub hr 0 2
  have h1 := range_sub hr 2 2
  have h2 := range_sub hr 4 2
  match j, hj with
  | 0, _ => exact h0
  | 1, _ => exact h1
  | 2, _ => exact h2⟩

theorem alloc_claim (w : World) : (Instr.alloc 37 true (.tuple #[])).run Tryz.prog w = .ok (.pointer (some ⟨w.heap.size, 0, none⟩)) (w.alloc (.cells (claimA claim0) 37)) := by kernel_rfl
theorem quorum_at (n r : Int) (w : World) (h : quorumK n = r) (hn : n ≤ 1000000) : Calls Tryz.prog 11 #[.int .i64 n] w fun e w' => e = .returned (.int .i64 r) ∧ Q w w' := h ▸ quorum_any n w hn
theorem load_str {w : World} {g o : Nat} {d : ByteArray} (h : w.cell? ⟨g, o, none⟩ = some (.string d)) : (Instr.loadAt 9 (.pointer (some ⟨g, o, none⟩))).run Tryz.prog w = .ok (.string d) w := by
  have h1 := Tryz.underlying9
  have h2 := Tryz.isAgg9
  unfold Instr.loadAt
  go_simp
set_option maxRecDepth 100000 in
set_option maxHeartbeats 8000000 in
theorem small18_any (w : World) (hT : Tab w) : Calls Tryz.prog 8 #[] w fun e w' => e = .returned (.bool true) ∧ Q w w' := by
  go_enter Tryz.func8, Tryz.ntmps8
  go_wp2_with (first | (refine wpList_build_run 37 _ #[(0, .string ⟨#[48, 48, 48, 48, 48, 48, 48, 48, 48, 48, 48, 48, 48, 48, 97, 49]⟩), (1, .int .i64 1), (2, .string ⟨#[48, 49, 50, 51, 52, 53, 54, 55, 56, 57, 97, 98, 99, 100, 101, 102, 48, 49, 50, 51, 52, 53, 54, 55, 56, 57, 97, 98, 99, 100, 101, 102]⟩), (5, .int .i64 37)] (.agg (claimA smC)) rfl rfl (by simp only [List.map_toArray, List.map_cons, List.map_nil]; rfl) (build_smC _) ?_) | (refine wpList_store_blk (Blk.new w 37 claim0.cells.toArray) rfl 37 (.tmp 1) (.tmp 13) smC.cells rfl rfl rfl (by kernel_rfl) (claim_all _) (Nat.le_refl 9) ?_))
  intro W1 hW1 hbel1
  rw [splice_all _ _ (by rfl)] at hW1
  have hq1 : Q w W1 := hbel1 _ _ (Nat.le_refl _) (q_new _ _ _)
  have hgc : w.heap.size < W1.heap.size := hW1.lt
  have hLc : ∀ y : Wd W1, (Instr.loadAt 37 (.pointer (some ⟨w.heap.size, 0, none⟩))).run Tryz.prog y.w = .ok (.agg (claimA smC)) y.w := Wd.load hW1.lt (Blk.range hW1) Tryz.underlying37 rfl (by kernel_rfl)
  have hc0 : ∀ y : Wd W1, y.w.cell? ⟨w.heap.size, 0, none⟩ = some (.string smA) := fun y => (y.blk hW1).cell 0
  have hT1 : ∀ y : Wd W1, Tab y.w := fun y => hT.q (Q.trans hq1 y.q)
  have HQ1 := Lib.hid hq1
  clear hbel1 hW1 hq1
  generalize w.heap.size = gc at *
  obtain ⟨u, hu⟩ := Wd.first W1
  rw [hu]
  clear hu
  go_upto_region 3 with (first | (refine wpList_load_run 37 (.tmp 1) (.pointer (some ⟨gc, 0, none⟩)) (.agg (claimA smC)) ?_ ?_ ?_ ?_ ?_; rfl; rfl; rfl; exact hLc _) | (refine wpList_buildSlice_run 22 1 _ #[(0, .agg (claimA smC))] _ rfl rfl (by simp only [List.map_toArray, List.map_cons, List.map_nil]; rfl) (bsCl_val smC _) ?_) | (refine wpList_build_run 84 _ #[(0, .int .i64 3), (1, .int .i64 0)] (.agg (voteC (3, 0)).toArray) rfl rfl (by simp only [List.map_toArray, List.map_cons, List.map_nil]; rfl) (build_vote _ _ _) ?_) | (refine wpList_build_run 84 _ #[(0, .int .i64 0), (1, .int .i64 0)] (.agg (voteC (0, 0)).toArray) rfl rfl (by simp only [List.map_toArray, List.map_cons, List.map_nil]; rfl) (build_vote _ _ _) ?_) | (refine wpList_build_run 84 _ #[(0, .int .i64 2), (1, .int .i64 0)] (.agg (voteC (2, 0)).toArray) rfl rfl (by simp only [List.map_toArray, List.map_cons, List.map_nil]; rfl) (build_vote _ _ _) ?_) | (refine wpList_buildSlice_run 23 3 _ #[(0, .agg (voteC (3, 0)).toArray), (1, .agg (voteC (0, 0)).toArray), (2, .agg (voteC (2, 0)).toArray)] _ rfl rfl (by simp only [List.map_toArray, List.map_cons, List.map_nil]; rfl) (bs_votes _) ?_))
  have b1 := Blk.new u.w 37 (claimA smC)
  have q1 := q_new u.w (claimA smC) 37
  have b2 := Blk.new' (g := u.w.heap.size + 1) (u.w.alloc (.cells (claimA smC) 37)) 84 (smVotes.flatMap voteC).toArray (by simp)
  have q2 := q_new (u.w.alloc (.cells (claimA smC) 37)) (smVotes.flatMap voteC).toArray 84
  have hr1 := (RowsAt.one (k := 9) (f := ClaimV.cells) u.w 37 smC (claimA smC) rfl).q q2
  obtain ⟨p, hp⟩ : ∃ p, p = smP (some ⟨u.w.heap.size, 0, none⟩) 1 (some ⟨u.w.heap.size + 1, 0, none⟩) 3 := ⟨_, rfl⟩
  have b3 := Blk.new' (g := u.w.heap.size + 1 + 1) ((u.w.alloc (.cells (claimA smC) 37)).alloc (.cells (smVotes.flatMap voteC).toArray 84)) 25 (pollA p) (by simp)
  have q3 := q_new ((u.w.alloc (.cells (claimA smC) 37)).alloc (.cells (smVotes.flatMap voteC).toArray 84)) (pollA p) 25
  obtain ⟨W2, hW2⟩ : ∃ W2, W2 = ((u.w.alloc (.cells (claimA smC) 37)).alloc (.cells (smVotes.flatMap voteC).toArray 84)).alloc (.cells (pollA p) 25) := ⟨_, rfl⟩
  have hq2 := Q.trans u.q (Q.trans (Q.trans q1 q2) q3)
  have hvr := (votes_rows b2).q q3
  have hcr := hr1.q q3
  rw [← hW2] at b3 hq2 hvr hcr
  have hPI : PollIn W2 p := by
    subst hp
    exact ⟨hcr, hvr, ⟨by show (1 : Nat) ≤ 1; decide, by show (1 : Nat) ≤ maxLen; decide⟩, ⟨by show (3 : Nat) ≤ 3; decide, by show (3 : Nat) ≤ maxLen; decide⟩⟩
  have hLp : ∀ y : Wd W2, (Instr.loadAt 25 (.pointer (some ⟨u.w.heap.size + 1 + 1, 0, none⟩))).run Tryz.prog y.w = .ok (.agg (pollA p)) y.w := Wd.load b3.lt (Blk.range b3) Tryz.underlying25 rfl (by kernel_rfl)
  have hT2 : ∀ y : Wd W2, Tab y.w := fun y => hT1 ⟨y.w, Q.trans hq2 y.q⟩
  have hLc2 : ∀ y : Wd W2, (Instr.loadAt 37 (.pointer (some ⟨gc, 0, none⟩))).run Tryz.prog y.w = .ok (.agg (claimA smC)) y.w := fun y => hLc ⟨y.w, Q.trans hq2 y.q⟩
  have hc02 : ∀ y : Wd W2, y.w.cell? ⟨gc, 0, none⟩ = some (.string smA) := fun y => hc0 ⟨y.w, Q.trans hq2 y.q⟩
  have hbb : ∀ c ∈ p.claims, c.actor.size ≤ 140737488351232 ∧ c.gen ≤ 9223372036854775807 := by
    subst hp
    intro c hc
    have : c = smC := by
      have hc' : c ∈ [smC] := hc
      rwa [List.mem_singleton] at hc'
    subst this
    exact ⟨by decide, by decide⟩
  have hsv : pubs p.seed p.many.toNat = smSv := by
    subst hp
    exact sm_pubs
  have hmd : ∀ (n : Nat), n ≤ 3 → ∀ y : Wd W2, Calls Tryz.prog 10 #[.agg (pollA p), .int .i64 (n : Int)] y.w (KnownIs smSv (setV p n) y.w) := fun n hn y => by
    have hva : Valid p := by subst hp; exact sm_valid _ _ _ _
    have := made_any p (n : Int) y.w (hT2 y) (hPI.q y.q) hva (by omega) (by omega) hbb
    rwa [hsv, show ((n : Int)).toNat = n from rfl] at this
  have hm3 := hmd 3 (by decide)
  have hm2 := hmd 2 (by decide)
  rw [hp, sm_set3] at hm3
  rw [hp, sm_set2] at hm2
  rw [← hp] at hm3 hm2
  have hA3 : Asc (digs smI2) := by
    have := (setV_filled (smP none 0 none 0) 3).asc
    rwa [sm_set3] at this
  have hA2 : Asc (digs smI1) := by
    have := (setV_filled (smP none 0 none 0) 2).asc
    rwa [sm_set2] at this
  have hpa : (Value.agg #[.string ⟨#[115]⟩, .int .i64 4, .slice (some ⟨u.w.heap.size, 0, none⟩) 1 1, .slice (some ⟨u.w.heap.size + 1, 0, none⟩) 3 3]) = .agg (pollA p) := by subst hp; rfl
  have hpc : (#[.string ⟨#[115]⟩, .int .i64 4, .slice (some ⟨u.w.heap.size, 0, none⟩) 1 1, .slice (some ⟨u.w.heap.size + 1, 0, none⟩) 3 3] : Array Value) = pollA p := by subst hp; rfl
  rw [hpc, ← hW2]
  have HQ2 := Lib.hid hq2
  have hgp : u.w.heap.size + 1 + 1 < W2.heap.size := b3.lt
  have hg0 : gc < u.w.heap.size := Nat.lt_of_lt_of_le hgc u.q.size
  clear b1 b2 b3 q1 q2 q3 hr1 hW2 hvr hcr hPI hp hbb hsv hmd hpa hpc hLc hc0 hT1 hq2
  generalize u.w.heap.size + 1 + 1 = gp at *
  obtain ⟨v, hv⟩ := Wd.first W2
  rw [hv]
  clear hv
  go_wp2_with (first | (refine wpList_load_run 25 (.tmp 2) (.pointer (some ⟨gp, 0, none⟩)) (.agg (pollA p)) ?_ ?_ ?_ ?_ ?_; rfl; rfl; rfl; exact hLp _) | (go_at_call 10; refine (hm3 _).mono ?_; rintro e w' ⟨k3, rfl, hks, hkl, hkK, hq⟩; have hqk := hq; obtain ⟨v2, rfl⟩ := Wd.next _ hq; clear hq) | (refine wpList_store_blk (Blk.new v2.w 31 known0.cells.toArray) rfl 31 (.tmp 3) (.tmp 22) k3.cells rfl rfl rfl (by kernel_rfl) (kn_all _) (Nat.le_refl 2) ?_))
  intro W3 hW3 hbel3
  rw [splice_all _ _ (by rfl)] at hW3
  have hq3 : Q W2 W3 := hbel3 _ _ v2.q.size (Q.trans v2.q (q_new _ _ _))
  have hK3 : KIn W3 k3 := hkK.q (hbel3 _ _ (Nat.le_refl _) (q_new _ _ _))
  have hLk : ∀ y : Wd W3, (Instr.loadAt 31 (.pointer (some ⟨v2.w.heap.size, 0, none⟩))).run Tryz.prog y.w = .ok (.agg (knA k3)) y.w := Wd.load hW3.lt (Blk.range hW3) Tryz.underlying31 rfl (by kernel_rfl)
  have hgk : v2.w.heap.size < W3.heap.size := hW3.lt
  have hLc3 : ∀ z, Q W3 z → (Instr.loadAt 37 (.pointer (some ⟨gc, 0, none⟩))).run Tryz.prog z = .ok (.agg (claimA smC)) z := fun z hz => hLc2 ⟨z, Q.trans hq3 hz⟩
  have hS3 : ∀ z, Q W3 z → (Instr.loadAt 9 (.pointer (some ⟨gc, 0, none⟩))).run Tryz.prog z = .ok (.string smA) z := fun z hz => load_str (hc02 ⟨z, Q.trans hq3 hz⟩)
  have hc03 : ∀ z, Q W3 z → z.cell? ⟨gc, 0, none⟩ = some (.string smA) := fun z hz => hc02 ⟨z, Q.trans hq3 hz⟩
  have hLp3 : ∀ z, Q W3 z → (Instr.loadAt 25 (.pointer (some ⟨gp, 0, none⟩))).run Tryz.prog z = .ok (.agg (pollA p)) z := fun z hz => hLp ⟨z, Q.trans hq3 hz⟩
  have hLk3 : ∀ z, Q W3 z → (Instr.loadAt 31 (.pointer (some ⟨v2.w.heap.size, 0, none⟩))).run Tryz.prog z = .ok (.agg (knA k3)) z := fun z hz => hLk ⟨z, hz⟩
  have hT3 : ∀ z, Q W3 z → Tab z := fun z hz => hT2 ⟨z, Q.trans hq3 hz⟩
  have hDg : ∀ z, Q W3 z → Calls Tryz.prog 15 #[.agg (claimA smC)] z fun e w' => e = .returned (.string smD) ∧ Q z w' := fun z hz => by
    have := digestC_any smC z (hT3 z hz)
    rwa [sm_dC] at this
  have hlk : k3.l.length ≤ 1000 := by rw [hkl]; decide
  have hA3' : Asc (digs k3.l) := by rw [hkl]; exact hA3
  have hVo : ∀ z, Q W3 z → Calls Tryz.prog 14 #[.agg (knA k3), .string smD, .string smA, .int .i64 0] z (VotersAre [0, 2, 3] z) := fun z hz => by
    have := voters_any k3 smD smA 0 z (hT3 z hz) (hK3.q hz) hlk (sortB_of hA3' _ _)
    rwa [hkl, sm_bal2, sm_v2] at this
  have hWo : ∀ z, Q W3 z → Calls Tryz.prog 16 #[.agg (knA k3), .string smA, .int .i64 0] z fun e w' => e = .returned (.tuple #[.agg (claimA smC), .bool true]) ∧ Q z w' := fun z hz => by
    have := won_any k3 smA 0 z (hT3 z hz) (hK3.q hz) hlk (by rw [hks]; decide) (sortB_of hA3' _ _) (sortCl_of hA3' _)
    rwa [hks, hkl, sm_bal2, sm_cl2, show ((smSv.length : Nat) : Int) = 4 from rfl, sm_won2] at this
  have hO3 : ∀ z, Q W3 z → Calls Tryz.prog 31 #[.agg (knA k3), .int .i64 3, .string smA, .int .i64 0] z fun e w' => e = .returned (.tuple #[.string smD, .bool true]) ∧ Q z w' := fun z hz => by
    have := own_any k3 3 smA 0 z (hT3 z hz) (hK3.q hz) hlk (sortB_of hA3' _ _)
    rwa [hkl, sm_bal2, sm_own3] at this
  have hO1 : ∀ z, Q W3 z → Calls Tryz.prog 31 #[.agg (knA k3), .int .i64 1, .string smA, .int .i64 0] z fun e w' => e = .returned (.tuple #[.string emptyT, .bool false]) ∧ Q z w' := fun z hz => by
    have := own_any k3 1 smA 0 z (hT3 z hz) (hK3.q hz) hlk (sortB_of hA3' _ _)
    rwa [hkl, sm_bal2, sm_own1] at this
  have hM2 : ∀ z, Q W3 z → Calls Tryz.prog 10 #[.agg (pollA p), .int .i64 2] z (KnownIs smSv smI1 z) := fun z hz => hm2 ⟨z, Q.trans hq3 hz⟩
  have hW2' : ∀ (k2 : KR) (z : World), Q W3 z → KIn z k2 → k2.sv = smSv → k2.l = smI1 → Calls Tryz.prog 16 #[.agg (knA k2), .string smA, .int .i64 0] z fun e w' => (∃ c : ClaimV, e = .returned (.tuple #[.agg (claimA c), .bool false])) ∧ Q z w' := fun k2 z hz hK2 hks2 hkl2 => by
    have hA : Asc (digs k2.l) := by rw [hkl2]; exact hA2
    have := won_any k2 smA 0 z (hT3 z hz) hK2 (by rw [hkl2]; decide) (by rw [hks2]; decide) (sortB_of hA _ _) (sortCl_of hA _)
    rw [hks2, hkl2, sm_bal1, sm_cl1, show ((smSv.length : Nat) : Int) = 4 from rfl, sm_won1] at this
    exact this.mono fun e w' ⟨h1, h2⟩ => ⟨⟨_, h1⟩, h2⟩
  have HQ3 := Lib.hid (Q.trans HQ1.out (Q.trans HQ2.out hq3))
  clear hbel3 hW3 hq3 hLk hLp hc02 hLc2 hT2 hm3 hm2 hA3 hA2 hA3' hlk hkK hqk
  generalize v2.w.heap.size = gk at *
  clear hT3
  go_upto_region 4 with (fail)
  refine wp_region_S (fun z => Q W3 z) (by kernel_rfl) (Q.refl _).drew ?_
  intro z hz
  refine held_read 0 (v := .agg (knA k3)) rfl (by kernel_rfl) (by kernel_rfl) (by kernel_rfl) (by intro c a d v w h; cases d <;> exact h) rfl hz (fun z hz => exec_load 31 (.tmp 3) _ _ rfl rfl (hLk3 z hz)) ?_
  try simp only [Act.put, List.setIfInBounds_toArray, List.set_cons_succ, List.set_cons_zero]
  refine held_read 1 (v := .agg (claimA smC)) rfl (by kernel_rfl) (by kernel_rfl) (by kernel_rfl) (by intro c a d v w h; cases d <;> exact h) rfl hz (fun z hz => exec_load 37 (.tmp 1) _ _ rfl rfl (hLc3 z hz)) ?_
  try simp only [Act.put, List.setIfInBounds_toArray, List.set_cons_succ, List.set_cons_zero]
  refine held_pure 3 (v := .pointer (some ⟨gc, 0, none⟩)) rfl (by kernel_rfl) (by kernel_rfl) (by kernel_rfl) (by intro c a d v w h; cases d <;> exact h) rfl hz (fun w => by rfl) ?_
  try simp only [Act.put, List.setIfInBounds_toArray, List.set_cons_succ, List.set_cons_zero]
  refine held_read 4 (v := .string smA) rfl (by kernel_rfl) (by kernel_rfl) (by kernel_rfl) (by intro c a d v w h; cases d <;> exact h) rfl hz (fun z hz => exec_load 9 (.tmp 26) _ _ rfl rfl (hS3 z hz)) ?_
  try simp only [Act.put, List.setIfInBounds_toArray, List.set_cons_succ, List.set_cons_zero]
  refine held_one 2 rfl (by kernel_rfl) rfl (fun K' hK' => ?_)
  go_simp
  refine (hDg z hz).mono ?_
  rintro e z5 ⟨rfl, q5⟩
  refine hK' _ _ (Q.trans hz q5) ?_
  clear hK' K'
  try simp only [Act.put, List.setIfInBounds_toArray, List.set_cons_succ, List.set_cons_zero]
  refine held_one 5 rfl (by kernel_rfl) rfl (fun K' hK' => ?_)
  go_simp
  refine (hVo z5 (Q.trans hz q5)).mono ?_
  rintro e W4 ⟨A, c, rfl, hvc, hvm, hvI, q6⟩
  have hq4 := Q.trans (Q.trans hz q5) q6
  refine hK' _ _ hq4 ?_
  clear hK' K'
  try simp only [Act.put, List.setIfInBounds_toArray, List.set_cons_succ, List.set_cons_zero]
  refine held_pure 6 (v := .slice A 3 c) rfl (by kernel_rfl) (by kernel_rfl) (by kernel_rfl) (by intro c a d v w h; cases d <;> exact h) rfl hq4 (fun w => by rfl) ?_
  try simp only [Act.put, List.setIfInBounds_toArray, List.set_cons_succ, List.set_cons_zero]
  refine wpAnyH_done (by kernel_rfl) ?_ _
  clear hz q5 q6 hVo
  clear z5 z
  have e0 := hc03 W4 hq4
  go_wp2_with (first | (refine wpList_load_run 31 (.tmp 3) (.pointer (some ⟨gk, 0, none⟩)) (.agg (knA k3)) ?_ ?_ ?_ ?_ ?_; rfl; rfl; rfl; exact hLk3 _ hq4) | (go_at_call 16; refine (hWo _ hq4).mono ?_; rintro e z6 ⟨rfl, q6⟩; have hq6 := Q.trans hq4 q6) | (refine wpList_store_blk (Blk.new z6 37 claim0.cells.toArray) rfl 37 (.tmp 5) (.tmp 34) smC.cells rfl rfl rfl (by kernel_rfl) (claim_all _) (Nat.le_refl 9) ?_))
  intro W5 hW5 hbel5
  rw [splice_all _ _ (by rfl)] at hW5
  have hq45 : Q W4 W5 := hbel5 _ _ q6.size (Q.trans q6 (q_new _ _ _))
  have hq5 : Q W3 W5 := Q.trans hq4 hq45
  have hL5 : ∀ z, Q W5 z → (Instr.loadAt 37 (.pointer (some ⟨z6.heap.size, 0, none⟩))).run Tryz.prog z = .ok (.agg (claimA smC)) z := fun z hz => Wd.load (P := Tryz.prog) (ty := 37) hW5.lt (Blk.range hW5) Tryz.underlying37 rfl (by kernel_rfl) ⟨z, hz⟩
  have hvI := hvI.q hq45
  generalize z6.heap.size = g5 at *
  clear hW5 hbel5 e0 hq6 q6 hWo hq4 hq45
  go_upto_region 6 with (fail)
  refine wp_region_S (fun z => Q W5 z) (by kernel_rfl) (Q.refl _).drew ?_
  intro z hz
  refine held_read 0 (v := .agg (pollA p)) rfl (by kernel_rfl) (by kernel_rfl) (by kernel_rfl) (by intro c a d v w h; cases d <;> exact h) rfl hz (fun z hz => exec_load 25 (.tmp 2) _ _ rfl rfl (hLp3 z (Q.trans hq5 hz))) ?_
  try simp only [Act.put, List.setIfInBounds_toArray, List.set_cons_succ, List.set_cons_zero]
  refine held_pure 2 (v := .pointer (some ⟨gc, 0, none⟩)) rfl (by kernel_rfl) (by kernel_rfl) (by kernel_rfl) (by intro c a d v w h; cases d <;> exact h) rfl hz (fun w => by rfl) ?_
  try simp only [Act.put, List.setIfInBounds_toArray, List.set_cons_succ, List.set_cons_zero]
  refine held_read 3 (v := .string smA) rfl (by kernel_rfl) (by kernel_rfl) (by kernel_rfl) (by intro c a d v w h; cases d <;> exact h) rfl hz (fun z hz => exec_load 9 (.tmp 39) _ _ rfl rfl (hS3 z (Q.trans hq5 hz))) ?_
  try simp only [Act.put, List.setIfInBounds_toArray, List.set_cons_succ, List.set_cons_zero]
  refine held_fork 1 8 rfl rfl (by kernel_rfl) rfl rfl (fun K' hK' => ?_) (fun K' hK' => ?_)
  · go_simp
    refine (hM2 z (Q.trans hq5 hz)).mono ?_
    rintro e za ⟨k2, rfl, hs2, hl2, hK2, qa⟩
    have hqa := Q.trans hz qa
    refine hK' _ _ hqa ?_
    clear hK' K'
    try simp only [Act.put, List.setIfInBounds_toArray, List.set_cons_succ, List.set_cons_zero]
    refine held_fork 4 8 rfl rfl (by kernel_rfl) rfl rfl (fun K' hK' => ?_) (fun K' hK' => ?_)
    · go_simp
      refine (hW2' k2 za (Q.trans hq5 hqa) hK2 hs2 hl2).mono ?_
      rintro e zb ⟨⟨c2, rfl⟩, qb⟩
      have hqb := Q.trans hqa qb
      refine hK' _ _ hqb ?_
      clear hK' K'
      try simp only [Act.put, List.setIfInBounds_toArray, List.set_cons_succ, List.set_cons_zero]
      refine held_pure 5 (v := .tuple #[.agg (claimA c2), .bool false]) rfl (by kernel_rfl) (by kernel_rfl) (by kernel_rfl) (by intro c a d v w h; cases d <;> exact h) rfl hqb (fun w => by rfl) ?_
      try simp only [Act.put, List.setIfInBounds_toArray, List.set_cons_succ, List.set_cons_zero]
      refine held_pure 6 (v := .agg (claimA c2)) rfl (by kernel_rfl) (by kernel_rfl) (by kernel_rfl) (by intro c a d v w h; cases d <;> exact h) rfl hqb (fun w => by rfl) ?_
      try simp only [Act.put, List.setIfInBounds_toArray, List.set_cons_succ, List.set_cons_zero]
      refine held_pure 7 (v := .bool false) rfl (by kernel_rfl) (by kernel_rfl) (by kernel_rfl) (by intro c a d v w h; cases d <;> exact h) rfl hqb (fun w => by rfl) ?_
      try simp only [Act.put, List.setIfInBounds_toArray, List.set_cons_succ, List.set_cons_zero]
      refine held_one 8 rfl (by kernel_rfl) rfl (fun K' hK' => ?_)
      refine wp_alloc_run 37 (.pointer (some ⟨(zb).heap.size, 0, none⟩)) rfl (alloc_claim _) ?_
      have hbl := Blk.new (zb) 37 (claimA claim0)
      have hqn := q_new (zb) (claimA claim0) 37
      have hzs := (hqb).size
      have hql := Q.trans hqb hqn
      refine hK' _ _ hql ?_
      clear hK' K'
      try simp only [Act.put, List.setIfInBounds_toArray, List.set_cons_succ, List.set_cons_zero]
      refine held_one 9 rfl (by kernel_rfl) rfl (fun K' hK' => ?_)
      refine wp_store_mid 37 (.tmp 7) (.tmp 42) rfl zb.heap.size 0 c2.cells.toArray rfl rfl (by simpa using (hbl).there (Nat.le_refl 9)) (by kernel_rfl) (claim_all _) ?_
      have hqE5 : Q W5 ((zb.alloc (.cells (claimA claim0) 37)).setCells zb.heap.size 0 c2.cells) := below_setCells (by omega) c2.cells 0 _ _ hql
      refine hK' _ _ hqE5 ?_
      clear hK' K'
      try simp only [Act.put, List.setIfInBounds_toArray, List.set_cons_succ, List.set_cons_zero]
      refine held_pure 10 (v := .bool false) rfl (by kernel_rfl) (by kernel_rfl) (by kernel_rfl) (by intro c a d v w h; cases d <;> exact h) rfl hqE5 (fun w => by rfl) ?_
      try simp only [Act.put, List.setIfInBounds_toArray, List.set_cons_succ, List.set_cons_zero]
      refine wpAnyH_done (by kernel_rfl) ?_ _
      obtain ⟨W6, hW6⟩ : ∃ W6, W6 = (zb.alloc (.cells (claimA claim0) 37)).setCells zb.heap.size 0 c2.cells := ⟨_, rfl⟩
      rw [← hW6] at hqE5 ⊢
      have h6 := Q.trans hq5 hqE5
      have hvI6 := hvI.q hqE5
      have hL6 : ∀ z, Q W6 z → (Instr.loadAt 37 (.pointer (some ⟨g5, 0, none⟩))).run Tryz.prog z = .ok (.agg (claimA smC)) z := fun z hz => hL5 z (Q.trans hqE5 hz)
      clear hW6 hqE5 hqb hbl hqn hzs hql qa hqa qb hK2 hz hL5 hvI hM2 hW2' hLp3 hS3
      have f0 := hc03 _ h6
      go_upto_region 9 with (first | (refine wpList_load_run 31 (.tmp 3) (.pointer (some ⟨gk, 0, none⟩)) (.agg (knA k3)) ?_ ?_ ?_ ?_ ?_; rfl; rfl; rfl; exact hLk3 _ (by with_reducible assumption)) | (go_at_call 31; refine (hO3 _ h6).mono ?_; rintro e z7 ⟨rfl, q7⟩; have h7 := Q.trans h6 q7; have f1 := hc03 _ h7; clear hO3) | (go_at_call 31; refine (hO1 _ h7).mono ?_; rintro e z8 ⟨rfl, q8⟩; have h8 := Q.trans h7 q8))
      obtain ⟨b, o, eA, hb, hcv⟩ := (hvI6.q (Q.trans q7 q8)) (by decide)
      subst eA
      have n0 : z8.cell? ⟨b, o, none⟩ = some (.int .i64 0) := hcv 0 (by decide)
      have n1 : z8.cell? ⟨b, o + 1, none⟩ = some (.int .i64 2) := hcv 1 (by decide)
      have n2 : z8.cell? ⟨b, o + 2, none⟩ = some (.int .i64 3) := hcv 2 (by decide)
      have hL8 := hL6 z8 (Q.trans q7 q8)
      have hLc8 := hLc3 z8 h8
      have hD8 := hDg z8 h8
      have heq := eql_smC
      have q4 : quorumK 4 = 3 := by decide
      have q3 : quorumK 3 = 3 := by decide
      have q1 : quorumK 1 = 1 := by decide
      have q0 : quorumK 0 = 1 := by decide
      have q6' : quorumK 6 = 5 := by decide
      have HQ3' := Lib.hid (Q.trans HQ3.out h8)
      clear hcv hvI6 f0 f1 h6 h7 h8 q7 q8 hLc3 hc03 hLk3 hDg hO1 hL6
      go_wp2_with (first | (refine wpList_load_run 37 (.tmp 5) (.pointer (some ⟨g5, 0, none⟩)) (.agg (claimA smC)) ?_ ?_ ?_ ?_ ?_; rfl; rfl; rfl; exact hL8) | (refine wpList_load_run 37 (.tmp 1) (.pointer (some ⟨gc, 0, none⟩)) (.agg (claimA smC)) ?_ ?_ ?_ ?_ ?_; rfl; rfl; rfl; exact hLc8) | (go_at_call 15; refine hD8.mono ?_; rintro e z9 ⟨rfl, q9⟩; have HQ3' := Lib.hid (Q.trans HQ3'.out q9)) | (go_at_call 11; refine (quorum_at _ _ _ (by with_reducible first | exact q4 | exact q3 | exact q1 | exact q0 | exact q6') (by decide)).mono ?_; rintro e z9 ⟨rfl, q9⟩; have HQ3' := Lib.hid (Q.trans HQ3'.out q9)))
      go_ret
      exact ⟨rfl, HQ3'.out⟩
    · refine wp_alloc_run 37 (.pointer (some ⟨(za).heap.size, 0, none⟩)) rfl (alloc_claim _) ?_
      have hbl := Blk.new (za) 37 (claimA claim0)
      have hqn := q_new (za) (claimA claim0) 37
      have hzs := (hqa).size
      have hql := Q.trans hqa hqn
      refine hK' _ _ hql ?_
      clear hK' K'
      try simp only [Act.put, List.setIfInBounds_toArray, List.set_cons_succ, List.set_cons_zero]
      refine held_one 4 rfl (by kernel_rfl) rfl (fun K' hK' => ?_)
      go_simp
      refine (hW2' k2 (za.alloc (.cells (claimA claim0) 37)) (Q.trans hq5 hql) (hK2.q hqn) hs2 hl2).mono ?_
      rintro e zb ⟨⟨c2, rfl⟩, qb⟩
      have hqb := Q.trans hql qb
      refine hK' _ _ hqb ?_
      clear hK' K'
      try simp only [Act.put, List.setIfInBounds_toArray, List.set_cons_succ, List.set_cons_zero]
      refine held_pure 5 (v := .tuple #[.agg (claimA c2), .bool false]) rfl (by kernel_rfl) (by kernel_rfl) (by kernel_rfl) (by intro c a d v w h; cases d <;> exact h) rfl hqb (fun w => by rfl) ?_
      try simp only [Act.put, List.setIfInBounds_toArray, List.set_cons_succ, List.set_cons_zero]
      refine held_pure 6 (v := .agg (claimA c2)) rfl (by kernel_rfl) (by kernel_rfl) (by kernel_rfl) (by intro c a d v w h; cases d <;> exact h) rfl hqb (fun w => by rfl) ?_
      try simp only [Act.put, List.setIfInBounds_toArray, List.set_cons_succ, List.set_cons_zero]
      refine held_pure 7 (v := .bool false) rfl (by kernel_rfl) (by kernel_rfl) (by kernel_rfl) (by intro c a d v w h; cases d <;> exact h) rfl hqb (fun w => by rfl) ?_
      try simp only [Act.put, List.setIfInBounds_toArray, List.set_cons_succ, List.set_cons_zero]
      refine held_one 9 rfl (by kernel_rfl) rfl (fun K' hK' => ?_)
      refine wp_store_mid 37 (.tmp 7) (.tmp 42) rfl za.heap.size 0 c2.cells.toArray rfl rfl (by simpa using (hbl.q qb).there (Nat.le_refl 9)) (by kernel_rfl) (claim_all _) ?_
      have hqE5 : Q W5 ((zb).setCells za.heap.size 0 c2.cells) := below_setCells (by omega) c2.cells 0 _ _ hqb
      refine hK' _ _ hqE5 ?_
      clear hK' K'
      try simp only [Act.put, List.setIfInBounds_toArray, List.set_cons_succ, List.set_cons_zero]
      refine held_pure 10 (v := .bool false) rfl (by kernel_rfl) (by kernel_rfl) (by kernel_rfl) (by intro c a d v w h; cases d <;> exact h) rfl hqE5 (fun w => by rfl) ?_
      try simp only [Act.put, List.setIfInBounds_toArray, List.set_cons_succ, List.set_cons_zero]
      refine wpAnyH_done (by kernel_rfl) ?_ _
      obtain ⟨W6, hW6⟩ : ∃ W6, W6 = (zb).setCells za.heap.size 0 c2.cells := ⟨_, rfl⟩
      rw [← hW6] at hqE5 ⊢
      have h6 := Q.trans hq5 hqE5
      have hvI6 := hvI.q hqE5
      have hL6 : ∀ z, Q W6 z → (Instr.loadAt 37 (.pointer (some ⟨g5, 0, none⟩))).run Tryz.prog z = .ok (.agg (claimA smC)) z := fun z hz => hL5 z (Q.trans hqE5 hz)
      clear hW6 hqE5 hqb hbl hqn hzs hql qa hqa qb hK2 hz hL5 hvI hM2 hW2' hLp3 hS3
      have f0 := hc03 _ h6
      go_upto_region 9 with (first | (refine wpList_load_run 31 (.tmp 3) (.pointer (some ⟨gk, 0, none⟩)) (.agg (knA k3)) ?_ ?_ ?_ ?_ ?_; rfl; rfl; rfl; exact hLk3 _ (by with_reducible assumption)) | (go_at_call 31; refine (hO3 _ h6).mono ?_; rintro e z7 ⟨rfl, q7⟩; have h7 := Q.trans h6 q7; have f1 := hc03 _ h7; clear hO3) | (go_at_call 31; refine (hO1 _ h7).mono ?_; rintro e z8 ⟨rfl, q8⟩; have h8 := Q.trans h7 q8))
      obtain ⟨b, o, eA, hb, hcv⟩ := (hvI6.q (Q.trans q7 q8)) (by decide)
      subst eA
      have n0 : z8.cell? ⟨b, o, none⟩ = some (.int .i64 0) := hcv 0 (by decide)
      have n1 : z8.cell? ⟨b, o + 1, none⟩ = some (.int .i64 2) := hcv 1 (by decide)
      have n2 : z8.cell? ⟨b, o + 2, none⟩ = some (.int .i64 3) := hcv 2 (by decide)
      have hL8 := hL6 z8 (Q.trans q7 q8)
      have hLc8 := hLc3 z8 h8
      have hD8 := hDg z8 h8
      have heq := eql_smC
      have q4 : quorumK 4 = 3 := by decide
      have q3 : quorumK 3 = 3 := by decide
      have q1 : quorumK 1 = 1 := by decide
      have q0 : quorumK 0 = 1 := by decide
      have q6' : quorumK 6 = 5 := by decide
      have HQ3' := Lib.hid (Q.trans HQ3.out h8)
      clear hcv hvI6 f0 f1 h6 h7 h8 q7 q8 hLc3 hc03 hLk3 hDg hO1 hL6
      go_wp2_with (first | (refine wpList_load_run 37 (.tmp 5) (.pointer (some ⟨g5, 0, none⟩)) (.agg (claimA smC)) ?_ ?_ ?_ ?_ ?_; rfl; rfl; rfl; exact hL8) | (refine wpList_load_run 37 (.tmp 1) (.pointer (some ⟨gc, 0, none⟩)) (.agg (claimA smC)) ?_ ?_ ?_ ?_ ?_; rfl; rfl; rfl; exact hLc8) | (go_at_call 15; refine hD8.mono ?_; rintro e z9 ⟨rfl, q9⟩; have HQ3' := Lib.hid (Q.trans HQ3'.out q9)) | (go_at_call 11; refine (quorum_at _ _ _ (by with_reducible first | exact q4 | exact q3 | exact q1 | exact q0 | exact q6') (by decide)).mono ?_; rintro e z9 ⟨rfl, q9⟩; have HQ3' := Lib.hid (Q.trans HQ3'.out q9)))
      go_ret
      exact ⟨rfl, HQ3'.out⟩
  · refine wp_alloc_run 37 (.pointer (some ⟨(z).heap.size, 0, none⟩)) rfl (alloc_claim _) ?_
    have hbl := Blk.new (z) 37 (claimA claim0)
    have hqn := q_new (z) (claimA claim0) 37
    have hzs := (hz).size
    have hql := Q.trans hz hqn
    refine hK' _ _ hql ?_
    clear hK' K'
    try simp only [Act.put, List.setIfInBounds_toArray, List.set_cons_succ, List.set_cons_zero]
    refine held_one 1 rfl (by kernel_rfl) rfl (fun K' hK' => ?_)
    go_simp
    refine (hM2 (z.alloc (.cells (claimA claim0) 37)) (Q.trans hq5 hql)).mono ?_
    rintro e za ⟨k2, rfl, hs2, hl2, hK2, qa⟩
    have hqa := Q.trans hql qa
    refine hK' _ _ hqa ?_
    clear hK' K'
    try simp only [Act.put, List.setIfInBounds_toArray, List.set_cons_succ, List.set_cons_zero]
    refine held_one 4 rfl (by kernel_rfl) rfl (fun K' hK' => ?_)
    go_simp
    refine (hW2' k2 za (Q.trans hq5 hqa) hK2 hs2 hl2).mono ?_
    rintro e zb ⟨⟨c2, rfl⟩, qb⟩
    have hqb := Q.trans hqa qb
    refine hK' _ _ hqb ?_
    clear hK' K'
    try simp only [Act.put, List.setIfInBounds_toArray, List.set_cons_succ, List.set_cons_zero]
    refine held_pure 5 (v := .tuple #[.agg (claimA c2), .bool false]) rfl (by kernel_rfl) (by kernel_rfl) (by kernel_rfl) (by intro c a d v w h; cases d <;> exact h) rfl hqb (fun w => by rfl) ?_
    try simp only [Act.put, List.setIfInBounds_toArray, List.set_cons_succ, List.set_cons_zero]
    refine held_pure 6 (v := .agg (claimA c2)) rfl (by kernel_rfl) (by kernel_rfl) (by kernel_rfl) (by intro c a d v w h; cases d <;> exact h) rfl hqb (fun w => by rfl) ?_
    try simp only [Act.put, List.setIfInBounds_toArray, List.set_cons_succ, List.set_cons_zero]
    refine held_pure 7 (v := .bool false) rfl (by kernel_rfl) (by kernel_rfl) (by kernel_rfl) (by intro c a d v w h; cases d <;> exact h) rfl hqb (fun w => by rfl) ?_
    try simp only [Act.put, List.setIfInBounds_toArray, List.set_cons_succ, List.set_cons_zero]
    refine held_one 9 rfl (by kernel_rfl) rfl (fun K' hK' => ?_)
    refine wp_store_mid 37 (.tmp 7) (.tmp 42) rfl z.heap.size 0 c2.cells.toArray rfl rfl (by simpa using ((hbl.q qa).q qb).there (Nat.le_refl 9)) (by kernel_rfl) (claim_all _) ?_
    have hqE5 : Q W5 ((zb).setCells z.heap.size 0 c2.cells) := below_setCells (by omega) c2.cells 0 _ _ hqb
    refine hK' _ _ hqE5 ?_
    clear hK' K'
    try simp only [Act.put, List.setIfInBounds_toArray, List.set_cons_succ, List.set_cons_zero]
    refine held_pure 10 (v := .bool false) rfl (by kernel_rfl) (by kernel_rfl) (by kernel_rfl) (by intro c a d v w h; cases d <;> exact h) rfl hqE5 (fun w => by rfl) ?_
    try simp only [Act.put, List.setIfInBounds_toArray, List.set_cons_succ, List.set_cons_zero]
    refine wpAnyH_done (by kernel_rfl) ?_ _
    obtain ⟨W6, hW6⟩ : ∃ W6, W6 = (zb).setCells z.heap.size 0 c2.cells := ⟨_, rfl⟩
    rw [← hW6] at hqE5 ⊢
    have h6 := Q.trans hq5 hqE5
    have hvI6 := hvI.q hqE5
    have hL6 : ∀ z, Q W6 z → (Instr.loadAt 37 (.pointer (some ⟨g5, 0, none⟩))).run Tryz.prog z = .ok (.agg (claimA smC)) z := fun z hz => hL5 z (Q.trans hqE5 hz)
    clear hW6 hqE5 hqb hbl hqn hzs hql qa hqa qb hK2 hz hL5 hvI hM2 hW2' hLp3 hS3
    have f0 := hc03 _ h6
    go_upto_region 9 with (first | (refine wpList_load_run 31 (.tmp 3) (.pointer (some ⟨gk, 0, none⟩)) (.agg (knA k3)) ?_ ?_ ?_ ?_ ?_; rfl; rfl; rfl; exact hLk3 _ (by with_reducible assumption)) | (go_at_call 31; refine (hO3 _ h6).mono ?_; rintro e z7 ⟨rfl, q7⟩; have h7 := Q.trans h6 q7; have f1 := hc03 _ h7; clear hO3) | (go_at_call 31; refine (hO1 _ h7).mono ?_; rintro e z8 ⟨rfl, q8⟩; have h8 := Q.trans h7 q8))
    obtain ⟨b, o, eA, hb, hcv⟩ := (hvI6.q (Q.trans q7 q8)) (by decide)
    subst eA
    have n0 : z8.cell? ⟨b, o, none⟩ = some (.int .i64 0) := hcv 0 (by decide)
    have n1 : z8.cell? ⟨b, o + 1, none⟩ = some (.int .i64 2) := hcv 1 (by decide)
    have n2 : z8.cell? ⟨b, o + 2, none⟩ = some (.int .i64 3) := hcv 2 (by decide)
    have hL8 := hL6 z8 (Q.trans q7 q8)
    have hLc8 := hLc3 z8 h8
    have hD8 := hDg z8 h8
    have heq := eql_smC
    have q4 : quorumK 4 = 3 := by decide
    have q3 : quorumK 3 = 3 := by decide
    have q1 : quorumK 1 = 1 := by decide
    have q0 : quorumK 0 = 1 := by decide
    have q6' : quorumK 6 = 5 := by decide
    have HQ3' := Lib.hid (Q.trans HQ3.out h8)
    clear hcv hvI6 f0 f1 h6 h7 h8 q7 q8 hLc3 hc03 hLk3 hDg hO1 hL6
    go_wp2_with (first | (refine wpList_load_run 37 (.tmp 5) (.pointer (some ⟨g5, 0, none⟩)) (.agg (claimA smC)) ?_ ?_ ?_ ?_ ?_; rfl; rfl; rfl; exact hL8) | (refine wpList_load_run 37 (.tmp 1) (.pointer (some ⟨gc, 0, none⟩)) (.agg (claimA smC)) ?_ ?_ ?_ ?_ ?_; rfl; rfl; rfl; exact hLc8) | (go_at_call 15; refine hD8.mono ?_; rintro e z9 ⟨rfl, q9⟩; have HQ3' := Lib.hid (Q.trans HQ3'.out q9)) | (go_at_call 11; refine (quorum_at _ _ _ (by with_reducible first | exact q4 | exact q3 | exact q1 | exact q0 | exact q6') (by decide)).mono ?_; rintro e z9 ⟨rfl, q9⟩; have HQ3' := Lib.hid (Q.trans HQ3'.out q9)))
    go_ret
    exact ⟨rfl, HQ3'.out⟩
end Go.Proofs.YtflgkplneekpfaaGreatDoor.Vot

namespace Go.Proofs.YtflgkplneekpfaaGreatDoor.Mem
open Go.RowKit Grp
section
variable {P : Program} {md : Region.Mode} {S : World → Prop}
/-- The rest of a region, if it is reads alone: one quiet walk. -/
theorem held_rest {K : Exit → Act → World → Prop} {l : List Oper} (n : Nat) {g : Nat} {s : Array Bool} {a : Act} {w : World} (hg : g = (l.drop n).length) (hn : n ≤ l.length) (hsel : Region.noSelect l.toArray = true) (hQ : ∀ c (a : Act) d v w, K (.panic c) (a.put d v) w → K (.panic c) a w)
    (hB : readsB md l.toArray (l.drop n).length n s = true) (hro : ((l.drop n).all fun o => isRead o.op) = true) (hd : Region.ready md l.toArray (endS (l.drop n).length n s) = []) (hS : S w)
    (h : wpQuiet P l.toArray S (fun a' => ∀ w', S w' → K .normal a' w') (l.drop n) a) : wpAnyH P md l.toArray K S g s a w := by
  subst hg
  have H := held_lex (md := md) (f := 0) hsel hQ (l.drop n) n s a w (fun j hj => by rw [List.getElem?_drop]) hB (fun o ho => List.all_eq_true.1 hro o ho) rfl h (fun a' w' hL hS' => ⟨hd, hL w' hS'⟩) hS
  simpa using H
theorem exec_len_slice {o : Oper} {a : Act} {w : World} (x : Operand) (t e : TypeId) (A : Option Addr) (n c : Nat) (ho : o.op = .call { callee := .builtin .len, args := #[x], argTypes := #[t] }) (hx : a.eval x = .slice A n c) (ht : P.underlying t = some (.slice e)) : (execOp a.eval o).run P w = .ok (.value (.int .i64 n)) w := by
  have hr : (Builtin.len_ #[t] o.type #[.slice A n c]).run P w = .ok (.int .i64 n) w := by simp [Builtin.len_, run_underlying ht, goInt]
  unfold execOp
  simp only [ho, resolve, invoke, builtin, Sem.run_bind, Sem.run_pure, Result.andThen_ok, List.map_toArray, List.map_cons, List.map_nil, hx, hr]
end
end Go.Proofs.YtflgkplneekpfaaGreatDoor.Mem

namespace Go.Proofs.YtflgkplneekpfaaGreatDoor.Vot
open Go.RowKit Grp Mem _root_.Go.Proofs.YtflgkplneekpfaaGreatDoor.Code Sha Sign _root_.Go.Proofs.YtflgkplneekpfaaGreatDoor.Item _root_.Go.Proofs.YtflgkplneekpfaaGreatDoor.Known Rng

theorem rskip {P : Program} {C : World → Prop} {ops : Array Oper} {rest : List Oper} {o : Oper} {a : Act} {K : Act → Prop} (hw : Region.wanted o (yielded ops a.tmps) = false) (h : wpQuiet P ops C K rest (a.put o.dst undef)) : wpQuiet P ops C K (o :: rest) a := by
  unfold wpQuiet
  rw [if_neg (by rw [hw]; exact Bool.false_ne_true)]
  exact h
theorem rmove {P : Program} {C : World → Prop} {ops : Array Oper} {rest : List Oper} {o : Oper} {a : Act} {K : Act → Prop} (x : Operand) (v : Value) (ho : o.op = .move x) (hw : Region.wanted o (yielded ops a.tmps) = true) (hx : a.eval x = v) (h : wpQuiet P ops C K rest (a.put o.dst v)) : wpQuiet P ops C K (o :: rest) a := by
  unfold wpQuiet
  rw [if_pos hw]
  refine ⟨v, ?_, h⟩
  intro w _
  unfold Oper.quietAt execOp
  simp only [ho, hx, Sem.run_bind, Result.andThen_ok, Sem.run_pure, Oper.quietUpon]
  exact ⟨trivial, trivial⟩
/-! ### Own -/
def wantO (s : Int) (actor : ByteArray) (gen : Int) (x : ItemR) : Bool := decide (x.kind = 2) && (decide (x.ballot.server = s) && (decide (x.ballot.actor = actor) && decide (x.ballot.gen = gen)))
def rownStep (s : Int) (actor : ByteArray) (gen : Int) (acc : ByteArray × Bool) (x : ItemR) : ByteArray × Bool := if wantO s actor gen x && (!acc.2 || lessB x.ballot.claim acc.1) then (x.ballot.claim, true) else acc
def rownK (s : Int) (actor : ByteArray) (gen : Int) (l : List ItemR) : ByteArray × Bool := l.foldl (rownStep s actor gen) (emptyT, false)
theorem rown_step (s : Int) (actor : ByteArray) (gen : Int) (l : List ItemR) (j : Nat) (h : j < l.length) : rownK s actor gen (l.take (j + 1)) = rownStep s actor gen (rownK s actor gen (l.take j)) l[j] := by
  unfold rownK
  rw [List.take_succ_eq_append_getElem h, List.foldl_append]
  rfl
theorem own_ways (s : Int) (actor : ByteArray) (gen : Int) (x : ItemR) (d : ByteArray) (o : Bool) :
    (rownStep s actor gen (d, o) x = (d, o) ∧ ¬ x.kind = 2) ∨ (rownStep s actor gen (d, o) x = (d, o) ∧ x.kind = 2 ∧ ¬ x.ballot.server = s) ∨
      (rownStep s actor gen (d, o) x = (d, o) ∧ x.kind = 2 ∧ x.ballot.server = s ∧ x.ballot.actor ≠ actor) ∨ (rownStep s actor gen (d, o) x = (d, o) ∧ x.kind = 2 ∧ x.ballot.server = s ∧ x.ballot.actor = actor ∧ ¬ x.ballot.gen = gen) ∨
      (rownStep s actor gen (d, o) x = (x.ballot.claim, true) ∧ x.kind = 2 ∧ x.ballot.server = s ∧ x.ballot.actor = actor ∧ x.ballot.gen = gen ∧ o = false) ∨
      (rownStep s actor gen (d, o) x = (x.ballot.claim, true) ∧ x.kind = 2 ∧ x.ballot.server = s ∧ x.ballot.actor = actor ∧ x.ballot.gen = gen ∧ o = true ∧ Op.bytesLess x.ballot.claim.toList d.toList = true) ∨
      (rownStep s actor gen (d, o) x = (d, o) ∧ x.kind = 2 ∧ x.ballot.server = s ∧ x.ballot.actor = actor ∧ x.ballot.gen = gen ∧ o = true ∧ Op.bytesLess x.ballot.claim.toList d.toList = false) := by
  unfold rownStep wantO
  by_cases h1 : x.kind = 2 <;> by_cases h2 : x.ballot.server = s <;> by_cases h4 : x.ballot.actor = actor <;> by_cases h5 : x.ballot.gen = gen <;> simp [h1, h2, h4, h5]
  cases o
  · simp
  · have hd : Op.bytesLess x.ballot.claim.toList d.toList = lessB x.ballot.claim d := rfl
    rw [hd]
    cases lessB x.ballot.claim d <;> simp
set_option maxRecDepth 100000 in
set_option maxHeartbeats 4000000 in
theorem rown_any (k : KR) (s : Int) (actor : ByteArray) (gen : Int) (w : World) (hK : KIn w k) (hn : k.l.length ≤ 100000) :
    Calls Tryz.prog 32 #[.agg (knA k), .int .i64 s, .string actor, .int .i64 gen] w fun e w' => e = .returned (.tuple #[.string (rownK s actor gen k.l).1, .bool (rownK s actor gen k.l).2]) ∧ Q w w' := by
  obtain ⟨w1, x, hx, hq1, hbk⟩ := boxedB w 31 k.cells
  have hx : w.alloc (.cells (knA k) 31) = x.w := hx
  obtain ⟨n0, hn0⟩ : ∃ n0, k.l.length = n0 := ⟨_, rfl⟩
  have cI : ∀ y : Wd w1, y.w.cell? ⟨w.heap.size, 1, none⟩ = some (.slice k.iA n0 k.iC) := fun y => by rw [← hn0]; exact (y.blk hbk).cell 1
  have hIt : ∀ y : Wd w1, RowsAt y.w k.iA 49 ItemR.cells k.l := fun y => (hK.q (Q.trans hq1 y.q)).items.rows
  have HQ := Lib.hid hq1
  have hlt1 := hbk.lt
  have HS := Lib.hid (rown_step s actor gen k.l)
  have h00 : rownK s actor gen (k.l.take 0) = (emptyT, false) := rfl
  have HA := Lib.hid (show rownK s actor gen (k.l.take n0) = rownK s actor gen k.l by rw [← hn0, List.take_length])
  clear hbk hq1 hK
  rw [hn0] at hn
  generalize rownK s actor gen k.l = R at *
  generalize hF : (fun j => rownK s actor gen (k.l.take j)) = F at *
  have hF' : ∀ j, rownK s actor gen (k.l.take j) = F j := fun j => congrFun hF j
  simp only [hF'] at h00 HA HS
  clear hF hF'
  go_enter Tryz.func32, Tryz.ntmps32
  go_wp2_with fail
  go_loopw [10, 11, 12] (fun a c i wr => ∃ (j : Nat) (z : Wd w1), a = .string (F j).1 ∧ c = .bool (F j).2 ∧ i = .int .i64 j ∧ wr = z.w ∧ j ≤ n0) (fun _ _ i _ => n0 - (intOf i).toNat)
  case atStart => exact ⟨0, x, by rw [h00]; rfl, by rw [h00], rfl, rfl, Nat.zero_le _⟩
  case round =>
    obtain ⟨j, z, rfl, rfl, rfl, rfl, hj⟩ := hrel
    by_cases hlt : j < n0
    · have hltI : (j : Int) < (n0 : Int) := by omega
      have hltL : j < k.l.length := by omega
      obtain ⟨b, o, eA, hb, hcell⟩ := hIt z (by omega)
      have cIz : ∀ y : Wd z.w, y.w.cell? ⟨w.heap.size, 1, none⟩ = some (.slice (some ⟨b, o, none⟩) n0 k.iC) := fun y => eA ▸ cI ⟨y.w, Q.trans z.q y.q⟩
      have hcj := hcell j hltL
      have hrv : z.w.rangeAt b (o + j * 49 + 30) k.l[j].ballot.cells := range_sub hcj 30 7
      have hLv : ∀ y : Wd z.w, (Instr.loadAt 46 (.pointer (some ⟨b, o + j * 49 + 30, none⟩))).run Tryz.prog y.w = .ok (.agg (ballotA k.l[j].ballot)) y.w := Wd.load hb hrv Tryz.underlying46 rfl (by kernel_rfl)
      have hcK : ∀ y : Wd z.w, y.w.cell? ⟨b, o + j * 49, none⟩ = some (.int .i64 k.l[j].kind) := fun y => at0 (Wd.get hb hcj 0 rfl y)
      have hst := HS.out j hltL
      have hways := own_ways s actor gen k.l[j] (F j).1 (F j).2
      have hzs := z.q.size
      have d0 := cIz ⟨z.w, Q.refl _⟩
      dsimp only at d0
      have hst : F (j + 1) = rownStep s actor gen ((F j).1, (F j).2) k.l[j] := hst
      rw [← hst] at hways
      clear hcell hcj hrv cI hIt eA hst HS HA h00
      generalize k.l[j] = it at *
      generalize hd : (F j).1 = d at *
      generalize hk2 : (F j).2 = ok at *
      clear hd hk2
      generalize hFn : F (j + 1) = Fn at *
      go_wp2_with (first | (refine wpList_index_rows 29 50 (.tmp 22) (.tmp 23) b o n0 k.iC j 49 rfl rfl rfl rfl Tryz.underlying29 (by kernel_rfl) Tryz.sizeOf50 hlt ?_) | (refine wpList_load_run 46 (.tmp 25) (.pointer (some ⟨b, o + j * 49 + 30, none⟩)) (.agg (ballotA it.ballot)) ?_ ?_ ?_ ?_ ?_; rfl; rfl; rfl; exact hLv ⟨_, Q.refl _⟩) | (refine wpList_store_blk (Blk.new z.w 46 ballot0.cells.toArray) rfl 46 (.tmp 13) (.tmp 26) it.ballot.cells rfl rfl rfl (by kernel_rfl) (ballot_all _) (Nat.le_refl 7) ?_))
      intro W hW hbel
      rw [splice_all _ _ (by rfl)] at hW
      have hqW : Q z.w W := hbel _ _ (Nat.le_refl _) (q_new _ _ _)
      have e0 : W.cell? ⟨z.w.heap.size, 0, none⟩ = some (.int .i64 it.ballot.server) := hW.cell 0
      have e1 : W.cell? ⟨z.w.heap.size, 1, none⟩ = some (.string it.ballot.actor) := hW.cell 1
      have e2 : W.cell? ⟨z.w.heap.size, 2, none⟩ = some (.int .i64 it.ballot.gen) := hW.cell 2
      have e3 : W.cell? ⟨z.w.heap.size, 3, none⟩ = some (.string it.ballot.claim) := hW.cell 3
      have dW := cIz ⟨W, hqW⟩
      have kW := hcK ⟨W, hqW⟩
      dsimp only at dW kW
      have HQW := Lib.hid (Q.trans z.q hqW)
      clear hW hbel hqW cIz hcK hLv d0
      rcases hways with ⟨HB, h1⟩ | ⟨HB, h1, h2⟩ | ⟨HB, h1, h2, h4⟩ | ⟨HB, h1, h2, h4, h5⟩ | ⟨HB, h1, h2, h4, h5, h6⟩ | ⟨HB, h1, h2, h4, h5, h6, h7⟩ | ⟨HB, h1, h2, h4, h5, h6, h7⟩
      · have HE := Lib.hid HB
        have n0 : (it.kind == 2) = false := by simpa using h1
        clear HB
        go_wp2_with (refine wpList_index_rows 29 50 (.tmp 28) (.tmp 29) b o n0 k.iC j 49 rfl rfl rfl rfl Tryz.underlying29 (by kernel_rfl) Tryz.sizeOf50 hlt ?_)
        exact ⟨⟨j + 1, ⟨W, HQW.out⟩, by rw [hFn, HE.out], by rw [hFn, HE.out], by go_num, rfl, by omega⟩, by simp only [intOf]; omega⟩
      · have HE := Lib.hid HB
        have n0 : (it.kind == 2) = true := by simpa using h1
        have n1 : (it.ballot.server == s) = false := by simpa using h2
        clear HB
        go_wp2_with (refine wpList_index_rows 29 50 (.tmp 28) (.tmp 29) b o n0 k.iC j 49 rfl rfl rfl rfl Tryz.underlying29 (by kernel_rfl) Tryz.sizeOf50 hlt ?_)
        exact ⟨⟨j + 1, ⟨W, HQW.out⟩, by rw [hFn, HE.out], by rw [hFn, HE.out], by go_num, rfl, by omega⟩, by simp only [intOf]; omega⟩
      · have HE := Lib.hid HB
        have n0 : (it.kind == 2) = true := by simpa using h1
        have n1 : (it.ballot.server == s) = true := by simpa using h2
        have n2 : (it.ballot.actor.toList == actor.toList) = false := beq_eq_false_iff_ne.2 (str_ne h4)
        clear HB
        go_wp2_with (refine wpList_index_rows 29 50 (.tmp 28) (.tmp 29) b o n0 k.iC j 49 rfl rfl rfl rfl Tryz.underlying29 (by kernel_rfl) Tryz.sizeOf50 hlt ?_)
        exact ⟨⟨j + 1, ⟨W, HQW.out⟩, by rw [hFn, HE.out], by rw [hFn, HE.out], by go_num, rfl, by omega⟩, by simp only [intOf]; omega⟩
      · have HE := Lib.hid HB
        have n0 : (it.kind == 2) = true := by simpa using h1
        have n1 : (it.ballot.server == s) = true := by simpa using h2
        have n2 : (it.ballot.actor.toList == actor.toList) = true := by rw [h4]; simp
        have n3 : (it.ballot.gen == gen) = false := by simpa using h5
        clear HB
        go_wp2_with (refine wpList_index_rows 29 50 (.tmp 28) (.tmp 29) b o n0 k.iC j 49 rfl rfl rfl rfl Tryz.underlying29 (by kernel_rfl) Tryz.sizeOf50 hlt ?_)
        exact ⟨⟨j + 1, ⟨W, HQW.out⟩, by rw [hFn, HE.out], by rw [hFn, HE.out], by go_num, rfl, by omega⟩, by simp only [intOf]; omega⟩
      · have HE := Lib.hid HB
        have n0 : (it.kind == 2) = true := by simpa using h1
        have n1 : (it.ballot.server == s) = true := by simpa using h2
        have n2 : (it.ballot.actor.toList == actor.toList) = true := by rw [h4]; simp
        have n3 : (it.ballot.gen == gen) = true := by simpa using h5
        subst h6
        clear HB
        go_wp2_with (refine wpList_index_rows 29 50 (.tmp 28) (.tmp 29) b o n0 k.iC j 49 rfl rfl rfl rfl Tryz.underlying29 (by kernel_rfl) Tryz.sizeOf50 hlt ?_)
        exact ⟨⟨j + 1, ⟨W, HQW.out⟩, by rw [hFn, HE.out], by rw [hFn, HE.out], by go_num, rfl, by omega⟩, by simp only [intOf]; omega⟩
      · have HE := Lib.hid HB
        have n0 : (it.kind == 2) = true := by simpa using h1
        have n1 : (it.ballot.server == s) = true := by simpa using h2
        have n2 : (it.ballot.actor.toList == actor.toList) = true := by rw [h4]; simp
        have n3 : (it.ballot.gen == gen) = true := by simpa using h5
        subst h6
        clear HB
        go_wp2_with (refine wpList_index_rows 29 50 (.tmp 28) (.tmp 29) b o n0 k.iC j 49 rfl rfl rfl rfl Tryz.underlying29 (by kernel_rfl) Tryz.sizeOf50 hlt ?_)
        exact ⟨⟨j + 1, ⟨W, HQW.out⟩, by rw [hFn, HE.out], by rw [hFn, HE.out], by go_num, rfl, by omega⟩, by simp only [intOf]; omega⟩
      · have HE := Lib.hid HB
        have n0 : (it.kind == 2) = true := by simpa using h1
        have n1 : (it.ballot.server == s) = true := by simpa using h2
        have n2 : (it.ballot.actor.toList == actor.toList) = true := by rw [h4]; simp
        have n3 : (it.ballot.gen == gen) = true := by simpa using h5
        subst h6
        clear HB
        go_wp2_with (refine wpList_index_rows 29 50 (.tmp 28) (.tmp 29) b o n0 k.iC j 49 rfl rfl rfl rfl Tryz.underlying29 (by kernel_rfl) Tryz.sizeOf50 hlt ?_)
        exact ⟨⟨j + 1, ⟨W, HQW.out⟩, by rw [hFn, HE.out], by rw [hFn, HE.out], by go_num, rfl, by omega⟩, by simp only [intOf]; omega⟩
    · obtain rfl : j = n0 := by omega
      have hnl : ¬ ((j : Int) < (j : Int)) := by omega
      have d0 := cI z
      clear HS h00
      go_wp2_with fail
      exact bodyPost_ret (results_tmp2 rfl _ _ _) rfl ⟨by rw [HA.out]; rfl, Q.trans HQ.out z.q⟩

/-! ### Won -/
def rwonStep (q : Int) (V : ByteArray → Nat) (actor : ByteArray) (gen : Int) (acc : ClaimV × ByteArray) (x : ItemR) : ClaimV × ByteArray :=
  if (decide (x.kind = 1) && (decide (x.claim.actor = actor) && decide (x.claim.gen = gen))) && (decide (q ≤ (V (digOf x) : Int)) && (noneB acc.2 || lessB (digOf x) acc.2)) then (x.claim, digOf x) else acc
def rwonK (q : Int) (V : ByteArray → Nat) (actor : ByteArray) (gen : Int) (l : List ItemR) : ClaimV × ByteArray := l.foldl (rwonStep q V actor gen) (claim0, emptyT)
theorem rwon_step (q : Int) (V : ByteArray → Nat) (actor : ByteArray) (gen : Int) (l : List ItemR) (j : Nat) (h : j < l.length) : rwonK q V actor gen (l.take (j + 1)) = rwonStep q V actor gen (rwonK q V actor gen (l.take j)) l[j] := by
  unfold rwonK
  rw [List.take_succ_eq_append_getElem h, List.foldl_append]
  rfl
theorem none_list (d : ByteArray) : d.toList.isEmpty = noneB d := empty_none d
theorem nil_beq (l : List UInt8) : (l == []) = l.isEmpty := by cases l <;> rfl
theorem won_ways (q : Int) (V : ByteArray → Nat) (actor : ByteArray) (gen : Int) (x : ItemR) (c : ClaimV) (d : ByteArray) :
    (rwonStep q V actor gen (c, d) x = (c, d) ∧ ¬ x.kind = 1) ∨ (rwonStep q V actor gen (c, d) x = (c, d) ∧ x.kind = 1 ∧ x.claim.actor ≠ actor) ∨ (rwonStep q V actor gen (c, d) x = (c, d) ∧ x.kind = 1 ∧ x.claim.actor = actor ∧ ¬ x.claim.gen = gen) ∨
      (x.kind = 1 ∧ x.claim.actor = actor ∧ x.claim.gen = gen ∧ ((rwonStep q V actor gen (c, d) x = (c, d) ∧ ¬ (V (digOf x) : Int) ≥ q) ∨ (rwonStep q V actor gen (c, d) x = (x.claim, digOf x) ∧ (V (digOf x) : Int) ≥ q ∧ d.toList.isEmpty = true) ∨
        (rwonStep q V actor gen (c, d) x = (x.claim, digOf x) ∧ (V (digOf x) : Int) ≥ q ∧ d.toList.isEmpty = false ∧ Op.bytesLess (digOf x).toList d.toList = true) ∨ (rwonStep q V actor gen (c, d) x = (c, d) ∧ (V (digOf x) : Int) ≥ q ∧ d.toList.isEmpty = false ∧ Op.bytesLess (digOf x).toList d.toList = false))) := by
  unfold rwonStep
  rw [none_list]
  have hd : Op.bytesLess (digOf x).toList d.toList = lessB (digOf x) d := rfl
  rw [hd]
  by_cases h1 : x.kind = 1 <;> by_cases h2 : x.claim.actor = actor <;> by_cases h3 : x.claim.gen = gen <;> by_cases h4 : q ≤ (V (digOf x) : Int) <;> cases noneB d <;> cases lessB (digOf x) d <;> simp [h1, h2, h3, h4, Int.not_le, Int.not_lt] <;> omega
theorem load_ints {w : World} {g o : Nat} {A : Option Addr} {n c : Nat} (h : w.cell? ⟨g, o, none⟩ = some (.slice A n c)) : (Instr.loadAt 28 (.pointer (some ⟨g, o, none⟩))).run Tryz.prog w = .ok (.slice A n c) w := by
  have h1 := Tryz.underlying28
  have h2 := Tryz.isAgg28
  unfold Instr.loadAt
  go_simp
set_option maxRecDepth 100000 in
set_option maxHeartbeats 8000000 in
theorem rwon_any (k : KR) (actor : ByteArray) (gen : Int) (w : World) (hK : KIn w k) (hO : ∀ x ∈ k.l, ItemOk x) (hlen : k.l.length ≤ 1000) (hsv : k.sv.length ≤ 1000000) :
    Calls Tryz.prog 30 #[.agg (knA k), .string actor, .int .i64 gen] w fun e w' => e = .returned (.tuple #[.agg (claimA (rwonK (quorumK k.sv.length) (fun d => (rvotersN k.l d actor gen 20).length) actor gen k.l).1), .bool (!noneB (rwonK (quorumK k.sv.length) (fun d => (rvotersN k.l d actor gen 20).length) actor gen k.l).2)]) ∧ Q w w' := by
  have h1 := Blk.new w 31 (knA k)
  have q1 := q_new w (knA k) 31
  have h2 := Blk.new' (g := w.heap.size + 1) (w.alloc (.cells (knA k) 31)) 37 (claimA claim0) (by simp)
  have q2 := q_new (w.alloc (.cells (knA k) 31)) (claimA claim0) 37
  obtain ⟨w3, hw3⟩ : ∃ w3, w3 = ((w.alloc (.cells (knA k) 31)).alloc (.cells (claimA claim0) 37)) := ⟨_, rfl⟩
  have h1 := h1.q q2
  have hq := Q.trans q1 q2
  rw [← hw3] at h1 h2 hq
  have cS : ∀ y : Wd w3, y.w.cell? ⟨w.heap.size, 0, none⟩ = some (.slice k.sA k.sv.length k.sC) := fun y => (y.blk h1).cell 0
  obtain ⟨n0, hn0⟩ : ∃ n0, k.l.length = n0 := ⟨_, rfl⟩
  have cI : ∀ y : Wd w3, y.w.cell? ⟨w.heap.size, 1, none⟩ = some (.slice k.iA n0 k.iC) := fun y => by rw [← hn0]; exact (y.blk h1).cell 1
  have hBr : ∀ y : Wd w3, Blk y.w (w.heap.size + 1) 37 claim0.cells.toArray := fun y => y.blk h2
  have hLk : ∀ y : Wd w3, (Instr.loadAt 31 (.pointer (some ⟨w.heap.size, 0, none⟩))).run Tryz.prog y.w = .ok (.agg (knA k)) y.w := Wd.load h1.lt (Blk.range h1) Tryz.underlying31 rfl (by kernel_rfl)
  have hII : ∀ y : Wd w3, ItemsIn y.w k.iA k.l := fun y => (hK.q (Q.trans hq y.q)).items
  have hRV0 : ∀ (d : ByteArray) (y : Wd w3), Calls Tryz.prog 34 #[.agg (knA k), .string d, .string actor, .int .i64 gen] y.w (VotersAre (rvotersN k.l d actor gen 20) y.w) := fun d y => rvoters_any k d actor gen y.w (hK.q (Q.trans hq y.q)) (by omega)
  have hQu0 : ∀ y : Wd w3, Calls Tryz.prog 35 #[.int .i64 (k.sv.length : Int)] y.w fun e w' => e = .returned (.int .i64 (quorumK k.sv.length)) ∧ Q y.w w' := fun y => rquorum_any _ y.w (by omega) (by omega)
  have HQ := Lib.hid hq
  obtain ⟨u, hu⟩ : ∃ u : Wd w3, u.w = w3 := ⟨⟨w3, Q.refl _⟩, rfl⟩
  have HX := Lib.hid (hu.trans hw3)
  have hg3 := h2.lt
  have hle20 : ∀ d, (rvotersN k.l d actor gen 20).length ≤ 20 := fun d => rvoters_le k.l d actor gen 20
  have HV : ∀ d (y : Wd w3), Calls Tryz.prog 34 #[.agg (knA k), .string d, .string actor, .int .i64 gen] y.w fun e w' => ∃ A c, e = .returned (.slice A (rvotersN k.l d actor gen 20).length c) ∧ True ∧ True ∧ True ∧ Q y.w w' := fun d y => (hRV0 d y).mono fun e w' ⟨A, c, h1, _, _, _, h2⟩ => ⟨A, c, h1, trivial, trivial, trivial, h2⟩
  obtain ⟨VV, hVV⟩ : ∃ VV : ByteArray → Nat, VV = fun d => (rvotersN k.l d actor gen 20).length := ⟨_, rfl⟩
  have hVd : ∀ d, (rvotersN k.l d actor gen 20).length = VV d := fun d => by rw [hVV]
  rw [← hVV]
  simp only [hVd] at HV hle20
  have HS := Lib.hid (rwon_step (quorumK k.sv.length) VV actor gen k.l)
  have h00 : rwonK (quorumK k.sv.length) VV actor gen (k.l.take 0) = (claim0, emptyT) := rfl
  have HA := Lib.hid (show rwonK (quorumK k.sv.length) VV actor gen (k.l.take n0) = rwonK (quorumK k.sv.length) VV actor gen k.l by rw [← hn0, List.take_length])
  have hslb : k.sv.length ≤ 9223372036854775807 := by omega
  generalize quorumK k.sv.length = QU at *
  rw [hn0] at hlen
  generalize rwonK QU VV actor gen k.l = R at *
  generalize hF : (fun j => rwonK QU VV actor gen (k.l.take j)) = F at *
  have hF' : ∀ j, rwonK QU VV actor gen (k.l.take j) = F j := fun j => congrFun hF j
  simp only [hF'] at h00 HA HS
  clear hF hF' hu hw3 h1 h2 q1 q2 hq hRV0 hVV hVd
  go_enter Tryz.func30, Tryz.ntmps30
  go_upto_region 1 with (fail)
  refine (show Code.wp _ _ _ _ u.w → Code.wp _ _ _ _ _ from fun h => by rw [HX.out] at h; exact h) ?_
  have hu3 := u.q.size
  have HB0 := Lib.hid (Blk.new u.w 37 (claimA claim0))
  have HQ0 : Hid (Q w3 (u.w.alloc (.cells (claimA claim0) 37))) := Lib.hid (Q.trans u.q (q_new _ _ _))
  generalize hg8 : u.w.heap.size = g8 at *
  go_wp2_with fail
  go_loopw [9, 10] (fun a i wr => ∃ (j : Nat), i = .int .i64 j ∧ a = .string (F j).2 ∧ j ≤ n0 ∧ Hid (Q w3 wr ∧ Blk wr g8 37 (F j).1.cells.toArray)) (fun _ i _ => n0 - (intOf i).toNat)
  case atStart => exact ⟨0, rfl, by rw [h00]; rfl, Nat.zero_le _, Lib.hid ⟨HQ0.out, by rw [h00]; exact HB0.out⟩⟩
  case round =>
    obtain ⟨j, rfl, rfl, hj, hh⟩ := hrel
    obtain ⟨hqr, hblk⟩ := hh.out
    obtain ⟨zr, hzr⟩ : ∃ zr : Wd w3, zr.w = wr := ⟨⟨wr, hqr⟩, rfl⟩
    have d0 : wr.cell? ⟨w.heap.size, 1, none⟩ = some (.slice k.iA n0 k.iC) := by rw [← hzr]; exact cI zr
    by_cases hlt : j < n0
    · have hltI : (j : Int) < (n0 : Int) := by omega
      have hltL : j < k.l.length := by omega
      have hrows := (hII zr).rows
      rw [hzr] at hrows
      obtain ⟨b, o, eA, hb, hcell⟩ := hrows (by omega)
      have cIz : ∀ y : Wd wr, y.w.cell? ⟨w.heap.size, 1, none⟩ = some (.slice (some ⟨b, o, none⟩) n0 k.iC) := fun y => eA ▸ cI ⟨y.w, Q.trans hqr y.q⟩
      have hcj := hcell j hltL
      have hrv : wr.rangeAt b (o + j * 49 + 21) k.l[j].claim.cells := range_sub hcj 21 9
      have hLv : ∀ y : Wd wr, (Instr.loadAt 37 (.pointer (some ⟨b, o + j * 49 + 21, none⟩))).run Tryz.prog y.w = .ok (.agg (claimA k.l[j].claim)) y.w := Wd.load hb hrv Tryz.underlying37 rfl (by kernel_rfl)
      have hLi : ∀ y : Wd wr, (Instr.loadAt 50 (.pointer (some ⟨b, o + j * 49, none⟩))).run Tryz.prog y.w = .ok (.agg (itA k.l[j])) y.w := Wd.load hb hcj Tryz.underlying50 rfl (by kernel_rfl)
      have hcK : ∀ y : Wd wr, y.w.cell? ⟨b, o + j * 49, none⟩ = some (.int .i64 k.l[j].kind) := fun y => at0 (Wd.get hb hcj 0 rfl y)
      have hdg : ∀ y : Wd wr, Calls Tryz.prog 65 #[.agg (itA k.l[j])] y.w fun e w' => e = .returned (.string (digOf k.l[j])) ∧ Q y.w w' := fun y => rdigest_any k.l[j] y.w ((hII ⟨y.w, Q.trans hqr y.q⟩).each _ (List.getElem_mem hltL)) (hO _ (List.getElem_mem hltL))
      have hst := HS.out j hltL
      have hways := won_ways QU VV actor gen k.l[j] (F j).1 (F j).2
      have hst : F (j + 1) = rwonStep QU VV actor gen ((F j).1, (F j).2) k.l[j] := hst
      rw [← hst] at hways
      have hqs := hqr.size
      have d1 := cIz ⟨wr, Q.refl _⟩
      dsimp only at d1
      have hb8 := hblk.lt
      have hb8' : g8 < wr.heap.size := hb8
      clear hcell hcj hrv cI hII eA hst HS HA h00 hrows d0 hzr hh hb8
      clear zr
      generalize k.l[j] = it at *
      generalize digOf it = dg at *
      generalize hd : (F j).2 = d at *
      generalize hk2 : (F j).1 = cl at *
      clear hd hk2
      generalize hFn : F (j + 1) = Fn at *
      go_wp2_with (first | (refine wpList_index_rows 29 50 (.tmp 21) (.tmp 22) b o n0 k.iC j 49 rfl rfl rfl rfl Tryz.underlying29 (by kernel_rfl) Tryz.sizeOf50 hlt ?_) | (refine wpList_load_run 37 (.tmp 24) (.pointer (some ⟨b, o + j * 49 + 21, none⟩)) (.agg (claimA it.claim)) ?_ ?_ ?_ ?_ ?_; rfl; rfl; rfl; exact hLv ⟨_, Q.refl _⟩) | (refine wpList_store_blk (Blk.new wr 37 claim0.cells.toArray) rfl 37 (.tmp 11) (.tmp 25) it.claim.cells rfl rfl rfl (by kernel_rfl) (claim_all _) (Nat.le_refl 9) ?_))
      intro W hW hbel
      rw [splice_all _ _ (by rfl)] at hW
      have hqW : Q wr W := hbel _ _ (Nat.le_refl _) (q_new _ _ _)
      have hq3 : Q w3 W := Q.trans hqr hqW
      have hblkW := hblk.q hqW
      have e0 : W.cell? ⟨wr.heap.size, 0, none⟩ = some (.string it.claim.actor) := hW.cell 0
      have e1 : W.cell? ⟨wr.heap.size, 3, none⟩ = some (.int .i64 it.claim.gen) := hW.cell 3
      have dW := cIz ⟨W, hqW⟩
      have kW := hcK ⟨W, hqW⟩
      dsimp only at dW kW
      have HQW := Lib.hid hq3
      have HBW := Lib.hid hblkW
      rcases hways with ⟨HB, h1⟩ | ⟨HB, h1, h2⟩ | ⟨HB, h1, h2, h3⟩ | ⟨h1, h2, h3, hways⟩
      · have HE := Lib.hid HB
        have n1f : (it.kind != 1) = true := by simpa using h1
        clear HB hblk hblkW hqr hqW hW hbel hLk hLv hLi hdg hBr HV hQu0 cIz hcK cS
        go_wp2_with (refine wpList_index_rows 29 50 (.tmp 27) (.tmp 28) b o n0 k.iC j 49 rfl rfl rfl rfl Tryz.underlying29 (by kernel_rfl) Tryz.sizeOf50 hlt ?_)
        exact ⟨⟨j + 1, by go_num, by rw [hFn, HE.out], by omega, Lib.hid ⟨HQW.out, by rw [hFn, HE.out]; exact HBW.out⟩⟩, by simp only [intOf]; omega⟩
      · have HE := Lib.hid HB
        have n1 : (it.kind != 1) = false := by simpa using h1
        have n2f : (it.claim.actor.toList == actor.toList) = false := beq_eq_false_iff_ne.2 (str_ne h2)
        clear HB hblk hblkW hqr hqW hW hbel hLk hLv hLi hdg hBr HV hQu0 cIz hcK cS
        go_wp2_with (refine wpList_index_rows 29 50 (.tmp 27) (.tmp 28) b o n0 k.iC j 49 rfl rfl rfl rfl Tryz.underlying29 (by kernel_rfl) Tryz.sizeOf50 hlt ?_)
        exact ⟨⟨j + 1, by go_num, by rw [hFn, HE.out], by omega, Lib.hid ⟨HQW.out, by rw [hFn, HE.out]; exact HBW.out⟩⟩, by simp only [intOf]; omega⟩
      · have HE := Lib.hid HB
        have n1 : (it.kind != 1) = false := by simpa using h1
        have n2 : (it.claim.actor.toList == actor.toList) = true := by rw [h2]; simp
        have n3f : (it.claim.gen != gen) = true := by simpa using h3
        clear HB hblk hblkW hqr hqW hW hbel hLk hLv hLi hdg hBr HV hQu0 cIz hcK cS
        go_wp2_with (refine wpList_index_rows 29 50 (.tmp 27) (.tmp 28) b o n0 k.iC j 49 rfl rfl rfl rfl Tryz.underlying29 (by kernel_rfl) Tryz.sizeOf50 hlt ?_)
        exact ⟨⟨j + 1, by go_num, by rw [hFn, HE.out], by omega, Lib.hid ⟨HQW.out, by rw [hFn, HE.out]; exact HBW.out⟩⟩, by simp only [intOf]; omega⟩
      · have n1 : (it.kind != 1) = false := by simpa using h1
        have n2 : (it.claim.actor.toList == actor.toList) = true := by rw [h2]; simp
        have n3 : (it.claim.gen != gen) = false := by simpa using h3
        have hLk' : ∀ y : Wd W, (Instr.loadAt 31 (.pointer (some ⟨w.heap.size, 0, none⟩))).run Tryz.prog y.w = .ok (.agg (knA k)) y.w := fun y => hLk ⟨y.w, Q.trans hq3 y.q⟩
        have cS' : ∀ y : Wd W, y.w.cell? ⟨w.heap.size, 0, none⟩ = some (.slice k.sA k.sv.length k.sC) := fun y => cS ⟨y.w, Q.trans hq3 y.q⟩
        have hRV := fun d (y : Wd W) => HV d ⟨y.w, Q.trans hq3 y.q⟩
        have hQu := fun (y : Wd W) => hQu0 ⟨y.w, Q.trans hq3 y.q⟩
        have hdg' := fun (y : Wd W) => hdg ⟨y.w, Q.trans hqW y.q⟩
        have hLi' : ∀ y : Wd W, (Instr.loadAt 50 (.pointer (some ⟨b, o + j * 49, none⟩))).run Tryz.prog y.w = .ok (.agg (itA it)) y.w := fun y => hLi ⟨y.w, Q.trans hqW y.q⟩
        have hLc : ∀ y : Wd W, (Instr.loadAt 37 (.pointer (some ⟨wr.heap.size, 0, none⟩))).run Tryz.prog y.w = .ok (.agg (claimA it.claim)) y.w := Wd.load hW.lt (Blk.range hW) Tryz.underlying37 rfl (by kernel_rfl)
        have hB8 : ∀ y : Wd W, Blk y.w g8 37 cl.cells.toArray := fun y => y.blk hblkW
        dsimp only at hRV hQu hdg'
        have hle1 := hle20 dg
        clear hblk hblkW hqr hqW hW hbel hLk hLv hLi hdg hBr HV hQu0 cIz hcK cS hq3 hle20
        obtain ⟨v0, hv0⟩ := Wd.first W
        rw [hv0] at e0 e1 dW kW ⊢
        clear hv0
        go_upto_region 9 with (first | (refine wpList_index_rows 29 50 (.tmp 27) (.tmp 28) b o n0 k.iC j 49 rfl rfl rfl rfl Tryz.underlying29 (by kernel_rfl) Tryz.sizeOf50 hlt ?_) | (refine wpList_index_rows 29 50 (.tmp 46) (.tmp 47) b o n0 k.iC j 49 rfl rfl rfl rfl Tryz.underlying29 (by kernel_rfl) Tryz.sizeOf50 hlt ?_) | (refine wpList_load_run 50 (.tmp 48) (.pointer (some ⟨b, o + j * 49, none⟩)) (.agg (itA it)) ?_ ?_ ?_ ?_ ?_; rfl; rfl; rfl; exact hLi' _) | (go_at_call 65; refine (hdg' _).mono ?_; rintro e w' ⟨rfl, hq2⟩; obtain ⟨v, rfl⟩ := Wd.next _ hq2; clear hq2))
        clear e0 e1 dW kW hLi' hdg'
        rcases hways with ⟨HB, h4⟩ | ⟨HB, h4, h5⟩ | ⟨HB, h4, h5, h6⟩ | ⟨HB, h4, h5, h6⟩
        all_goals
          have HE := Lib.hid HB
          try have h5b : (d.toList == []) = _ := (nil_beq d.toList).trans h5
          clear HB
          go_upto_region 9 with (fail)
          refine wp_region_S (fun z => ∃ y : Wd W, z = y.w) (by kernel_rfl) (v.next (Q.refl _).drew) ?_
          rintro z ⟨y, rfl⟩
          refine held_read 0 (v := .agg (knA k)) rfl (by kernel_rfl) (by kernel_rfl) (by kernel_rfl) (by intro c a d v w h; cases d <;> exact h) rfl ⟨y, rfl⟩ (fun z hz => by obtain ⟨y, rfl⟩ := hz; exact exec_load 31 (.tmp 3) _ _ rfl rfl (hLk' y)) ?_
          try simp only [Act.put, List.setIfInBounds_toArray, List.set_cons_succ, List.set_cons_zero]
          refine held_pure 1 (v := .string dg) rfl (by kernel_rfl) (by kernel_rfl) (by kernel_rfl) (by intro c a d v w h; cases d <;> exact h) rfl ⟨y, rfl⟩ (fun w => by rfl) ?_
          try simp only [Act.put, List.setIfInBounds_toArray, List.set_cons_succ, List.set_cons_zero]
          refine held_pure 2 (v := .string actor) rfl (by kernel_rfl) (by kernel_rfl) (by kernel_rfl) (by intro c a d v w h; cases d <;> exact h) rfl ⟨y, rfl⟩ (fun w => by rfl) ?_
          try simp only [Act.put, List.setIfInBounds_toArray, List.set_cons_succ, List.set_cons_zero]
          refine held_pure 3 (v := .int .i64 gen) rfl (by kernel_rfl) (by kernel_rfl) (by kernel_rfl) (by intro c a d v w h; cases d <;> exact h) rfl ⟨y, rfl⟩ (fun w => by rfl) ?_
          try simp only [Act.put, List.setIfInBounds_toArray, List.set_cons_succ, List.set_cons_zero]
          refine held_pure 6 (v := .pointer (some ⟨w.heap.size, 0, none⟩)) rfl (by kernel_rfl) (by kernel_rfl) (by kernel_rfl) (by intro c a d v w h; cases d <;> exact h) rfl ⟨y, rfl⟩ (fun w => by rfl) ?_
          try simp only [Act.put, List.setIfInBounds_toArray, List.set_cons_succ, List.set_cons_zero]
          refine held_read 7 (v := .slice k.sA k.sv.length k.sC) rfl (by kernel_rfl) (by kernel_rfl) (by kernel_rfl) (by intro c a d v w h; cases d <;> exact h) rfl ⟨y, rfl⟩ (fun z hz => by obtain ⟨y, rfl⟩ := hz; exact exec_load 28 (.tmp 57) _ _ rfl rfl (load_ints (cS' y))) ?_
          try simp only [Act.put, List.setIfInBounds_toArray, List.set_cons_succ, List.set_cons_zero]
          refine held_pure 8 (v := .int .i64 (k.sv.length : Int)) rfl (by kernel_rfl) (by kernel_rfl) (by kernel_rfl) (by intro c a d v w h; cases d <;> exact h) rfl ⟨y, rfl⟩ (fun w => exec_len_slice (.tmp 58) 28 3 _ _ _ rfl rfl Tryz.underlying28) ?_
          try simp only [Act.put, List.setIfInBounds_toArray, List.set_cons_succ, List.set_cons_zero]
          refine held_one 4 rfl (by kernel_rfl) rfl (fun K' hK' => ?_)
          go_simp
          refine (hRV dg y).mono ?_
          rintro e w5 ⟨A5, c5, rfl, -, -, -, q5⟩
          obtain ⟨y5, rfl⟩ := y.next q5
          refine hK' _ _ ⟨y5, rfl⟩ ?_
          clear hK' K'
          try simp only [Act.put, List.setIfInBounds_toArray, List.set_cons_succ, List.set_cons_zero]
          refine held_pure 5 (v := .int .i64 (VV dg : Int)) rfl (by kernel_rfl) (by kernel_rfl) (by kernel_rfl) (by intro c a d v w h; cases d <;> exact h) rfl ⟨y5, rfl⟩ (fun w => exec_len_slice (.tmp 55) 28 3 _ _ _ rfl rfl Tryz.underlying28) ?_
          try simp only [Act.put, List.setIfInBounds_toArray, List.set_cons_succ, List.set_cons_zero]
          refine held_one 9 rfl (by kernel_rfl) rfl (fun K' hK' => ?_)
          go_simp
          refine (hQu y5).mono ?_
          rintro e w6 ⟨rfl, q6⟩
          obtain ⟨y6, rfl⟩ := y5.next q6
          refine hK' _ _ ⟨y6, rfl⟩ ?_
          clear hK' K'
          try simp only [Act.put, List.setIfInBounds_toArray, List.set_cons_succ, List.set_cons_zero]
          refine held_rest 10 rfl (by decide) (by kernel_rfl) (by intro c a d v w h; cases d <;> exact h) (by kernel_rfl) (by kernel_rfl) (by kernel_rfl) ⟨y6, rfl⟩ ?_
          simp only [List.drop_succ_cons, List.drop_zero]
        · go_big_quiet_step (fail)
          rw [show decide (QU ≤ (VV dg : Int)) = false from decide_eq_false (by omega)]
          with_reducible refine rmove (.tmp 61) (.bool false) (by kernel_rfl) (by kernel_rfl) (by kernel_rfl) ?_
          dsimp only [Act.put]
          simp only [List.setIfInBounds_toArray, List.set_cons_succ, List.set_cons_zero]
          iterate 7 (with_reducible refine rskip (by kernel_rfl) ?_; dsimp only [Act.put]; simp only [List.setIfInBounds_toArray, List.set_cons_succ, List.set_cons_zero])
          repeat (go_big_quiet_step (fail))
          refine wpQuiet_nil ?_
          rintro w'' ⟨y7, rfl⟩
          go_wp2_with fail
          exact ⟨⟨j + 1, by go_num, by rw [hFn, HE.out], by omega, Lib.hid ⟨Q.trans HQW.out y7.q, by rw [hFn, HE.out]; exact hB8 y7⟩⟩, by simp only [intOf]; omega⟩
        · go_big_quiet_step (fail)
          try rw [show decide (QU ≤ (VV dg : Int)) = true from decide_eq_true (by omega)]
          iterate 3 (go_big_quiet_step (fail))
          try rw [h5b]
          with_reducible refine rmove (.tmp 64) (.bool true) (by kernel_rfl) (by kernel_rfl) (by kernel_rfl) ?_
          dsimp only [Act.put]
          simp only [List.setIfInBounds_toArray, List.set_cons_succ, List.set_cons_zero]
          iterate 3 (with_reducible refine rskip (by kernel_rfl) ?_; dsimp only [Act.put]; simp only [List.setIfInBounds_toArray, List.set_cons_succ, List.set_cons_zero])
          repeat (go_big_quiet_step (fail))
          refine wpQuiet_nil ?_
          rintro w'' ⟨y7, rfl⟩
          go_wp2_with (first | (refine wpList_load_run 37 (.tmp 11) (.pointer (some ⟨wr.heap.size, 0, none⟩)) (.agg (claimA it.claim)) ?_ ?_ ?_ ?_ ?_; rfl; rfl; rfl; exact hLc _) | (refine wpList_store_far (hB8 y7) rfl 37 (.tmp 8) (.tmp 71) it.claim.cells rfl rfl rfl (by kernel_rfl) (claim_all _) (Nat.le_refl 9) ?_))
          intro W2 hW2 hbel2 hfar2
          rw [splice_all _ _ (by rfl)] at hW2
          have hqW2 : Q w3 W2 := hbel2 _ _ (by omega) (Q.trans HQW.out y7.q)
          clear hbel2 hfar2
          go_wp2_with fail
          exact ⟨⟨j + 1, by go_num, by rw [hFn, HE.out], by omega, Lib.hid ⟨hqW2, by rw [hFn, HE.out]; exact hW2⟩⟩, by simp only [intOf]; omega⟩
        · go_big_quiet_step (fail)
          try rw [show decide (QU ≤ (VV dg : Int)) = true from decide_eq_true (by omega)]
          iterate 3 (go_big_quiet_step (fail))
          try rw [h5b]
          repeat (go_big_quiet_step (fail))
          refine wpQuiet_nil ?_
          rintro w'' ⟨y7, rfl⟩
          go_wp2_with (first | (refine wpList_load_run 37 (.tmp 11) (.pointer (some ⟨wr.heap.size, 0, none⟩)) (.agg (claimA it.claim)) ?_ ?_ ?_ ?_ ?_; rfl; rfl; rfl; exact hLc _) | (refine wpList_store_far (hB8 y7) rfl 37 (.tmp 8) (.tmp 71) it.claim.cells rfl rfl rfl (by kernel_rfl) (claim_all _) (Nat.le_refl 9) ?_))
          intro W2 hW2 hbel2 hfar2
          rw [splice_all _ _ (by rfl)] at hW2
          have hqW2 : Q w3 W2 := hbel2 _ _ (by omega) (Q.trans HQW.out y7.q)
          clear hbel2 hfar2
          go_wp2_with fail
          exact ⟨⟨j + 1, by go_num, by rw [hFn, HE.out], by omega, Lib.hid ⟨hqW2, by rw [hFn, HE.out]; exact hW2⟩⟩, by simp only [intOf]; omega⟩
        · go_big_quiet_step (fail)
          try rw [show decide (QU ≤ (VV dg : Int)) = true from decide_eq_true (by omega)]
          iterate 3 (go_big_quiet_step (fail))
          try rw [h5b]
          repeat (go_big_quiet_step (fail))
          refine wpQuiet_nil ?_
          rintro w'' ⟨y7, rfl⟩
          go_wp2_with fail
          exact ⟨⟨j + 1, by go_num, by rw [hFn, HE.out], by omega, Lib.hid ⟨Q.trans HQW.out y7.q, by rw [hFn, HE.out]; exact hB8 y7⟩⟩, by simp only [intOf]; omega⟩
    · obtain rfl : j = n0 := by omega
      have hnl : ¬ ((j : Int) < (j : Int)) := by omega
      have hRe : ∃ cl d, R = (cl, d) := ⟨R.1, R.2, rfl⟩
      obtain ⟨cl, d, rfl⟩ := hRe
      have hA := HA.out
      rw [hA] at hblk ⊢
      have HN := Lib.hid (none_list d)
      have hLo : ∀ y : Wd wr, (Instr.loadAt 37 (.pointer (some ⟨g8, 0, none⟩))).run Tryz.prog y.w = .ok (.agg (claimA cl)) y.w := Wd.load hblk.lt (Blk.range hblk) Tryz.underlying37 rfl (by kernel_rfl)
      have hBr' : Blk wr (w.heap.size + 1) 37 claim0.cells.toArray := by rw [← hzr]; exact hBr zr
      have HQr := Lib.hid hqr
      have hqs := hqr.size
      clear HS h00 hA HA hblk hh hBr hLk cS cI hII HV hQu0 hqr
      go_wp2_with (first | (refine wpList_load_run 37 (.tmp 8) (.pointer (some ⟨g8, 0, none⟩)) (.agg (claimA cl)) ?_ ?_ ?_ ?_ ?_; rfl; rfl; rfl; exact hLo ⟨_, Q.refl _⟩) | (refine wpList_store_far hBr' rfl 37 (.tmp 6) (.tmp 73) cl.cells rfl rfl rfl (by kernel_rfl) (claim_all _) (Nat.le_refl 9) ?_))
      intro W2 hW2 hbel2 hfar2
      rw [splice_all _ _ (by rfl)] at hW2
      have hqW : Q w W2 := hbel2 _ _ (by omega) (Q.trans HQ.out HQr.out)
      clear hbel2 hfar2
      go_wp2_with fail
      exact bodyPost_ret (results_row_tmp rfl _ _ (w.heap.size + 1) 37 (claimA cl) (0, 0) _ _ rfl rfl hW2 Tryz.underlying37 rfl (by kernel_rfl)) rfl ⟨by rw [← HN.out]; rfl, hqW⟩
end Go.Proofs.YtflgkplneekpfaaGreatDoor.Vot

namespace Go.Proofs.YtflgkplneekpfaaGreatDoor.Vot
open Go.RowKit Grp Mem _root_.Go.Proofs.YtflgkplneekpfaaGreatDoor.Code Sha Sign _root_.Go.Proofs.YtflgkplneekpfaaGreatDoor.Item _root_.Go.Proofs.YtflgkplneekpfaaGreatDoor.Known Rng

theorem signed_right {sv : List Int} {x : ItemR} (h : signedB sv x = true) : itemRight x = true := by
  unfold signedB at h
  rw [Bool.and_eq_true] at h
  exact h.1
theorem right_server {x : ItemR} (h : itemRight x = true) (hk : x.kind = 2) : 0 ≤ x.ballot.server ∧ x.ballot.server ≤ 19 := by
  unfold itemRight at h
  rw [if_neg (by omega), if_neg (by omega), if_pos hk, Bool.and_eq_true] at h
  have h2 := h.1
  unfold ballotRight withinB at h2
  simp only [Bool.and_eq_true, decide_eq_true_eq] at h2
  exact h2.1
theorem ballotsS_mem (actor : ByteArray) (gen : Int) (l : List ItemR) (b : BallotV) : b ∈ ballotsS actor gen l ↔ ∃ x ∈ l, (wantB actor gen x = true ∧ itemRight x = true) ∧ x.ballot = b := by
  unfold ballotsS takeB
  rw [List.map_map, List.mem_map]
  constructor
  · rintro ⟨x, hx, he⟩
    rw [List.mem_filter, Bool.and_eq_true] at hx
    exact ⟨x, hx.1, hx.2, he⟩
  · rintro ⟨x, hx, hw, he⟩
    exact ⟨x, by rw [List.mem_filter, Bool.and_eq_true]; exact ⟨hx, hw⟩, he⟩
theorem rvotersN_mem (l : List ItemR) (claim actor : ByteArray) (gen : Int) (m : Nat) (d : Int) : d ∈ rvotersN l claim actor gen m ↔ ∃ s : Nat, s < m ∧ (∃ x ∈ l, votesB (s : Int) claim actor gen x = true) ∧ (s : Int) = d := by
  unfold rvotersN
  rw [List.mem_map]
  constructor
  · rintro ⟨s, hs, he⟩
    rw [List.mem_filter, List.mem_range, List.any_eq_true] at hs
    exact ⟨s, hs.1, hs.2, he⟩
  · rintro ⟨s, h1, h2, he⟩
    exact ⟨s, by rw [List.mem_filter, List.mem_range, List.any_eq_true]; exact ⟨h1, h2⟩, he⟩
theorem votesB_iff (s : Int) (claim actor : ByteArray) (gen : Int) (x : ItemR) : votesB s claim actor gen x = true ↔ wantB actor gen x = true ∧ x.ballot.claim = claim ∧ x.ballot.server = s := by
  unfold votesB wantB
  simp only [Bool.and_eq_true, decide_eq_true_eq]
  constructor
  · rintro ⟨a, b, c, d, e⟩; exact ⟨⟨a, d, e⟩, c, b⟩
  · rintro ⟨⟨a, d, e⟩, c, b⟩; exact ⟨a, b, c, d, e⟩
theorem voters_eq (l : List ItemR) (hr : ∀ x ∈ l, itemRight x = true) (claim actor : ByteArray) (gen : Int) : rvotersN l claim actor gen 20 = votersK claim (ballotsS actor gen l) := by
  refine asc_unique _ _ ?_ (voters_asc _ _) fun d => ?_
  · unfold rvotersN
    rw [List.pairwise_map]
    refine List.Pairwise.filter _ ?_
    exact List.Pairwise.imp (fun h => by omega) List.pairwise_lt_range
  · rw [rvotersN_mem, voters_mem]
    constructor
    · rintro ⟨s, hs, ⟨x, hx, hv⟩, rfl⟩
      obtain ⟨h1, h2, h3⟩ := (votesB_iff _ _ _ _ _).1 hv
      exact ⟨x.ballot, (ballotsS_mem _ _ _ _).2 ⟨x, hx, ⟨h1, hr x hx⟩, rfl⟩, h2, h3⟩
    · rintro ⟨b, hb, hc, hd⟩
      obtain ⟨x, hx, ⟨h1, h2⟩, rfl⟩ := (ballotsS_mem _ _ _ _).1 hb
      have hk : x.kind = 2 := by
        unfold wantB at h1
        rw [Bool.and_eq_true] at h1
        exact of_decide_eq_true h1.1
      have hs := right_server h2 hk
      refine ⟨d.toNat, by omega, ⟨x, hx, (votesB_iff _ _ _ _ _).2 ⟨h1, hc, ?_⟩⟩, ?_⟩ <;> omega

/-! ### Own -/
theorem ballotsS_cons (actor : ByteArray) (gen : Int) (x : ItemR) (l : List ItemR) : ballotsS actor gen (x :: l) = if wantB actor gen x && itemRight x then x.ballot :: ballotsS actor gen l else ballotsS actor gen l := by
  unfold ballotsS takeB
  cases h : wantB actor gen x && itemRight x
  · rw [List.filter_cons_of_neg (by rw [h]; exact Bool.false_ne_true)]
    rfl
  · rw [List.filter_cons_of_pos (p := fun x => wantB actor gen x && itemRight x) h]
    rfl
theorem own_fold (s : Int) (actor : ByteArray) (gen : Int) : ∀ (l : List ItemR) (acc : ByteArray × Bool), (∀ x ∈ l, itemRight x = true) → l.foldl (rownStep s actor gen) acc = (ballotsS actor gen l).foldl (ownStep s) acc
  | [], acc, _ => rfl
  | x :: l, acc, h => by
    have ih := fun acc => own_fold s actor gen l acc fun y hy => h y (List.mem_cons_of_mem _ hy)
    have hw : wantO s actor gen x = (wantB actor gen x && decide (x.ballot.server = s)) := by
      unfold wantO wantB
      cases decide (x.kind = 2) <;> cases decide (x.ballot.server = s) <;> cases decide (x.ballot.actor = actor) <;> cases decide (x.ballot.gen = gen) <;> rfl
    rw [List.foldl_cons, ballotsS_cons, h x (List.mem_cons_self ..), Bool.and_true, ih]
    unfold rownStep
    rw [hw]
    cases hb : wantB actor gen x
    · rw [Bool.false_and, Bool.false_and, if_neg Bool.false_ne_true, if_neg Bool.false_ne_true]
    · rw [Bool.true_and, if_pos rfl, List.foldl_cons]
      rfl
theorem own_eq (s : Int) (actor : ByteArray) (gen : Int) (l : List ItemR) (h : ∀ x ∈ l, itemRight x = true) : rownK s actor gen l = ownK s (ballotsS actor gen l) := own_fold s actor gen l _ h

/-! ### Won -/
theorem dig_claim {x : ItemR} (h : itemRight x = true) (hk : x.kind = 1) : digOf (itClaim x.claim) = digOf x := by
  have h2 : itemRight (itClaim x.claim) = true := by
    unfold itemRight at h ⊢
    rw [if_neg (by omega), if_pos hk, Bool.and_eq_true] at h
    rw [if_neg (show ¬ (itClaim x.claim).kind = 0 from fun hh => by cases (show (1 : Int) = 0 from hh)), if_pos (show (itClaim x.claim).kind = 1 from rfl), Bool.and_eq_true]
    exact ⟨h.1, show (act0.same act0 && (ballot0.same ballot0 && dec0.same dec0)) = true by decide⟩
  have hb : itemBytesL (itClaim x.claim) = itemBytesL x := by
    unfold itemBytesL itemL sigV
    rw [hk]
    rfl
  unfold digOf itemBytes
  rw [h, h2, hb]
theorem dig_some {x : ItemR} (h : itemRight x = true) : noneB (digOf x) = false := by
  unfold digOf noneB
  rw [if_pos h, sha_size]
  rfl
theorem claimsS_cons (actor : ByteArray) (x : ItemR) (l : List ItemR) : claimsS actor (x :: l) = if wantCl actor x && itemRight x then x.claim :: claimsS actor l else claimsS actor l := by
  unfold claimsS takeCl
  cases h : wantCl actor x && itemRight x
  · rw [List.filter_cons_of_neg (by rw [h]; exact Bool.false_ne_true)]
    rfl
  · rw [List.filter_cons_of_pos (p := fun x => wantCl actor x && itemRight x) h]
    rfl
theorem won_keep (q : Int) (V : ByteArray → Nat) (actor : ByteArray) (gen : Int) (c : ClaimV) (d : ByteArray) (hd : noneB d = false) : ∀ (l : List ItemR), (∀ x ∈ l, lessB (digOf x) d = false) → l.foldl (rwonStep q V actor gen) (c, d) = (c, d)
  | [], _ => rfl
  | x :: l, h => by
    rw [List.foldl_cons]
    have hs : rwonStep q V actor gen (c, d) x = (c, d) := by
      unfold rwonStep
      rw [hd, h x (List.mem_cons_self ..)]
      simp
    rw [hs]
    exact won_keep q V actor gen c d hd l fun y hy => h y (List.mem_cons_of_mem _ hy)
def wonD : Option ClaimV → ClaimV × ByteArray
  | some c => (c, digOf (itClaim c))
  | none => (claim0, emptyT)
theorem won_fold (q : Int) (V : ByteArray → Nat) (bs : List BallotV) (hV : ∀ d, V d = (votersK d bs).length) (actor : ByteArray) (gen : Int) : ∀ (l : List ItemR), (∀ x ∈ l, itemRight x = true) → Asc (digs l) → l.foldl (rwonStep q V actor gen) (claim0, emptyT) = wonD (wonO q bs gen (claimsS actor l))
  | [], _, _ => rfl
  | x :: l, hr, ha => by
    have ha' : Asc (digOf x :: digs l) := ha
    obtain ⟨h1, h2⟩ := List.pairwise_cons.1 ha'
    have ih := won_fold q V bs hV actor gen l (fun y hy => hr y (List.mem_cons_of_mem _ hy)) h2
    have hx := hr x (List.mem_cons_self ..)
    rw [List.foldl_cons, claimsS_cons, hx, Bool.and_true]
    by_cases hw : wantCl actor x = true
    · rw [if_pos hw]
      have hw' := hw
      unfold wantCl at hw'
      simp only [Bool.and_eq_true, decide_eq_true_eq] at hw'
      obtain ⟨hk, hac⟩ := hw'
      have hdg := dig_claim hx hk
      by_cases hp : winsB q bs gen x.claim = true
      · have hfind : wonO q bs gen (x.claim :: claimsS actor l) = some x.claim := List.find?_cons_of_pos hp
        unfold winsB at hp
        rw [hdg] at hp
        simp only [Bool.and_eq_true, decide_eq_true_eq] at hp
        have hs : rwonStep q V actor gen (claim0, emptyT) x = (x.claim, digOf x) := by
          unfold rwonStep
          rw [hV]
          simp [hk, hac, hp.1, hp.2, show noneB emptyT = true from rfl]
        rw [hs, hfind, won_keep q V actor gen _ _ (dig_some hx) l]
        · show _ = (x.claim, digOf (itClaim x.claim))
          rw [hdg]
        · intro y hy
          exact lessB_asymm (h1 _ (List.mem_map.2 ⟨y, hy, rfl⟩))
      · have hp' : winsB q bs gen x.claim = false := by simpa using hp
        have hfind : wonO q bs gen (x.claim :: claimsS actor l) = wonO q bs gen (claimsS actor l) := List.find?_cons_of_neg hp
        have hs : rwonStep q V actor gen (claim0, emptyT) x = (claim0, emptyT) := by
          unfold rwonStep
          unfold winsB at hp'
          rw [hdg] at hp'
          rw [hV]
          by_cases g1 : x.claim.gen = gen
          · have g2 : decide (q ≤ ((votersK (digOf x) bs).length : Int)) = false := by simpa [g1] using hp'
            rw [g2]
            simp
          · simp [g1]
        rw [hs, hfind, ih]
    · have hs : rwonStep q V actor gen (claim0, emptyT) x = (claim0, emptyT) := by
        unfold rwonStep
        have hn : ¬ (x.kind = 1 ∧ x.claim.actor = actor) := fun hh => hw (by unfold wantCl; simp [hh.1, hh.2])
        by_cases g1 : x.kind = 1
        · have g2 : ¬ x.claim.actor = actor := fun hh => hn ⟨g1, hh⟩
          simp [g2]
        · simp [g1]
      rw [if_neg hw, hs, ih]
/-- The reference's answer is the program's. -/
theorem won_eq (q : Int) (l : List ItemR) (actor : ByteArray) (gen : Int) (hr : ∀ x ∈ l, itemRight x = true) (ha : Asc (digs l)) :
    (rwonK q (fun d => (rvotersN l d actor gen 20).length) actor gen l).1 = (wonR (wonO q (ballotsS actor gen l) gen (claimsS actor l))).1 ∧ (!noneB (rwonK q (fun d => (rvotersN l d actor gen 20).length) actor gen l).2) = (wonR (wonO q (ballotsS actor gen l) gen (claimsS actor l))).2 := by
  have h := won_fold q (fun d => (rvotersN l d actor gen 20).length) (ballotsS actor gen l) (fun d => by rw [voters_eq l hr]) actor gen l hr ha
  unfold rwonK
  rw [h]
  cases ho : wonO q (ballotsS actor gen l) gen (claimsS actor l) with
  | none => exact ⟨rfl, rfl⟩
  | some c =>
    refine ⟨rfl, ?_⟩
    show (!noneB (digOf (itClaim c))) = true
    have hm := List.mem_of_find?_eq_some ho
    unfold claimsS takeCl at hm
    rw [List.map_map, List.mem_map] at hm
    obtain ⟨x, hx, rfl⟩ := hm
    rw [List.mem_filter, Bool.and_eq_true] at hx
    have hk : x.kind = 1 := by
      have := hx.2.1
      unfold wantCl at this
      rw [Bool.and_eq_true] at this
      exact of_decide_eq_true this.1
    show (!noneB (digOf (itClaim x.claim))) = true
    rw [dig_claim hx.2.2 hk, dig_some hx.2.2]
    rfl
end Go.Proofs.YtflgkplneekpfaaGreatDoor.Vot

namespace Go.Proofs.YtflgkplneekpfaaGreatDoor.Known
open Go.RowKit Go.ChangeShapes Go.WideShapes Go.Deep Grp Mem _root_.Go.Proofs.YtflgkplneekpfaaGreatDoor.Code Sha Sign _root_.Go.Proofs.YtflgkplneekpfaaGreatDoor.Item

structure KOk (k : KR) : Prop where
  items : ∀ x ∈ k.l, ItemOk x
  ints : ∀ n ∈ k.sv, I64 n
theorem k_known : Tryz.prog.cellsOf 31 = 2 := by kernel_rfl
section
variable {H : Type} {enc : TypeId × Value → H} {W : World} {base : Nat} {spare : Nat → Bool} {held : Bool}
set_option maxHeartbeats 1000000 in
theorem o_known : Opens enc Tryz.prog W base spare held 31 KR.cells (fun k => KIn W k ∧ KOk k) := fun fuel cs x h => by
  obtain ⟨xs, n, -, -, hcl, hxl, hf⟩ := DataW.trod_struct Tryz.underlying31 h
  rw [k_known] at hcl
  have hxl : xs.length = 2 := hxl
  obtain ⟨s0, e0, g0⟩ := field_opens (off := 0) (show DataW.trod enc Tryz.prog W base spare held n 28 ((cs.drop 0).take (Tryz.prog.cellsOf 28)) = xs[0]? from hf 0 _ rfl) (by omega) k_ints o_ints
  obtain ⟨s1, e1, g1⟩ := field_opens (off := 1) (show DataW.trod enc Tryz.prog W base spare held n 29 ((cs.drop 1).take (Tryz.prog.cellsOf 29)) = xs[1]? from hf 1 _ rfl) (by omega) k_items o_items
  have t2 : cs.drop 2 = [] := List.drop_eq_nil_of_le (by omega)
  have t1 := drop_step e1
  simp only [Nat.reduceAdd] at t1
  rw [t2] at t1
  have t0 := drop_step e0
  simp only [Nat.reduceAdd] at t0
  rw [t1] at t0
  rw [List.drop_zero] at t0
  refine ⟨⟨s0.l, s0.A, s0.c, s1.l, s1.A, s1.c⟩, by rw [t0]; rfl, ?_⟩
  exact ⟨⟨ints_of g0.rows, ⟨g1.rows, fun x hx => (g1.all x hx).1⟩, ⟨g0.le, g0.cap⟩, ⟨g1.le, g1.cap⟩⟩, fun x hx => (g1.all x hx).2, g0.all⟩
set_option maxRecDepth 100000 in
theorem open_kn {r : Reach} {b0 : Nat} {v : Value} {d : DataW H} {p : List MemPlace} (hval : Value.okWide Tryz.prog W r b0 31 v) (h : DataW.Trod enc Tryz.prog W base spare held 31 v d p) : ∃ k : KR, v = .agg (knA k) ∧ KIn W k ∧ KOk k := by
  simp only [Value.okWide, Tryz.underlying31] at hval
  obtain ⟨cs, rfl, -⟩ := hval
  obtain ⟨fuel, hf⟩ := h
  obtain ⟨k, hk, g1, g2⟩ := o_known fuel _ _ hf
  have hk : cs.toList = k.cells := hk
  exact ⟨k, by rw [knA, ← hk], g1, g2⟩
end
end Go.Proofs.YtflgkplneekpfaaGreatDoor.Known

namespace Go.Proofs.YtflgkplneekpfaaGreatDoor.Laid

theorem cell_int {P : Program} {W : World} {r : Reach} {base : Nat} {i : TypeId} {v : Value} (hi : P.underlying i = some (.int .i64)) (h : Cell.okWide P W r base i v) :
    ∃ a : Int, v = .int .i64 a ∧ -9223372036854775808 ≤ a ∧ a ≤ 9223372036854775807 := by
  simp only [Cell.okWide, hi] at h
  cases v with
  | int k n =>
    simp only [Cell.ok, hi] at h
    obtain ⟨rfl, h1, h2⟩ := h
    exact ⟨n, rfl, h1, h2⟩
  | _ => simp [Cell.ok, hi] at h
theorem open_i64 {P : Program} {W : World} {r : Reach} {base : Nat} {i : TypeId} {v : Value} (hi : P.underlying i = some (.int .i64)) (h : Value.okWide P W r base i v) :
    ∃ a : Int, v = .int .i64 a ∧ -9223372036854775808 ≤ a ∧ a ≤ 9223372036854775807 := by
  simp only [Value.okWide, hi] at h
  exact cell_int hi h
end Go.Proofs.YtflgkplneekpfaaGreatDoor.Laid

namespace Go.Proofs.YtflgkplneekpfaaGreatDoor.Post
open Go.ChangeShapes Go.WideShapes Go.ChangeAt Go.RowKit

theorem trodAll_below {H : Type} {enc : TypeId × Value → H} {P : Program} (hl : laidOutB P = true) {W W' : World} (hb : Below W.heap.size W W') :
    ∀ {ts : List TypeId} {vs : List Value} {ds : List (DataW H)} {ps : List MemPlace}, ts.all (fun t => P.readableRec t && decide (t < P.types.size)) = true → (∀ x ∈ ps, x.block < W.heap.size) →
      DataW.TrodAll enc P W 0 (fun _ => true) true ts vs ds ps → DataW.TrodAll enc P W' 0 (fun b => decide (b < W.heap.size)) true ts vs ds ps := by
  intro ts
  induction ts with
  | nil =>
    intro vs ds ps _ _ h
    obtain ⟨rfl, rfl, rfl⟩ := trodAll_nil h
    exact trodAll_mk0
  | cons t ts ih =>
    intro vs ds ps hr hlt h
    obtain ⟨v, vs', d, ds', p, q, rfl, rfl, rfl, h1, h2⟩ := trodAll_cons h
    simp only [List.all_cons, Bool.and_eq_true, decide_eq_true_eq] at hr
    exact trodAll_cons_mk (Below.trod hl hr.1.1 hr.1.2 h1 hb (fun x hx => hlt x (List.mem_append_left _ hx))) (ih (by simpa using hr.2) (fun x hx => hlt x (List.mem_append_right _ hx)) h2)

theorem law_post {H : Type} {enc : TypeId × Value → H} {P : Program} {f : Func} {s : ChangeSpec} {apart : Bool} {W W' : World} {args : Array Value} {ds gs : List (DataW H)} {before : List MemPlace} {tb : TypeId}
    (hl : laidOutB P = true) (hts : f.params.toList.all (fun t => P.readableRec t && decide (t < P.types.size)) = true) (hvs : varsRowed P s.vars = true)
    (hrt : f.resultTypes.toList = [tb]) (hn : f.resultTypes.size = 1) (hub : P.underlying tb = some .bool)
    (hW : DataW.Whole enc P f.params.toList s.vars apart W args.toList ds gs before)
    (hr : (s.fn H (ds ++ gs)).results = [.lit (.bool true)]) (ha : (s.fn H (ds ++ gs)).args = ds) (hv : (s.fn H (ds ++ gs)).vars = gs)
    (hb : Below W.heap.size W W') :
    s.post enc P f apart true false false W args (.bool true) W' := by
  have hW' := hW
  have hlt := hW.lt
  obtain ⟨p, q, hA, hV, rfl, hfz, hnd⟩ := hW
  refine ⟨ds, gs, p ++ q, [], p, q, hW', ?_, ?_, ?_, hb.frame _, fun h => by cases h⟩
  · rw [hr, hrt, hn]
    exact trodAll_mk1 (shut_bool hub true)
  · rw [ha]
    exact trodAll_below hl hb hts (fun x hx => hlt x (List.mem_append_left _ hx)) hA
  · rw [hv]
    exact Below.trodVars hl hb hvs hV

end Go.Proofs.YtflgkplneekpfaaGreatDoor.Post

namespace Go.Proofs.YtflgkplneekpfaaGreatDoor.Laid
open Go.ChangeShapes Go.WideShapes Go.ChangeAt Go.RowKit

theorem own : ownKnob Tryz.prog.godebug = none := by kernel_rfl
theorem laidOut : laidOutB Tryz.prog = true := by kernel_rfl
theorem gCon : Tryz.prog.globalNamed "agora/sum.constants" = some 1 := by kernel_rfl
theorem gIni : Tryz.prog.globalNamed "agora/sum.initial" = some 0 := by kernel_rfl
theorem gConType : (Tryz.prog.globals[(1 : Nat)]?).map (·.type) = some 212 := by kernel_rfl
theorem gIniType : (Tryz.prog.globals[(0 : Nat)]?).map (·.type) = some 161 := by kernel_rfl
theorem cells64 : Tryz.prog.cellsOf 212 = 64 := by kernel_rfl
theorem cells8 : Tryz.prog.cellsOf 161 = 8 := by kernel_rfl
theorem cells1 : Tryz.prog.cellsOf 160 = 1 := by kernel_rfl

theorem laidMet_rest {P : Program} {W : World} {x : String × DataW Unit} {name : String} {k : IntKind} {zs : List Int} {g : Nat} {t e : TypeId} {n : Nat}
    (hg : P.globalNamed name = some g) (hty : (P.globals[g]?).map (·.type) = some t) (ht : P.underlying t = some (.array n e)) (he : P.underlying e = some (.int k)) (hce : P.cellsOf e = 1) (hct : P.cellsOf t = n)
    (h : laidMet P [x, (name, Lib.tabData k zs)] W) : Lib.TabIs P W name k zs := by
  obtain ⟨ps, ⟨g', t', cs, fuel, p, q, hg', ht', hvar, hd, ⟨g2, t2, cs2, fuel2, p2, q2, hg2, ht2, hvar2, hd2, _, _⟩, _⟩, _⟩ := h
  obtain rfl := Option.some.inj (hg.symm.trans hg2)
  obtain rfl := Option.some.inj (hty.symm.trans ht2)
  unfold Lib.TabIs
  rw [hvar2, ← Lib.cells_of_tab ht he hce hct hd2]

theorem block_of {P : Program} {W : World} {name : String} {cs : Array Value} {g : Nat} (hg : P.globalNamed name = some g) (h : W.var? P name = some cs) : ∃ t fr, W.heap[g]? = some (.cells cs t fr) := by
  simp only [World.var?, hg, Option.bind_some] at h
  split at h
  · rename_i cs' t fr hh
    obtain rfl := Option.some.inj h
    exact ⟨t, fr, hh⟩
  · cases h
theorem lt_of {W : World} {g : Nat} {o : Obj} (h : W.heap[g]? = some o) : g < W.heap.size := (Array.getElem?_eq_some_iff.mp h).1

theorem tab {W : World} (h : laidMetH Tryz.prog [("agora/sum.constants", Rows.laid_agora_sum_constants), ("agora/sum.initial", Rows.laid_agora_sum_initial)] W) : Sha.Tab W := by
  have hc : Lib.TabIs Tryz.prog W "agora/sum.constants" .u32 Sha.KL := Lib.tabIs_of_head (rest := [("agora/sum.initial", Rows.laid_agora_sum_initial)]) gCon gConType Tryz.underlying212 Tryz.underlying160 cells1 cells64 h
  have hi : Lib.TabIs Tryz.prog W "agora/sum.initial" .u32 Sha.HL := laidMet_rest (x := ("agora/sum.constants", Rows.laid_agora_sum_constants)) gIni gIniType Tryz.underlying161 Tryz.underlying160 cells1 cells8 h
  obtain ⟨t1, f1, h1⟩ := block_of gCon hc
  obtain ⟨t2, f2, h2⟩ := block_of gIni hi
  exact ⟨⟨t2, f2, h2⟩, fun i hi => hc.cell gCon i hi, lt_of h2, lt_of h1⟩

/- A world for the witness: the settled one, the tables holding what the text lays. -/
def put (cs : Array Value) : Obj → Obj
  | .cells _ t frozen => .cells cs t frozen
  | o => o
noncomputable def laidWorld (os : Os) (args : Array Value) : World :=
  { World.holding Tryz.prog os ⟨#[], args, []⟩ with heap := ((World.holding Tryz.prog os ⟨#[], args, []⟩).heap.modify 1 (put (Sha.KL.map fun z => Value.int .u32 z).toArray)).modify 0 (put (Sha.HL.map fun z => Value.int .u32 z).toArray) }
end Go.Proofs.YtflgkplneekpfaaGreatDoor.Laid

namespace Go.Proofs.YtflgkplneekpfaaGreatDoor.Vot
open Go.RowKit Grp Mem _root_.Go.Proofs.YtflgkplneekpfaaGreatDoor.Code Sha Sign _root_.Go.Proofs.YtflgkplneekpfaaGreatDoor.Item _root_.Go.Proofs.YtflgkplneekpfaaGreatDoor.Known Rng

theorem claim_self (c : ClaimV) : c.same c = true := by
  unfold ClaimV.same
  simp [conj]
theorem rem_bd (n : Int) : -1000 < n.tmod 1000 ∧ n.tmod 1000 < 1000 := by
  rcases Int.le_total 0 n with h | h
  · rw [Int.tmod_eq_emod_of_nonneg h]
    omega
  · have h2 : n.tmod 1000 = -((-n).tmod 1000) := by rw [Int.neg_tmod, Int.neg_neg]
    rw [h2, Int.tmod_eq_emod_of_nonneg (by omega)]
    omega
set_option maxRecDepth 100000 in
set_option maxHeartbeats 16000000 in
theorem tells_any (k : KR) (claim actor : ByteArray) (gen server : Int) (w : World) (hT : Tab w) (hK : KIn w k) (hO : KOk k) (hs : -9223372036854775808 ≤ server ∧ server ≤ 9223372036854775807) :
    Calls Tryz.prog 6 #[.agg (knA k), .string claim, .string actor, .int .i64 gen, .int .i64 server] w fun e w' => e = .returned (.bool true) ∧ Q w w' := by
  obtain ⟨w1, x, hx, hq1, hbk⟩ := boxedB w 31 k.cells
  have hx : w.alloc (.cells (knA k) 31) = x.w := hx
  have hLk : ∀ y : Wd w1, (Instr.loadAt 31 (.pointer (some ⟨w.heap.size, 0, none⟩))).run Tryz.prog y.w = .ok (.agg (knA k)) y.w := Wd.load hbk.lt (Blk.range hbk) Tryz.underlying31 rfl (by kernel_rfl)
  have cS : ∀ y : Wd w1, y.w.cell? ⟨w.heap.size, 0, none⟩ = some (.slice k.sA k.sv.length k.sC) := fun y => (y.blk hbk).cell 0
  have cI : ∀ y : Wd w1, y.w.cell? ⟨w.heap.size, 1, none⟩ = some (.slice k.iA k.l.length k.iC) := fun y => (y.blk hbk).cell 1
  have hKy : ∀ y : Wd w1, KIn y.w k := fun y => hK.q (Q.trans hq1 y.q)
  have hTy : ∀ y : Wd w1, Tab y.w := fun y => hT.q (Q.trans hq1 y.q)
  have hSm := fun y : Wd w1 => small18_any y.w (hTy y)
  have hRi := fun y : Wd w1 => kright_any k y.w (hTy y) (hKy y)
  have HQ := Lib.hid hq1
  have hil := hK.lC
  have hsl := hK.svC
  have hmx : maxLen = 9223372036854775807 := by decide
  have hlt1 := hbk.lt
  clear hbk hq1
  have hways : (40 < k.l.length) ∨ (k.l.length ≤ 40 ∧ 20 < k.sv.length) ∨ (k.l.length ≤ 40 ∧ k.sv.length ≤ 20 ∧ rightK k.sv k.l = false) ∨ (k.l.length ≤ 40 ∧ k.sv.length ≤ 20 ∧ rightK k.sv k.l = true) := by
    cases rightK k.sv k.l <;> simp <;> omega
  rcases hways with h1 | ⟨h1, h2⟩ | ⟨h1, h2, h3⟩ | ⟨h1, h2, h3⟩
  · have c0 := cI
    generalize k.l.length = n0 at *
    have h1I : (n0 : Int) > 40 := by omega
    clear cS hRi hKy hTy hLk
    go_enter Tryz.func6, Tryz.ntmps6
    go_wp2_with (go_at_call 8; refine (hSm _).mono ?_; rintro e w' ⟨rfl, hq2⟩; obtain ⟨y, rfl⟩ := Wd.next _ hq2; clear hq2)
    go_ret
    exact ⟨rfl, Q.trans HQ.out y.q⟩
  · generalize k.l.length = n0 at *
    generalize k.sv.length = n1 at *
    have h1I : ¬ (n0 : Int) > 40 := by omega
    have h2I : (n1 : Int) > 20 := by omega
    clear hRi hKy hTy hLk
    go_enter Tryz.func6, Tryz.ntmps6
    go_wp2_with (go_at_call 8; refine (hSm _).mono ?_; rintro e w' ⟨rfl, hq2⟩; obtain ⟨y, rfl⟩ := Wd.next _ hq2; clear hq2)
    go_ret
    exact ⟨rfl, Q.trans HQ.out y.q⟩
  · rw [h3] at hRi
    clear h3
    generalize k.l.length = n0 at *
    generalize k.sv.length = n1 at *
    have h1I : decide ((40 : Int) < (n0 : Int)) = false := decide_eq_false (by omega)
    have h2I : decide ((20 : Int) < (n1 : Int)) = false := decide_eq_false (by omega)
    clear hKy hTy
    go_enter Tryz.func6, Tryz.ntmps6
    go_wp2_with (first | (go_at_call 8; refine (hSm _).mono ?_; rintro e w' ⟨rfl, hq2⟩; obtain ⟨y, rfl⟩ := Wd.next _ hq2; clear hq2) | (refine wpList_load_run 31 (.tmp 5) (.pointer (some ⟨w.heap.size, 0, none⟩)) (.agg (knA k)) ?_ ?_ ?_ ?_ ?_; rfl; kernel_rfl; rfl; exact hLk _) | (go_at_call 29; refine (hRi _).mono ?_; rintro e w' ⟨rfl, hq2⟩; obtain ⟨y2, rfl⟩ := Wd.next _ hq2; clear hq2))
    go_ret
    exact ⟨rfl, Q.trans HQ.out y2.q⟩
  rw [h3] at hRi
  obtain ⟨hfl, -, -⟩ := rightK_filled h3
  have hr : ∀ x ∈ k.l, itemRight x = true := fun x hx => signed_right (hfl.all x hx)
  have hasc := hfl.asc
  obtain ⟨we1, we2⟩ := won_eq (quorumK k.sv.length) k.l actor gen hr hasc
  have hWo := fun y : Wd w1 => won_any k actor gen y.w (hTy y) (hKy y) (by omega) (by omega) (sortB_of hasc _ _) (sortCl_of hasc _)
  have hRW := fun y : Wd w1 => rwon_any k actor gen y.w (hKy y) hO.items (by omega) (by omega)
  rw [we1, we2] at hRW
  generalize hcc : (wonR (wonO (quorumK k.sv.length) (ballotsS actor gen k.l) gen (claimsS actor k.l))).1 = wc at *
  generalize hcb : (wonR (wonO (quorumK k.sv.length) (ballotsS actor gen k.l) gen (claimsS actor k.l))).2 = wb at *
  have hOw := fun y : Wd w1 => own_any k server actor gen y.w (hTy y) (hKy y) (by omega) (sortB_of hasc _ _)
  have hRO := fun y : Wd w1 => rown_any k server actor gen y.w (hKy y) (by omega)
  rw [own_eq server actor gen k.l hr] at hRO
  have hVo := fun y : Wd w1 => voters_any k claim actor gen y.w (hTy y) (hKy y) (by omega) (sortB_of hasc _ _)
  have hRV := fun y : Wd w1 => rvoters_any k claim actor gen y.w (hKy y) (by omega)
  have hle := rvoters_le k.l claim actor gen 20
  rw [voters_eq k.l hr claim actor gen] at hRV hle
  generalize ownK server (ballotsS actor gen k.l) = ow at *
  generalize votersK claim (ballotsS actor gen k.l) = L at *
  obtain ⟨od, ob⟩ := ow
  dsimp only at hOw hRO
  obtain ⟨rb1, rb2⟩ := rem_bd server
  have hQu := fun y : Wd w1 => quorum_any (server.tmod 1000) y.w (by omega)
  have hRQ := fun y : Wd w1 => rquorum_any (server.tmod 1000) y.w (by omega) (by omega)
  generalize hm : server.tmod 1000 = m at *
  generalize quorumK m = qm at *
  have hcs := claimEq wc wc
  rw [claim_self] at hcs
  clear hcc hcb we1 we2 hasc hr hfl h3 hKy hTy
  generalize k.l.length = n0 at *
  generalize k.sv.length = n1 at *
  have h1I : decide ((40 : Int) < (n0 : Int)) = false := decide_eq_false (by omega)
  have h2I : decide ((20 : Int) < (n1 : Int)) = false := decide_eq_false (by omega)
  go_enter Tryz.func6, Tryz.ntmps6
  go_upto_region 5 with (first | (go_at_call 8; refine (hSm _).mono ?_; rintro e w' ⟨rfl, hq2⟩; obtain ⟨y, rfl⟩ := Wd.next _ hq2; clear hq2) | (refine wpList_load_run 31 (.tmp 5) (.pointer (some ⟨w.heap.size, 0, none⟩)) (.agg (knA k)) ?_ ?_ ?_ ?_ ?_; rfl; kernel_rfl; rfl; exact hLk _) | (go_at_call 29; refine (hRi _).mono ?_; rintro e w' ⟨rfl, hq2⟩; obtain ⟨y2, rfl⟩ := Wd.next _ hq2; clear hq2) | (go_at_call 16; refine (hWo _).mono ?_; rintro e w' ⟨rfl, hq2⟩; obtain ⟨y3, rfl⟩ := Wd.next _ hq2; clear hq2) | (refine wpList_store_blk (Blk.new y3.w 37 claim0.cells.toArray) rfl 37 (.tmp 12) (.tmp 44) wc.cells rfl rfl rfl (by kernel_rfl) (claim_all _) (Nat.le_refl 9) ?_))
  intro W2 hW2 hbel2
  rw [splice_all _ _ (by rfl)] at hW2
  have hq2 : Q w1 W2 := hbel2 _ _ y3.q.size (Q.trans y3.q (q_new _ _ _))
  have hg2 := hW2.lt
  clear hbel2 cS cI hSm hRi hWo
  generalize y3.w.heap.size = g2 at *
  have hLk2 : ∀ y : Wd W2, (Instr.loadAt 31 (.pointer (some ⟨w.heap.size, 0, none⟩))).run Tryz.prog y.w = .ok (.agg (knA k)) y.w := fun y => hLk ⟨y.w, Q.trans hq2 y.q⟩
  have hRW2 := fun y : Wd W2 => hRW ⟨y.w, Q.trans hq2 y.q⟩
  dsimp only at hRW2
  obtain ⟨v2, hv2⟩ := Wd.first W2
  rw [hv2]
  clear hv2 hRW
  go_upto_region 6 with (first | (refine wpList_load_run 31 (.tmp 5) (.pointer (some ⟨w.heap.size, 0, none⟩)) (.agg (knA k)) ?_ ?_ ?_ ?_ ?_; rfl; rfl; rfl; exact hLk2 _) | (go_at_call 30; refine (hRW2 _).mono ?_; rintro e w' ⟨rfl, hq3⟩; obtain ⟨y4, rfl⟩ := Wd.next _ hq3; clear hq3) | (refine wpList_store_blk (Blk.new y4.w 37 claim0.cells.toArray) rfl 37 (.tmp 14) (.tmp 51) wc.cells rfl rfl rfl (by kernel_rfl) (claim_all _) (Nat.le_refl 9) ?_))
  intro W3 hW3 hbel3
  rw [splice_all _ _ (by rfl)] at hW3
  have hq23 : Q W2 W3 := hbel3 _ _ y4.q.size (Q.trans y4.q (q_new _ _ _))
  have hq3 : Q w1 W3 := Q.trans hq2 hq23
  have hW2 := hW2.q hq23
  have hL1 : ∀ y : Wd W3, (Instr.loadAt 37 (.pointer (some ⟨g2, 0, none⟩))).run Tryz.prog y.w = .ok (.agg (claimA wc)) y.w := Wd.load hW2.lt (Blk.range hW2) Tryz.underlying37 rfl (by kernel_rfl)
  have hL2 : ∀ y : Wd W3, (Instr.loadAt 37 (.pointer (some ⟨y4.w.heap.size, 0, none⟩))).run Tryz.prog y.w = .ok (.agg (claimA wc)) y.w := Wd.load hW3.lt (Blk.range hW3) Tryz.underlying37 rfl (by kernel_rfl)
  have hLk : ∀ y : Wd W3, (Instr.loadAt 31 (.pointer (some ⟨w.heap.size, 0, none⟩))).run Tryz.prog y.w = .ok (.agg (knA k)) y.w := fun y => hLk ⟨y.w, Q.trans hq3 y.q⟩
  have hOw := fun y : Wd W3 => hOw ⟨y.w, Q.trans hq3 y.q⟩
  have hRO := fun y : Wd W3 => hRO ⟨y.w, Q.trans hq3 y.q⟩
  have hVo := fun y : Wd W3 => hVo ⟨y.w, Q.trans hq3 y.q⟩
  have hRV := fun y : Wd W3 => hRV ⟨y.w, Q.trans hq3 y.q⟩
  have hQu := fun y : Wd W3 => hQu ⟨y.w, Q.trans hq3 y.q⟩
  have hRQ := fun y : Wd W3 => hRQ ⟨y.w, Q.trans hq3 y.q⟩
  dsimp only at hOw hRO hVo hRV hQu hRQ
  have HQ3 := Lib.hid (Q.trans HQ.out hq3)
  clear hbel3 hW2 hW3 hq2 hq23 hq3 hLk2 hRW2
  generalize y4.w.heap.size = g3 at *
  obtain ⟨v3, hv3⟩ := Wd.first W3
  rw [hv3]
  clear hv3
  go_upto_region 8 with (first | (refine wpList_load_run 31 (.tmp 5) (.pointer (some ⟨w.heap.size, 0, none⟩)) (.agg (knA k)) ?_ ?_ ?_ ?_ ?_; rfl; kernel_rfl; rfl; exact hLk _) | (go_at_call 31; refine (hOw _).mono ?_; rintro e w' ⟨rfl, hq4⟩; obtain ⟨y6, rfl⟩ := Wd.next _ hq4; clear hq4) | (go_at_call 32; refine (hRO _).mono ?_; rintro e w' ⟨rfl, hq4⟩; obtain ⟨v8, rfl⟩ := Wd.next _ hq4; clear hq4))
  go_upto_region 8 with (fail)
  refine wp_region_S (fun z => ∃ y : Wd W3, z = y.w) (by kernel_rfl) (v8.next (Q.refl _).drew) ?_
  rintro z ⟨y, rfl⟩
  refine held_read 0 (v := .agg (knA k)) rfl (by kernel_rfl) (by kernel_rfl) (by kernel_rfl) (by intro c a d v w h; cases d <;> exact h) rfl ⟨y, rfl⟩ (fun z hz => by obtain ⟨y, rfl⟩ := hz; exact exec_load 31 (.tmp 5) _ _ rfl rfl (hLk y)) ?_
  try simp only [Act.put, List.setIfInBounds_toArray, List.set_cons_succ, List.set_cons_zero]
  refine held_pure 1 (v := .string claim) rfl (by kernel_rfl) (by kernel_rfl) (by kernel_rfl) (by intro c a d v w h; cases d <;> exact h) rfl ⟨y, rfl⟩ (fun w => by rfl) ?_
  try simp only [Act.put, List.setIfInBounds_toArray, List.set_cons_succ, List.set_cons_zero]
  refine held_pure 2 (v := .string actor) rfl (by kernel_rfl) (by kernel_rfl) (by kernel_rfl) (by intro c a d v w h; cases d <;> exact h) rfl ⟨y, rfl⟩ (fun w => by rfl) ?_
  try simp only [Act.put, List.setIfInBounds_toArray, List.set_cons_succ, List.set_cons_zero]
  refine held_pure 3 (v := .int .i64 gen) rfl (by kernel_rfl) (by kernel_rfl) (by kernel_rfl) (by intro c a d v w h; cases d <;> exact h) rfl ⟨y, rfl⟩ (fun w => by rfl) ?_
  try simp only [Act.put, List.setIfInBounds_toArray, List.set_cons_succ, List.set_cons_zero]
  refine held_read 5 (v := .agg (knA k)) rfl (by kernel_rfl) (by kernel_rfl) (by kernel_rfl) (by intro c a d v w h; cases d <;> exact h) rfl ⟨y, rfl⟩ (fun z hz => by obtain ⟨y, rfl⟩ := hz; exact exec_load 31 (.tmp 5) _ _ rfl rfl (hLk y)) ?_
  try simp only [Act.put, List.setIfInBounds_toArray, List.set_cons_succ, List.set_cons_zero]
  refine held_pure 6 (v := .string claim) rfl (by kernel_rfl) (by kernel_rfl) (by kernel_rfl) (by intro c a d v w h; cases d <;> exact h) rfl ⟨y, rfl⟩ (fun w => by rfl) ?_
  try simp only [Act.put, List.setIfInBounds_toArray, List.set_cons_succ, List.set_cons_zero]
  refine held_pure 7 (v := .string actor) rfl (by kernel_rfl) (by kernel_rfl) (by kernel_rfl) (by intro c a d v w h; cases d <;> exact h) rfl ⟨y, rfl⟩ (fun w => by rfl) ?_
  try simp only [Act.put, List.setIfInBounds_toArray, List.set_cons_succ, List.set_cons_zero]
  refine held_pure 8 (v := .int .i64 gen) rfl (by kernel_rfl) (by kernel_rfl) (by kernel_rfl) (by intro c a d v w h; cases d <;> exact h) rfl ⟨y, rfl⟩ (fun w => by rfl) ?_
  try simp only [Act.put, List.setIfInBounds_toArray, List.set_cons_succ, List.set_cons_zero]
  refine held_one 4 rfl (by kernel_rfl) rfl (fun K' hK' => ?_)
  go_simp
  refine (hVo y).mono ?_
  rintro e w5 ⟨A5, c5, rfl, -, -, hI5, q5⟩
  obtain ⟨y5, rfl⟩ := y.next q5
  refine hK' _ _ ⟨y5, rfl⟩ ?_
  clear hK' K'
  try simp only [Act.put, List.setIfInBounds_toArray, List.set_cons_succ, List.set_cons_zero]
  refine held_one 9 rfl (by kernel_rfl) rfl (fun K' hK' => ?_)
  go_simp
  refine (hRV y5).mono ?_
  rintro e w6 ⟨A6, c6, rfl, -, -, hI6, q6⟩
  have hI5 := hI5.q q6
  obtain ⟨y6, rfl⟩ := y5.next q6
  refine hK' _ _ ⟨y6, rfl⟩ ?_
  clear hK' K'
  try simp only [Act.put, List.setIfInBounds_toArray, List.set_cons_succ, List.set_cons_zero]
  refine held_one 10 rfl (by kernel_rfl) rfl (fun K' hK' => ?_)
  go_simp
  refine (rsameInts_any A5 A6 c5 c6 L L y6.w (by omega) (by omega) hI5 hI6).mono ?_
  rintro e w7 ⟨rfl, q7⟩
  rw [decide_eq_true (rfl : L = L)]
  obtain ⟨y7, rfl⟩ := y6.next q7
  refine hK' _ _ ⟨y7, rfl⟩ ?_
  clear hK' K'
  try simp only [Act.put, List.setIfInBounds_toArray, List.set_cons_succ, List.set_cons_zero]
  refine held_pure 11 (v := .bool true) rfl (by kernel_rfl) (by kernel_rfl) (by kernel_rfl) (by intro c a d v w h; cases d <;> exact h) rfl ⟨y7, rfl⟩ (fun w => by rfl) ?_
  try simp only [Act.put, List.setIfInBounds_toArray, List.set_cons_succ, List.set_cons_zero]
  refine wpAnyH_done (by kernel_rfl) ?_ _
  have heqd : (od.toList == od.toList) = true := by simp
  go_wp2_with (first | (refine wpList_load_run 37 (.tmp 12) (.pointer (some ⟨g2, 0, none⟩)) (.agg (claimA wc)) ?_ ?_ ?_ ?_ ?_; rfl; kernel_rfl; rfl; exact hL1 _) | (refine wpList_load_run 37 (.tmp 14) (.pointer (some ⟨g3, 0, none⟩)) (.agg (claimA wc)) ?_ ?_ ?_ ?_ ?_; rfl; kernel_rfl; rfl; exact hL2 _) | (go_at_call 11; refine (hQu _).mono ?_; rintro e w' ⟨rfl, hq4⟩; obtain ⟨v9, rfl⟩ := Wd.next _ hq4; clear hq4) | (go_at_call 35; refine (hRQ _).mono ?_; rintro e w' ⟨rfl, hq4⟩; obtain ⟨v10, rfl⟩ := Wd.next _ hq4; clear hq4))
  go_ret
  exact ⟨rfl, Q.trans HQ3.out v10.q⟩
end Go.Proofs.YtflgkplneekpfaaGreatDoor.Vot

namespace Go.Proofs.YtflgkplneekpfaaGreatDoor.ballotTells
open Go.ChangeShapes Go.WideShapes Go.ChangeAt Go.RowKit
open Go.ChangeMaps (open_string)

theorem open_sl {α : Type} {H : Type} {enc : TypeId × Value → H} {P : Program} {W : World} {r : Reach} {b0 base : Nat} {held : Bool} {t e : TypeId} {k : Nat} {f : α → List Value} {G : α → Prop} {v : Value} {d : DataW H} {p : List MemPlace}
    (ht : P.underlying t = some (.slice e)) (hO : Mem.Opens enc P W base (fun _ => true) held t Mem.SliceR.cells (Mem.SliceR.Good W k f G)) (hval : Value.okWide P W r b0 t v) (h : DataW.Trod enc P W base (fun _ => true) held t v d p) :
    ∃ (A : Option Addr) (c : Nat) (l : List α), v = .slice A l.length c ∧ l.length ≤ c ∧ c ≤ maxLen ∧ Mem.RowsAt W A k f l ∧ ∀ a ∈ l, G a := by
  obtain ⟨A, n, c, rfl⟩ := okWide_slice ht hval
  obtain ⟨fuel, hf⟩ := h
  obtain ⟨s, hs, hg⟩ := hO fuel _ _ hf
  simp [Value.cells, Mem.SliceR.cells] at hs
  obtain ⟨rfl, rfl, rfl⟩ := hs
  exact ⟨s.A, s.c, s.l, rfl, hg.le, hg.cap, hg.rows, hg.all⟩

theorem laid_met (os : Os) : laidMet Tryz.prog Rows.ballotTellsRow.laid ((Laid.laidWorld os #[.agg #[.slice none 0 0, .slice none 0 0], .string ⟨#[]⟩, .string ⟨#[]⟩, .int .i64 0, .int .i64 0]).forCall (fun _ _ => 0) ⟨#[], #[.agg #[.slice none 0 0, .slice none 0 0], .string ⟨#[]⟩, .string ⟨#[]⟩, .int .i64 0, .int .i64 0], []⟩).memory :=
  laidMet_of_run' 8 (by kernel_rfl) (by kernel_rfl)
theorem reads (os : Os) {H : Type} (enc : TypeId × Value → H) : ∃ places, DataW.whole enc Tryz.prog ((Laid.laidWorld os #[.agg #[.slice none 0 0, .slice none 0 0], .string ⟨#[]⟩, .string ⟨#[]⟩, .int .i64 0, .int .i64 0]).forCall (fun _ _ => 0) ⟨#[], #[.agg #[.slice none 0 0, .slice none 0 0], .string ⟨#[]⟩, .string ⟨#[]⟩, .int .i64 0, .int .i64 0], []⟩).memory Tryz.f6.params.toList Rows.ballotTellsSpec.vars false #[Value.agg #[.slice none 0 0, .slice none 0 0], .string ⟨#[]⟩, .string ⟨#[]⟩, .int .i64 0, .int .i64 0].toList 8 = some ([.agg [.nil, .nil], .lit (.string []), .lit (.string []), .lit (.int .i64 0), .lit (.int .i64 0)], [], places) :=
  ⟨[], by kernel_rfl⟩

set_option maxRecDepth 100000 in
theorem contract (H : Type) (enc : TypeId × Value → H) (W : World) (base : Nat) (args : Array Value) (ds gs : List (DataW H)) (before : List MemPlace)
    (hval : ∀ (j : Nat) t v, Tryz.f6.params[j]? = some t → args[j]? = some v → Value.okWide Tryz.prog W .any base t v)
    (hW : DataW.Whole enc Tryz.prog Tryz.f6.params.toList Rows.ballotTellsSpec.vars false W args.toList ds gs before) (hL : laidMetH Tryz.prog Rows.ballotTellsRow.laid W) :
    Calls Tryz.prog 6 args W fun e W' => ∃ v, e = .returned v ∧ Rows.ballotTellsSpec.post enc Tryz.prog Tryz.f6 false true false false W args v W' := by
  have hW' := hW
  obtain ⟨p, q, hA0, hV, rfl, hfz, hnd⟩ := hW
  have hA : DataW.TrodAll enc Tryz.prog W 0 (fun _ => true) true Tryz.f6.params.toList args.toList ds p := hA0
  rw [Tryz.params6] at hA hval
  obtain ⟨v0, vs0, d0, ds0, p0, q0, hargs, rfl, rfl, h0, r0⟩ := trodAll_cons hA
  obtain ⟨v1, vs1, d1, ds1, p1, q1, rfl, rfl, rfl, h1, r1⟩ := trodAll_cons r0
  obtain ⟨v2, vs2, d2, ds2, p2, q2, rfl, rfl, rfl, h2, r2⟩ := trodAll_cons r1
  obtain ⟨v3, vs3, d3, ds3, p3, q3, rfl, rfl, rfl, h3, r3⟩ := trodAll_cons r2
  obtain ⟨v4, vs4, d4, ds4, p4, q4, rfl, rfl, rfl, h4, r4⟩ := trodAll_cons r3
  obtain ⟨rfl, rfl, rfl⟩ := trodAll_nil r4
  obtain rfl : args = #[v0, v1, v2, v3, v4] := by cases args; simp_all
  obtain ⟨rfl, rfl⟩ := trodVars_none hV
  obtain ⟨k0, rfl, in0, ok0⟩ := Known.open_kn (hval 0 31 v0 rfl rfl) h0
  obtain ⟨s1, rfl, rfl, rfl, z1⟩ := open_string Tryz.underlying9 (hval 1 9 v1 rfl rfl) h1
  obtain ⟨s2, rfl, rfl, rfl, z2⟩ := open_string Tryz.underlying9 (hval 2 9 v2 rfl rfl) h2
  obtain ⟨a3, rfl, w3⟩ := Laid.open_i64 Tryz.underlying3 (hval 3 3 v3 rfl rfl)
  obtain ⟨a4, rfl, w4⟩ := Laid.open_i64 Tryz.underlying3 (hval 4 3 v4 rfl rfl)
  clear hA0
  refine (Vot.tells_any k0 s1 s2 a3 a4 W (Laid.tab hL) in0 ok0 w4).mono fun e W' ⟨he, hg⟩ => ?_
  subst he
  exact ⟨_, rfl, Post.law_post (tb := 4) Laid.laidOut (by kernel_rfl) (by kernel_rfl) (by kernel_rfl) (by kernel_rfl) Tryz.underlying4 hW' rfl rfl rfl hg⟩

set_option maxRecDepth 100000 in
theorem lifted (os : Os) (started : os.Started) (H : Type) (enc : TypeId × Value → H) (F : Stop.Interp) :
    ReturnsInHanded {} Tryz.checked os 6 .any ((OpenSpec.ofChange Rows.ballotTellsSpec).preRow enc Tryz.prog Tryz.f6 Rows.ballotTellsRow.domain false Rows.ballotTellsRow.laid) (((OpenSpec.ofChange Rows.ballotTellsSpec).at F).post enc Tryz.prog Tryz.f6 false true false false) := by
  obtain ⟨places, hx⟩ := reads os enc
  refine returnsInHanded_of_row (C := Tryz.checked) (s := OpenSpec.ofChange Rows.ballotTellsSpec) Laid.own started (by kernel_rfl) Tryz.func6
    (witness_row_at (enc := enc) (C := Tryz.checked) false (Laid.laidWorld os #[.agg #[.slice none 0 0, .slice none 0 0], .string ⟨#[]⟩, .string ⟨#[]⟩, .int .i64 0, .int .i64 0]) #[.agg #[.slice none 0 0, .slice none 0 0], .string ⟨#[]⟩, .string ⟨#[]⟩, .int .i64 0, .int .i64 0] rfl (by kernel_rfl) (by kernel_rfl) (by kernel_rfl)
      (OpenSpec.preRow_of_cond 8 hx (by kernel_rfl) (fun k hk => by cases hk) (by kernel_rfl) (laid_met os))) ?_
  intro W base args ds gs before hval hW _ _ _ hL _ _
  exact contract H enc W base args ds gs before hval hW hL

theorem c10 : (Rows.ballotTellsRow.inPlace == Tryz.prog.inPlace 6) = true := by kernel_rfl
theorem c11 : (Rows.ballotTellsRow.unfollowed == Tryz.prog.unfollowed 6) = true := by kernel_rfl
theorem c12 : (Rows.ballotTellsRow.recurses == Tryz.prog.recurses 6) = true := by kernel_rfl
theorem c13 : (Rows.ballotTellsRow.named == Tryz.prog.varsNamed 6) = true := by kernel_rfl
theorem closed : joinedFacts Tryz.prog 6 Tryz.f6 (OpenSpec.ofChange Rows.ballotTellsSpec).bare Rows.ballotTellsRow = true := by
  unfold joinedFacts
  rw [c10, c11, c12, c13]
  kernel_rfl
set_option maxRecDepth 100000 in
theorem said : Rows.BallotTellsSaid :=
  OpenClaim.holds_of_cond 6 Tryz.f6 rfl rfl rfl rfl rfl rfl rfl ⟨rfl, rfl, rfl, rfl, rfl⟩ rfl rfl rfl rfl rfl (by kernel_rfl) Tryz.func6 closed
    (of_decide_eq_true (by kernel_rfl)) (by unfold Func.isWrapper; first | (rw [if_pos (by decide +kernel)]; kernel_rfl) | (rw [if_neg (by decide +kernel)]; exact ⟨rfl, rfl⟩))
    (fun os started H enc _ F => by rw [OpenClaim.pre_eq_preRow]; exact lifted os started H enc F)

theorem plain (f : FuncId) (fn : Func) (hf : Tryz.pinned.checked.prog.funcNamed "agora/agoralaw18.BallotTells" = some f) (hfn : Tryz.pinned.checked.prog.funcs[f]? = some fn) :
    false = Tryz.pinned.checked.prog.looks [] ∧ ∀ (j : Nat) t, fn.params[j]? = some t → Tryz.pinned.checked.prog.wantsStandIn t = false := by
  obtain rfl : f = 6 := Option.some.inj ((show Tryz.prog.funcNamed "agora/agoralaw18.BallotTells" = some 6 by kernel_rfl).symm.trans hf) |>.symm
  obtain rfl : fn = Tryz.f6 := (Option.some.inj (Tryz.func6.symm.trans hfn)).symm
  refine ⟨by kernel_rfl, fun j t ht => ?_⟩
  rw [Tryz.params6] at ht
  have hm := Array.mem_of_getElem? ht
  have hall : (#[31, 9, 9, 3, 3] : Array TypeId).all (fun t => !Tryz.prog.wantsStandIn t) = true := by kernel_rfl
  have hb := (Array.all_eq_true_iff_forall_mem.mp hall) t hm
  show Tryz.prog.wantsStandIn t = false
  simpa using hb

theorem proved : Rows.BallotTellsCardSaid :=
  Claim7.holds_tied_plain_at .later [] _ _ _ _ said (fun _ h => by cases h) (by kernel_rfl) (fun _ h => by cases h) ballotTells_row_tie rfl ⟨rfl, rfl⟩ (by kernel_rfl) rfl plain (by kernel_rfl)
#print axioms proved
end Go.Proofs.YtflgkplneekpfaaGreatDoor.ballotTells
