/-
  Known sets in memory; known.New. known.Add. known.Add, at an item that is signed. known.Find and known.Has. known.Has and known.Right. Package code's Int and Nums.
  known.Digest. The law's own function publics. The law's own function filled. The law's own function mixed.
-/
import Derived.Test.YtjfcllanochhmaaGreatDoorIt
import Derived.Test.YtjfcllanochhmaaGreatDoorKnownSpec
import Derived.Deep.Cut
import Derived.Maps.AppendAt
import Derived.Test.YtjfcllanochhmaaGreatDoorOpenItem
import Derived.Test.YtjfcllanochhmaaGreatDoorBld2
set_option linter.unusedVariables false
set_option linter.unusedSimpArgs false
namespace Go.Proofs.YtjfcllanochhmaaGreatDoor.Known
open Go.RowKit Grp Mem _root_.Go.Proofs.YtjfcllanochhmaaGreatDoor.Code Sha Sign _root_.Go.Proofs.YtjfcllanochhmaaGreatDoor.Item

structure KR where
  sv : List Int
  sA : Option Addr
  sC : Nat
  l : List ItemR
  iA : Option Addr
  iC : Nat
def KR.cells (k : KR) : List Value := [.slice k.sA k.sv.length k.sC, .slice k.iA k.l.length k.iC]
def knA (k : KR) : Array Value := k.cells.toArray
def known0 : KR := ⟨[], none, 0, [], none, 0⟩
structure ItemsIn (w : World) (A : Option Addr) (l : List ItemR) : Prop where
  rows : RowsAt w A 49 ItemR.cells l
  each : ∀ x ∈ l, ItemIn w x
theorem ItemsIn.q {w w' : World} {A : Option Addr} {l : List ItemR} (h : ItemsIn w A l) (hq : Q w w') : ItemsIn w' A l := ⟨h.rows.q hq, fun x hx => (h.each x hx).q hq⟩
structure KIn (w : World) (k : KR) : Prop where
  sv : Ints w k.sA k.sv
  items : ItemsIn w k.iA k.l
  svC : k.sv.length ≤ k.sC ∧ k.sC ≤ maxLen
  lC : k.l.length ≤ k.iC ∧ k.iC ≤ maxLen
theorem KIn.q {w w' : World} {k : KR} (h : KIn w k) (hq : Q w w') : KIn w' k := ⟨h.sv.q hq, h.items.q hq, h.svC, h.lC⟩
theorem it_len (x : ItemR) : x.cells.length = 49 := rfl
theorem it_one (x : ItemR) : ∀ v ∈ x.cells, v.oneCell' = true := by
  have := it_all x
  rw [Array.all_eq_true_iff_forall_mem] at this
  intro v hv
  exact this v (by simpa [itA] using hv)
theorem item_info : (Tryz.prog.info? 47).map (fun i => (i.zero, i.size, i.bytes)) = some (some (.agg (itA item0)), 49, 568) := by kernel_rfl
theorem kn_all (k : KR) : k.cells.toArray.all (·.oneCell') = true := by simp [KR.cells, Value.oneCell']

/-- One item is loaded out of a slice. -/
theorem ItemsIn.load {w : World} {A : Option Addr} {l : List ItemR} (h : ItemsIn w A l) (j : Nat) (hj : j < l.length) : ∃ b o, A = some ⟨b, o, none⟩ ∧ b < w.heap.size ∧ ∀ y : Wd w, (Instr.loadAt 47 (.pointer (some ⟨b, o + j * 49, none⟩))).run Tryz.prog y.w = .ok (.agg (itA l[j])) y.w := by
  obtain ⟨b, o, e, hb, hc⟩ := h.rows (by omega)
  exact ⟨b, o, e, hb, Wd.load hb (hc j hj) Tryz.underlying47 rfl (by kernel_rfl)⟩

/-- What slices.Clone hands back of integers. -/
def ClonedInts (l : List Int) (w : World) (e : Ending) (w' : World) : Prop := ∃ A c, e = .returned (.slice A l.length c) ∧ Ints w' A l ∧ (l.length ≤ c ∧ c ≤ maxLen) ∧ Q w w'
theorem ints_owned {w : World} {base : Nat} {v : Value} {l : List Int} (h : w.ownsRow base 3 1 v l.length (l.map (Value.int .i64))) : ∃ A c, v = .slice A l.length c ∧ Ints w A l ∧ (l.length ≤ c ∧ c ≤ maxLen) := by
  have ho := Owns.of h
  obtain ⟨A, c, rfl, h1, h2⟩ := ho.shape
  have hr : RowsAt w A 1 (fun n : Int => [Value.int .i64 n]) l := Owns.rows (fun _ => rfl) (by
    have e : l.flatMap (fun n : Int => [Value.int .i64 n]) = l.map (Value.int .i64) := by
      clear h ho h1 h2
      induction l with
      | nil => rfl
      | cons x l ih => rw [List.flatMap_cons, ih]; rfl
    rw [e]; exact ho) rfl
  exact ⟨A, c, rfl, ints_of hr, h1, h2⟩
theorem clone_any (A : Option Addr) (c : Nat) (l : List Int) (w : World) (hS : Ints w A l) (hl : l.length ≤ 1000000) : Calls Tryz.prog 20 #[.slice A l.length c] w (ClonedInts l w) := by
  by_cases h0 : l.length = 0
  · obtain rfl : l = [] := List.eq_nil_of_length_eq_zero h0
    cases A with
    | none => exact (Tryz.slices_Clone_int_nil 0 c w).mono fun e w' ⟨h1, h2⟩ => ⟨none, 0, h1, fun h => by simp at h, ⟨Nat.le_refl _, Nat.zero_le _⟩, h2 ▸ Q.refl w⟩
    | some a =>
      refine (Tryz.slices_Clone_int_zero a c w).mono fun e w' hh => ?_
      obtain ⟨v', h1, h2, _, h3⟩ := hh
      obtain ⟨A, c', rfl, h4, h5⟩ := ints_owned (l := []) h2
      exact ⟨A, c', h1, h4, h5, h3⟩
  · obtain ⟨b, o, rfl, hb, hc⟩ := hS (by omega)
    refine (Tryz.slices_Clone_int b o l.length c l w (Nat.le_refl _) (by omega) (fun j hj => ?_)).mono fun e w' ⟨v', h1, h2, _, h3⟩ => ?_
    · rw [hc j hj, List.getD_eq_getElem?_getD, List.getElem?_eq_getElem hj]
      rfl
    · rw [List.take_length] at h2
      obtain ⟨A, c', rfl, h4, h5⟩ := ints_owned h2
      exact ⟨A, c', h1, h4, h5, h3⟩
/-- What hands back a known set. -/
def KnownIs (sv : List Int) (l : List ItemR) (w : World) (e : Ending) (w' : World) : Prop := ∃ k : KR, e = .returned (.agg (knA k)) ∧ k.sv = sv ∧ k.l = l ∧ KIn w' k ∧ Q w w'
set_option maxRecDepth 100000 in
set_option maxHeartbeats 1000000 in
theorem new_any (A : Option Addr) (c : Nat) (sv : List Int) (w : World) (hS : Ints w A sv) (hl : sv.length ≤ 1000000) : Calls Tryz.prog 7 #[.slice A sv.length c] w (KnownIs sv [] w) := by
  have hq0 := q_new w known0.cells.toArray 28
  have hb := Blk.new w 28 known0.cells.toArray
  obtain ⟨w1, hw1⟩ : ∃ w1, w1 = w.alloc (.cells known0.cells.toArray 28) := ⟨_, rfl⟩
  rw [← hw1] at hq0 hb
  have hS1 := hS.q hq0
  go_enter Tryz.func7, Tryz.ntmps7
  go_wp2_with fail
  refine (show Calls _ _ _ w1 _ → Calls _ _ _ _ _ from fun h => by rw [hw1] at h; exact h) ?_
  refine (clone_any A c sv w1 hS1 hl).mono ?_
  rintro e w' ⟨A', c', rfl, h1, h2, h3⟩
  have hb3 := hb.q h3
  clear hw1
  go_wp2_with (refine wpList_store_far hb3 rfl 28 (.tmp 2) (.tmp 5) (KR.mk sv A' c' [] none 0).cells rfl rfl rfl (by kernel_rfl) (kn_all _) (Nat.le_refl 2) ?_)
  intro W hW hbel hfar
  rw [splice_all _ _ (by rfl)] at hW
  have hqW : Q w W := hbel _ _ (Nat.le_refl _) (Q.trans hq0 h3)
  have hkW : KIn W (KR.mk sv A' c' [] none 0) := by
    refine ⟨fun h0 => ?_, ⟨RowsAt.nil _ _ _ _, by simp⟩, h2, Nat.le_refl _, Nat.zero_le _⟩
    obtain ⟨b, o, e, hb4, hc⟩ := h1 h0
    have hne : b ≠ w.heap.size := by
      rintro rfl
      have h5 := hc 0 h0
      rw [hb3.cell] at h5
      have h6 := Array.mem_of_getElem? h5
      simp [known0, KR.cells] at h6
    have e1 := hfar b hne
    refine ⟨b, o, e, ?_, fun j hj => (World.cell?_of_block (w := w') e1).trans (hc j hj)⟩
    rcases Nat.lt_or_ge b W.heap.size with h7 | h7
    · exact h7
    · rw [Array.getElem?_eq_none h7] at e1
      rw [Array.getElem?_eq_getElem hb4] at e1
      cases e1
  go_wp2_with fail
  exact bodyPost_ret (results_cell_row rfl _ _ w.heap.size 28 (knA (KR.mk sv A' c' [] none 0)) (0, 0) _ rfl hW Tryz.underlying28 rfl (by kernel_rfl)) rfl ⟨_, rfl, rfl, rfl, hkW, hqW⟩
end Go.Proofs.YtjfcllanochhmaaGreatDoor.Known

namespace Go.Proofs.YtjfcllanochhmaaGreatDoor.Known
open Go.RowKit Grp Mem _root_.Go.Proofs.YtjfcllanochhmaaGreatDoor.Code Sha Sign _root_.Go.Proofs.YtjfcllanochhmaaGreatDoor.Item

theorem results_row_tmp {P : Program} {fn : Func} {p u : Tmp} {ty : TypeId} (h : fn.results = #[.cell p ty, .tmp u]) (tmps : Array Value) (w : World) (g : Nat) (t : TypeId) (cs : Array Value) (fr : Nat × Nat) (d : TypeDesc) (v : Value)
    (hp : tmps.getD p undef = .pointer (some ⟨g, 0, none⟩)) (hv : tmps.getD u undef = v) (hg : w.heap[g]? = some (.cells cs t fr))
    (hu : P.underlying ty = some d) (hd : (match d with | .struct _ | .array _ _ => true | _ => false) = true) (hi : (P.info? ty).map (·.size) = some cs.size) :
    (results fn tmps).run P w = .ok (.tuple #[.agg cs, v]) w := by
  have hp' : tmps[p]?.getD undef = .pointer (some ⟨g, 0, none⟩) := by simpa using hp
  have hv' : tmps[u]?.getD undef = v := by simpa using hv
  simp [results, h, hp', hv', asAddr, run_loadVar_row w g t ty cs fr d hg hu hd hi]

/-- At the head of a function that takes a known set and an item, and hands a known set back. -/
structure AddCtx (w w3 : World) (k : KR) (x : ItemR) : Prop where
  q : Q w w3
  bk : Blk w3 w.heap.size 28 k.cells.toArray
  bi : Blk w3 (w.heap.size + 1) 47 x.cells.toArray
  br : Blk w3 (w.heap.size + 1 + 1) 28 known0.cells.toArray
theorem AddCtx.new (w : World) (k : KR) (x : ItemR) : ∃ w3, AddCtx w w3 k x ∧ w3 = (((w.alloc (.cells (knA k) 28)).alloc (.cells (itA x) 47)).alloc (.cells (knA known0) 28)) := by
  have h1 := Blk.new w 28 (knA k)
  have q1 := q_new w (knA k) 28
  have h2 := Blk.new' (g := w.heap.size + 1) (w.alloc (.cells (knA k) 28)) 47 (itA x) (by simp)
  have q2 := q_new (w.alloc (.cells (knA k) 28)) (itA x) 47
  have h3 := Blk.new' (g := w.heap.size + 1 + 1) ((w.alloc (.cells (knA k) 28)).alloc (.cells (itA x) 47)) 28 (knA known0) (by simp)
  have q3 := q_new ((w.alloc (.cells (knA k) 28)).alloc (.cells (itA x) 47)) (knA known0) 28
  exact ⟨_, ⟨Q.trans (Q.trans q1 q2) q3, (h1.q q2).q q3, h2.q q3, h3⟩, rfl⟩
def AddIs (k : KR) (x : ItemR) (w : World) (e : Ending) (w' : World) : Prop := ∃ k' : KR, e = .returned (.tuple #[.agg (knA k'), .bool (addOk k.sv k.l x)]) ∧ k'.sv = k.sv ∧ k'.l = addK k.sv k.l x ∧ KIn w' k' ∧ Q w w'
theorem right_at (x : ItemR) (r : Bool) (w : World) (hI : ItemIn w x) (h : itemRight x = r) : Calls Tryz.prog 31 #[.agg (itA x)] w fun e w' => e = .returned (.bool r) ∧ Q w w' := h ▸ itemRight_any x w hI
theorem signed_at (A : Option Addr) (n c : Nat) (sv : List Int) (x : ItemR) (r : Bool) (w : World) (hT : Tab w) (hI : ItemIn w x) (hS : Ints w A sv) (hsl : sv.length ≤ maxLen) (hn : n = sv.length) (h : signedB sv x = r) : Calls Tryz.prog 35 #[.slice A n c, .agg (itA x)] w fun e w' => e = .returned (.bool r) ∧ Q w w' := by
  subst hn
  exact h ▸ signed_any A c sv x w hT hI hS hsl
set_option maxRecDepth 100000 in
set_option maxHeartbeats 2000000 in
theorem add_no (k : KR) (x : ItemR) (w : World) (hT : Tab w) (hK : KIn w k) (hI : ItemIn w x) (h : signedB k.sv x = false) : Calls Tryz.prog 11 #[.agg (knA k), .agg (itA x)] w (AddIs k x w) := by
  obtain ⟨w3, hC, hw3⟩ := AddCtx.new w k x
  have cS : ∀ y : Wd w3, y.w.cell? ⟨w.heap.size, 0, none⟩ = some (.slice k.sA k.sv.length k.sC) := fun y => (y.blk hC.bk).cell 0
  have cI : ∀ y : Wd w3, y.w.cell? ⟨w.heap.size, 1, none⟩ = some (.slice k.iA k.l.length k.iC) := fun y => (y.blk hC.bk).cell 1
  have hIt : ∀ y : Wd w3, (Instr.loadAt 47 (.pointer (some ⟨w.heap.size + 1, 0, none⟩))).run Tryz.prog y.w = .ok (.agg (itA x)) y.w := Wd.load hC.bi.lt (Blk.range hC.bi) Tryz.underlying47 rfl (by kernel_rfl)
  have hLk : ∀ y : Wd w3, (Instr.loadAt 28 (.pointer (some ⟨w.heap.size, 0, none⟩))).run Tryz.prog y.w = .ok (.agg (knA k)) y.w := Wd.load hC.bk.lt (Blk.range hC.bk) Tryz.underlying28 rfl (by kernel_rfl)
  have hBr : ∀ y : Wd w3, Blk y.w (w.heap.size + 1 + 1) 28 known0.cells.toArray := fun y => y.blk hC.br
  have hKy : ∀ y : Wd w3, KIn y.w k := fun y => hK.q (Q.trans hC.q y.q)
  have hIy : ∀ y : Wd w3, ItemIn y.w x := fun y => hI.q (Q.trans hC.q y.q)
  have hTy : ∀ y : Wd w3, Tab y.w := fun y => hT.q (Q.trans hC.q y.q)
  have HQ := Lib.hid hC.q
  obtain ⟨u, hu⟩ : ∃ u : Wd w3, u.w = w3 := ⟨⟨w3, Q.refl _⟩, rfl⟩
  have HX := Lib.hid (hu.trans hw3)
  have hok : addOk k.sv k.l x = false := by unfold addOk; rw [h]; rfl
  have HOK := Lib.hid hok
  have HL := Lib.hid (show addK k.sv k.l x = k.l by unfold addK; rw [hok]; rfl)
  have hsl : k.sv.length ≤ maxLen := Nat.le_trans hK.svC.1 hK.svC.2
  clear hu hw3 hC hok
  cases hr : itemRight x
  all_goals
    have HR := Lib.hid hr
    clear hr
    go_enter Tryz.func11, Tryz.ntmps11
    go_upto_region 1 with (fail)
    refine (show Code.wp _ _ _ _ u.w → Code.wp _ _ _ _ _ from fun h => by rw [HX.out] at h; exact h) ?_
    go_wp2_with (first | (refine wpList_load_run 47 (.tmp 3) (.pointer (some ⟨w.heap.size + 1, 0, none⟩)) (.agg (itA x)) ?_ ?_ ?_ ?_ ?_; rfl; rfl; rfl; exact hIt _) | (go_at_call 31; refine (right_at x _ _ (hIy _) HR.out).mono ?_; rintro e w' ⟨rfl, hq2⟩; obtain ⟨y, rfl⟩ := Wd.next _ hq2; clear hq2) | (go_at_call 35; refine (signed_at _ _ _ k.sv x _ _ (hTy _) (hIy _) (hKy _).sv hsl rfl h).mono ?_; rintro e w' ⟨rfl, hq2⟩; obtain ⟨y, rfl⟩ := Wd.next _ hq2; clear hq2) | (refine wpList_store_far (hBr _) rfl 28 (.tmp 4) (.tmp 22) k.cells rfl rfl rfl (by kernel_rfl) (kn_all _) (Nat.le_refl 2) ?_))
    intro W hW hbel hfar
    rw [splice_all _ _ (by rfl)] at hW
    have hqW : Q w W := hbel _ _ (by omega) (Q.trans HQ.out (Wd.q _))
    clear hbel hfar
    go_wp2_with fail
    exact bodyPost_ret (results_row_tmp rfl _ _ (w.heap.size + 1 + 1) 28 (knA k) (0, 0) _ _ rfl rfl hW Tryz.underlying28 rfl (by kernel_rfl)) rfl ⟨k, by rw [HOK.out]; rfl, rfl, HL.out.symm, hK.q hqW, hqW⟩
end Go.Proofs.YtjfcllanochhmaaGreatDoor.Known

namespace Go.Proofs.YtjfcllanochhmaaGreatDoor.Known
open Go.RowKit Grp Mem _root_.Go.Proofs.YtjfcllanochhmaaGreatDoor.Code Sha Sign _root_.Go.Proofs.YtjfcllanochhmaaGreatDoor.Item

theorem take_len_lt {α : Type} (p : α → Bool) : ∀ (l : List α) (j : Nat) (h : j < l.length), j < (l.takeWhile p).length → p l[j] = true
  | [], j, h, _ => by simp at h
  | a :: l, j, h, hj => by
    rw [List.takeWhile_cons] at hj
    cases hp : p a
    · rw [hp] at hj; simp at hj
    · cases j with
      | zero => exact hp
      | succ j =>
        rw [hp, if_pos rfl, List.length_cons] at hj
        exact take_len_lt p l j (by simpa using h) (by omega)
theorem take_len_eq {α : Type} (p : α → Bool) : ∀ (l : List α) (j : Nat) (h : j < l.length), (l.takeWhile p).length = j → p l[j] = false
  | [], j, h, _ => by simp at h
  | a :: l, j, h, hj => by
    rw [List.takeWhile_cons] at hj
    cases hp : p a
    · rw [hp] at hj
      simp at hj
      subst hj
      exact hp
    · rw [hp, if_pos rfl, List.length_cons] at hj
      cases j with
      | zero => omega
      | succ j => exact take_len_eq p l j (by simpa using h) (by omega)
theorem digs_get (l : List ItemR) (j : Nat) (h : j < l.length) : (digs l)[j]'(by simpa [digs] using h) = digOf l[j] := by simp [digs]
theorem cut_le (d : ByteArray) (l : List ItemR) : cutK d (digs l) ≤ l.length := by
  unfold cutK
  have := (List.takeWhile_prefix (p := fun o => !lessB d o) (l := digs l)).length_le
  simpa [digs] using this
/-- Where the item goes, as far as the first j digests tell. -/
def atAt (d : ByteArray) (l : List ItemR) (j : Nat) : Nat := if cutK d (digs l) < j then cutK d (digs l) else l.length
theorem atAt_zero (d : ByteArray) (l : List ItemR) : atAt d l 0 = l.length := by simp [atAt]
theorem atAt_all (d : ByteArray) (l : List ItemR) : atAt d l l.length = cutK d (digs l) := by
  unfold atAt
  have := cut_le d l
  split <;> omega
theorem atAt_keep (d : ByteArray) (l : List ItemR) (j : Nat) (h : j < l.length) (hl : lessB d (digOf l[j]) = false) : atAt d l (j + 1) = atAt d l j := by
  have hne : cutK d (digs l) ≠ j := fun e => by
    have := take_len_eq (fun o => !lessB d o) (digs l) j (by simpa [digs] using h) e
    rw [digs_get l j h, hl] at this
    cases this
  unfold atAt
  split <;> split <;> omega
theorem atAt_new (d : ByteArray) (l : List ItemR) (j : Nat) (h : j < l.length) (hl : lessB d (digOf l[j]) = true) (ha : atAt d l j = l.length) : atAt d l (j + 1) = j := by
  have hle : ¬ j < cutK d (digs l) := fun e => by
    have := take_len_lt (fun o => !lessB d o) (digs l) j (by simpa [digs] using h) e
    rw [digs_get l j h, hl] at this
    cases this
  have := cut_le d l
  unfold atAt at ha ⊢
  split at ha
  · omega
  · rw [if_pos (by omega)]; omega
theorem atAt_old (d : ByteArray) (l : List ItemR) (j : Nat) (h : j < l.length) (ha : atAt d l j ≠ l.length) : atAt d l (j + 1) = atAt d l j := by
  unfold atAt at ha ⊢
  split at ha
  · rw [if_pos (by omega), if_pos (by assumption)]
  · exact absurd rfl ha
theorem atAt_le (d : ByteArray) (l : List ItemR) (j : Nat) : atAt d l j ≤ l.length := by
  have := cut_le d l
  unfold atAt
  split <;> omega
theorem hasD_take (l : List ItemR) (d : ByteArray) (j : Nat) (h : j < l.length) (h0 : hasD (l.take j) d = false) (hne : digOf l[j] ≠ d) : hasD (l.take (j + 1)) d = false := by
  rw [hasD_false] at h0 ⊢
  unfold digs at h0 ⊢
  rw [List.take_succ_eq_append_getElem h, List.map_append, List.mem_append]
  rintro (h1 | h1)
  · exact h0 h1
  · simp at h1
    exact hne h1.symm
theorem rows_sliced {α : Type} {f : α → List Value} {n : Nat} {w : World} {A : Option Addr} {l : List α} (h : RowsAt w A n f l) (c cap : Nat) (hcap : l.length ≤ cap) : RowsAt w (if cap = c then A else A.map (·.add (c * n))) n f (l.drop c) := fun h0 => by
  rw [List.length_drop] at h0
  obtain ⟨b, o, rfl, hb, hc⟩ := h (by omega)
  rw [if_neg (by omega)]
  refine ⟨b, o + c * n, by rw [Option.map_some, Addr.add_mid], hb, fun j hj => ?_⟩
  rw [List.length_drop] at hj
  have h2 := hc (c + j) (by omega)
  rw [List.getElem_drop]
  rw [Nat.add_assoc, ← Nat.add_mul]
  exact h2
theorem RowsAt_far {α : Type} {f : α → List Value} {n : Nat} {w w' : World} {A : Option Addr} {l : List α} (h : RowsAt w A n f l) (hb : ∀ b o, A = some ⟨b, o, none⟩ → w'.heap[b]? = w.heap[b]?) : RowsAt w' A n f l := fun h0 => by
  obtain ⟨b, o, e, hlt, hc⟩ := h h0
  have e1 := hb b o e
  refine ⟨b, o, e, ?_, fun j hj i v hv => (World.cell?_of_block (w := w) e1).trans (hc j hj i v hv)⟩
  rcases Nat.lt_or_ge b w'.heap.size with h7 | h7
  · exact h7
  · rw [Array.getElem?_eq_none h7, Array.getElem?_eq_getElem hlt] at e1
    cases e1
theorem wpList_slice_from {P : Program} {ops : Array Oper} {rest : List Oper} {op : Oper} {a : Act} {w : World} {K : Exit → Act → World → Prop} (ty e : TypeId) (x lo : Operand) (A : Option Addr) (n cap c size : Nat) (ho : op.op = .slice ty x (some lo) none none) (hw : Region.wanted op (yielded ops a.tmps) = true)
    (ht : P.underlying ty = some (.slice e)) (he : P.elem ty = e) (hs : ∀ w, (sizeOf e).run P w = .ok size w) (hx : a.eval x = .slice A n cap) (hl : a.eval lo = .int .i64 (c : Int)) (hc : c ≤ n) (hn : n ≤ cap)
    (h : wpList P ops K rest (a.put op.dst (.slice (if cap = c then A else A.map (·.add (c * size))) (n - c) (cap - c))) w) : wpList P ops K (op :: rest) a w := by
  refine wpList_step fun K' hK => ?_
  rw [if_pos hw]
  have ht' : P.underlying ty = some (.slice (P.elem ty)) := by rw [he]; exact ht
  have hr := run_slice_l (P := P) w ty A n cap ht' .i64 (c : Int) (by omega) (by omega)
  rw [he, hs] at hr
  unfold Oper.wp execOp
  simp only [ho, hx, hl, Option.map_some, Option.map_none, Sem.run_bind, run_sliceAt_slice (P := P) w ty _ _ _ _ ht', hr, Result.andThen_ok, Sem.run_pure, sliced, Int.toNat_natCast]
  exact hK _ _ h
theorem wpList_slice_rows {α : Type} {f : α → List Value} {P : Program} {ops : Array Oper} {rest : List Oper} {op : Oper} {a : Act} {w : World} {K : Exit → Act → World → Prop} (ty e : TypeId) (x lo : Operand) (A : Option Addr) (cap c size : Nat) (l : List α) (ho : op.op = .slice ty x (some lo) none none) (hw : Region.wanted op (yielded ops a.tmps) = true)
    (ht : P.underlying ty = some (.slice e)) (he : P.elem ty = e) (hs : ∀ w, (sizeOf e).run P w = .ok size w) (hx : a.eval x = .slice A l.length cap) (hl : a.eval lo = .int .i64 (c : Int)) (hc : c ≤ l.length) (hn : l.length ≤ cap) (hS : RowsAt w A size f l)
    (h : ∀ A', RowsAt w A' size f (l.drop c) → wpList P ops K rest (a.put op.dst (.slice A' (l.length - c) (cap - c))) w) : wpList P ops K (op :: rest) a w :=
  wpList_slice_from ty e x lo A l.length cap c size ho hw ht he hs hx hl hc hn (h _ (rows_sliced hS c cap hn))
set_option maxRecDepth 100000 in
theorem bs_item (x : ItemR) (w : World) : (Instr.buildSlice 26 1 #[(0, .agg (itA x))]).run Tryz.prog w = .ok (.slice (some ⟨w.heap.size, 0, none⟩) 1 1) (w.alloc (.cells (itA x) 47)) := by kernel_rfl
theorem hasD_at (l : List ItemR) (d : ByteArray) (j : Nat) (h : j < l.length) (he : digOf l[j] = d) : hasD l d = true := by
  rw [hasD_iff]
  exact List.mem_map.2 ⟨l[j], List.getElem_mem h, he⟩

set_option maxRecDepth 100000 in
set_option maxHeartbeats 1000000 in
theorem add_yes (k : KR) (x : ItemR) (w : World) (hT : Tab w) (hK : KIn w k) (hI : ItemIn w x) (hn : k.l.length ≤ 100000) (h : signedB k.sv x = true) : Calls Tryz.prog 11 #[.agg (knA k), .agg (itA x)] w (AddIs k x w) := by
  obtain ⟨w3, hC, hw3⟩ := AddCtx.new w k x
  have cS : ∀ y : Wd w3, y.w.cell? ⟨w.heap.size, 0, none⟩ = some (.slice k.sA k.sv.length k.sC) := fun y => (y.blk hC.bk).cell 0
  have cI : ∀ y : Wd w3, y.w.cell? ⟨w.heap.size, 1, none⟩ = some (.slice k.iA k.l.length k.iC) := fun y => (y.blk hC.bk).cell 1
  have hIt : ∀ y : Wd w3, (Instr.loadAt 47 (.pointer (some ⟨w.heap.size + 1, 0, none⟩))).run Tryz.prog y.w = .ok (.agg (itA x)) y.w := Wd.load hC.bi.lt (Blk.range hC.bi) Tryz.underlying47 rfl (by kernel_rfl)
  have hLk : ∀ y : Wd w3, (Instr.loadAt 28 (.pointer (some ⟨w.heap.size, 0, none⟩))).run Tryz.prog y.w = .ok (.agg (knA k)) y.w := Wd.load hC.bk.lt (Blk.range hC.bk) Tryz.underlying28 rfl (by kernel_rfl)
  have hBr : ∀ y : Wd w3, Blk y.w (w.heap.size + 1 + 1) 28 known0.cells.toArray := fun y => y.blk hC.br
  have hKy : ∀ y : Wd w3, KIn y.w k := fun y => hK.q (Q.trans hC.q y.q)
  have hIy : ∀ y : Wd w3, ItemIn y.w x := fun y => hI.q (Q.trans hC.q y.q)
  have hTy : ∀ y : Wd w3, Tab y.w := fun y => hT.q (Q.trans hC.q y.q)
  have HQ := Lib.hid hC.q
  have hg3' := hC.br.lt
  obtain ⟨u, hu⟩ : ∃ u : Wd w3, u.w = w3 := ⟨⟨w3, Q.refl _⟩, rfl⟩
  have HX := Lib.hid (hu.trans hw3)
  have hsl : k.sv.length ≤ maxLen := Nat.le_trans hK.svC.1 hK.svC.2
  clear hu hw3 hC
  generalize hD : digOf x = d
  have HD := Lib.hid hD
  clear hD
  go_enter Tryz.func11, Tryz.ntmps11
  go_upto_region 1 with (fail)
  refine (show Code.wp _ _ _ _ u.w → Code.wp _ _ _ _ _ from fun h => by rw [HX.out] at h; exact h) ?_
  have HR : Hid (itemRight x = true) := Lib.hid (by unfold signedB at h; rw [Bool.and_eq_true] at h; exact h.1)
  have hdg : ∀ y : Wd w3, Calls Tryz.prog 17 #[.agg (itA x)] y.w fun e w' => e = .returned (.string d) ∧ Q y.w w' := fun y => HD.out ▸ digest_any x y.w (hTy y) (hIy y)
  go_wp2_with (first | (refine wpList_load_run 47 (.tmp 3) (.pointer (some ⟨w.heap.size + 1, 0, none⟩)) (.agg (itA x)) ?_ ?_ ?_ ?_ ?_; rfl; rfl; rfl; exact hIt _) | (go_at_call 31; refine (right_at x _ _ (hIy _) HR.out).mono ?_; rintro e w' ⟨rfl, hq2⟩; obtain ⟨y, rfl⟩ := Wd.next _ hq2; clear hq2) | (go_at_call 35; refine (signed_at _ _ _ k.sv x _ _ (hTy _) (hIy _) (hKy _).sv hsl rfl h).mono ?_; rintro e w' ⟨rfl, hq2⟩; obtain ⟨y, rfl⟩ := Wd.next _ hq2; clear hq2) | (go_at_call 17; refine (hdg _).mono ?_; rintro e w' ⟨rfl, hq2⟩; obtain ⟨y, rfl⟩ := Wd.next _ hq2; clear hq2))
  go_loopw [7, 31] (fun a i wr => ∃ (j : Nat) (z : Wd w3), a = .int .i64 (atAt d k.l j : Nat) ∧ i = .int .i64 j ∧ wr = z.w ∧ j ≤ k.l.length ∧ Hid (hasD (k.l.take j) d = false)) (fun _ i _ => k.l.length - (intOf i).toNat)
  case atStart => exact ⟨0, _, by rw [atAt_zero], rfl, rfl, Nat.zero_le _, Lib.hid (by simp [hasD, digs])⟩
  case round =>
    obtain ⟨j, z, rfl, rfl, rfl, hj, hno⟩ := hrel
    have ha := atAt_le d k.l j
    by_cases hlt : j < k.l.length
    · obtain ⟨b, o, eA, hb, hld⟩ := (hKy z).items.load j hlt
      have hio := fun y : Wd z.w => ((hKy z).items.each _ (List.getElem_mem hlt)).q y.q
      rw [eA]
      have hTz : ∀ y : Wd z.w, Tab y.w := fun y => hTy ⟨y.w, Q.trans z.q y.q⟩
      have hzs := z.q.size
      generalize hX : k.l[j] = it at *
      have HXX := Lib.hid hX
      clear hX
      go_wp2_with (first | (refine wpList_load_run 47 (.tmp 34) (.pointer (some ⟨b, o + j * 49, none⟩)) (.agg (itA it)) ?_ ?_ ?_ ?_ ?_; rfl; rfl; rfl; exact hld ⟨_, Q.refl _⟩) | (refine wpList_store_blk (Blk.new z.w 47 item0.cells.toArray) rfl 47 (.tmp 9) (.tmp 35) it.cells rfl rfl rfl (by kernel_rfl) (it_all _) (Nat.le_refl 49) ?_))
      intro W hW hbel
      rw [splice_all _ _ (by rfl)] at hW
      have hqz : Q z.w W := hbel _ _ (Nat.le_refl _) (q_new _ _ _)
      have hq3 : Q w3 W := Q.trans z.q hqz
      have hLi : ∀ y : Wd W, (Instr.loadAt 47 (.pointer (some ⟨z.w.heap.size, 0, none⟩))).run Tryz.prog y.w = .ok (.agg (itA it)) y.w := Wd.load hW.lt (Blk.range hW) Tryz.underlying47 rfl (by kernel_rfl)
      have cI' : ∀ y : Wd W, y.w.cell? ⟨w.heap.size, 1, none⟩ = some (.slice (some ⟨b, o, none⟩) k.l.length k.iC) := fun y => eA ▸ cI ⟨y.w, Q.trans hq3 y.q⟩
      have hLk' : ∀ y : Wd W, (Instr.loadAt 28 (.pointer (some ⟨w.heap.size, 0, none⟩))).run Tryz.prog y.w = .ok (.agg (knA k)) y.w := fun y => hLk ⟨y.w, Q.trans hq3 y.q⟩
      have hBr' : ∀ y : Wd W, Blk y.w (w.heap.size + 1 + 1) 28 known0.cells.toArray := fun y => hBr ⟨y.w, Q.trans hq3 y.q⟩
      have hdg2 : ∀ y : Wd W, Calls Tryz.prog 17 #[.agg (itA it)] y.w fun e w' => e = .returned (.string (digOf it)) ∧ Q y.w w' := fun y => digest_any it y.w ((hTz ⟨W, hqz⟩).q y.q) (hio ⟨y.w, Q.trans hqz y.q⟩)
      have HQ3 := Lib.hid hq3
      obtain ⟨v, hv⟩ := Wd.first W
      rw [hv]
      clear hW hbel hld hv hqz hq3 hio hTz
      generalize hd2 : digOf it = d2 at *
      have HD2 := Lib.hid hd2
      clear hd2 cI hLk hBr hdg cS hIt
      by_cases he : d2 = d
      · have he1 : (d2.toList == d.toList) = true := by simp [he]
        have HE := Lib.hid he
        clear he
        go_wp2_with (first | (refine wpList_load_run 47 (.tmp 9) (.pointer (some ⟨z.w.heap.size, 0, none⟩)) (.agg (itA it)) ?_ ?_ ?_ ?_ ?_; rfl; rfl; rfl; exact hLi _) | (go_at_call 17; refine (hdg2 _).mono ?_; rintro e w' ⟨rfl, hq2⟩; obtain ⟨y, rfl⟩ := Wd.next _ hq2; clear hq2) | (refine wpList_load_run 28 (.tmp 2) (.pointer (some ⟨w.heap.size, 0, none⟩)) (.agg (knA k)) ?_ ?_ ?_ ?_ ?_; rfl; rfl; rfl; exact hLk' _) | (refine wpList_store_far (hBr' _) rfl 28 (.tmp 4) (.tmp 41) k.cells rfl rfl rfl (by kernel_rfl) (kn_all _) (Nat.le_refl 2) ?_))
        intro W2 hW2 hbel2 hfar2
        rw [splice_all _ _ (by rfl)] at hW2
        have hqW : Q w W2 := hbel2 _ _ (by omega) (Q.trans (Q.trans HQ.out HQ3.out) (Wd.q _))
        have hhas : hasD k.l (digOf x) = true := by rw [HD.out]; exact hasD_at k.l d j hlt (by rw [HXX.out, HD2.out]; exact HE.out)
        have hok : addOk k.sv k.l x = false := by unfold addOk; rw [hhas]; simp
        have HOK := Lib.hid hok
        have HL := Lib.hid (show addK k.sv k.l x = k.l by unfold addK; rw [hok]; rfl)
        clear hbel2 hfar2 hhas hok
        go_wp2_with fail
        exact bodyPost_ret (results_row_tmp rfl _ _ (w.heap.size + 1 + 1) 28 (knA k) (0, 0) _ _ rfl rfl hW2 Tryz.underlying28 rfl (by kernel_rfl)) rfl ⟨k, by rw [HOK.out]; rfl, rfl, HL.out.symm, hK.q hqW, hqW⟩
      · have he1 : (d2.toList == d.toList) = false := by
          rw [beq_eq_false_iff_ne]
          intro e
          rw [ByteArray.toList_eq, ByteArray.toList_eq] at e
          exact he (ba_ext e)
        have HNE := Lib.hid he
        clear he
        cases hls0 : lessB d2 d
        rotate_left
        · have hls : lessB d d2 = false := lessB_asymm hls0
          have hls' : Op.bytesLess d2.toList d.toList = true := hls0
          have HA := Lib.hid (atAt_keep d k.l j hlt (by rw [HXX.out, HD2.out]; exact hls))
          clear hls hls0
          go_wp2_with (first | (refine wpList_load_run 47 (.tmp 9) (.pointer (some ⟨z.w.heap.size, 0, none⟩)) (.agg (itA it)) ?_ ?_ ?_ ?_ ?_; rfl; rfl; rfl; exact hLi _) | (go_at_call 17; refine (hdg2 _).mono ?_; rintro e w' ⟨rfl, hq2⟩; obtain ⟨y, rfl⟩ := Wd.next _ hq2; clear hq2))
          exact ⟨⟨j + 1, ⟨_, Q.trans HQ3.out y.q⟩, by rw [HA.out], by go_num, rfl, by omega, Lib.hid (hasD_take k.l d j hlt hno.out (by rw [HXX.out, HD2.out]; exact HNE.out))⟩, by simp only [intOf]; omega⟩
        · have hls : lessB d d2 = true := by
            rcases lessB_three d d2 with h3 | h3 | h3
            · exact h3
            · exact absurd h3.symm HNE.out
            · rw [hls0] at h3; cases h3
          have hls' : Op.bytesLess d2.toList d.toList = false := hls0
          have hlr : lessB d (digOf k.l[j]) = true := by rw [HXX.out, HD2.out]; exact hls
          by_cases ha2 : atAt d k.l j = k.l.length
          · have HA := Lib.hid (atAt_new d k.l j hlt hlr ha2)
            have ha3 : (((atAt d k.l j : Nat) : Int) == (k.l.length : Int)) = true := by simp [ha2]
            clear hls hls0 ha2 hlr
            go_wp2_with (first | (refine wpList_load_run 47 (.tmp 9) (.pointer (some ⟨z.w.heap.size, 0, none⟩)) (.agg (itA it)) ?_ ?_ ?_ ?_ ?_; rfl; rfl; rfl; exact hLi _) | (go_at_call 17; refine (hdg2 _).mono ?_; rintro e w' ⟨rfl, hq2⟩; obtain ⟨y, rfl⟩ := Wd.next _ hq2; clear hq2))
            exact ⟨⟨j + 1, ⟨_, Q.trans HQ3.out y.q⟩, by rw [HA.out], by go_num, rfl, by omega, Lib.hid (hasD_take k.l d j hlt hno.out (by rw [HXX.out, HD2.out]; exact HNE.out))⟩, by simp only [intOf]; omega⟩
          · have HA := Lib.hid (atAt_old d k.l j hlt ha2)
            have ha3 : (((atAt d k.l j : Nat) : Int) == (k.l.length : Int)) = false := by rw [beq_eq_false_iff_ne]; omega
            clear hls hls0 ha2 hlr
            go_wp2_with (first | (refine wpList_load_run 47 (.tmp 9) (.pointer (some ⟨z.w.heap.size, 0, none⟩)) (.agg (itA it)) ?_ ?_ ?_ ?_ ?_; rfl; rfl; rfl; exact hLi _) | (go_at_call 17; refine (hdg2 _).mono ?_; rintro e w' ⟨rfl, hq2⟩; obtain ⟨y, rfl⟩ := Wd.next _ hq2; clear hq2))
            exact ⟨⟨j + 1, ⟨_, Q.trans HQ3.out y.q⟩, by rw [HA.out], by go_num, rfl, by omega, Lib.hid (hasD_take k.l d j hlt hno.out (by rw [HXX.out, HD2.out]; exact HNE.out))⟩, by simp only [intOf]; omega⟩
    · have hjn : j = k.l.length := by omega
      have hno' := hno.out
      rw [hjn, List.take_length] at hno'
      have hat : atAt d k.l j = cutK d (digs k.l) := by rw [hjn]; exact atAt_all d k.l
      have hcl := cut_le d k.l
      have HJ := Lib.hid hjn
      clear hjn
      generalize hc : cutK d (digs k.l) = c at *
      rw [hat]
      have HC := Lib.hid hc
      have HNO := Lib.hid hno'
      clear hc hat hno' ha hno
      obtain ⟨i0, hi, hz0, hz1, hz2⟩ := info_parts item_info
      have hKz := hKy z
      have hlc := hKz.lC
      have hnn : k.l.length ≤ j := by omega
      go_wp2_with (refine wpList_make_own _ rfl _ _ 26 rfl w3.heap.size 47 i0 _ 49 Tryz.underlying26 hi hz0 hz1 .i64 .i64 ((k.l.length : Int) + 1) (k.l.length + 1) rfl rfl (by omega) (by rw [hz2]; omega) (by simp only [maxLen]; omega) z.q.size ?_)
      intro w4 hown0 hg0
      have hown : Owns w4 w3.heap.size 47 49 (.slice (some ⟨z.w.heap.size, 0, none⟩) 0 (k.l.length + 1)) 0 (([] : List ItemR).flatMap ItemR.cells) := Owns.of hown0
      have hq4 : Q w3 w4 := Below.grown z.q hg0 z.q.size (fun _ h => by cases h)
      obtain ⟨y4, rfl⟩ : ∃ y4 : Wd w3, w4 = y4.w := ⟨⟨w4, hq4⟩, rfl⟩
      have hci : c ≤ k.iC := Nat.le_trans hcl hlc.1
      have hcm : k.iC ≤ 9223372036854775807 := by have := hlc.2; simp only [maxLen] at this; omega
      clear hown0 hg0 hq4
      go_wp2_with (at_builtin; refine wpList_append_rows it_len it_one rfl (.tmp 59) (.tmp 63) 26 47 i0 _ 568 rfl Tryz.underlying26 hi hz0 hz1 hz2 rfl (by decide) (by decide) w3.heap.size _ 0 [] rfl hown k.iA c k.iC (k.l.take c) rfl ((hKy y4).items.rows.take c) (by rw [List.length_take]; omega) (by omega) y4.q.size ?_)
      intro A5 cap5 w5 hc5 hm5 hown5 hg5
      have hq5 : Q w3 w5 := q_grown y4.q (Nat.le_refl _) hown hg5
      obtain ⟨y5, rfl⟩ : ∃ y5 : Wd w3, w5 = y5.w := ⟨⟨w5, hq5⟩, rfl⟩
      clear hown hg5 hq5
      go_upto_region 16 with (fail)
      refine wp_region_lit ?_
      refine wpList_move (.tmp 11) (.slice A5 c cap5) rfl rfl rfl ?_
      dsimp only [Act.put]
      simp only [List.setIfInBounds_toArray, List.set_cons_succ, List.set_cons_zero]
      refine wpList_load_run 47 (.tmp 3) (.pointer (some ⟨w.heap.size + 1, 0, none⟩)) (.agg (itA x)) rfl rfl rfl (hIt _) ?_
      dsimp only [Act.put]
      simp only [List.setIfInBounds_toArray, List.set_cons_succ, List.set_cons_zero]
      refine wpList_buildSlice_run 26 1 _ #[(0, .agg (itA x))] _ rfl rfl (by simp only [List.map_toArray, List.map_cons, List.map_nil]; rfl) (bs_item x _) ?_
      dsimp only [Act.put]
      simp only [List.setIfInBounds_toArray, List.set_cons_succ, List.set_cons_zero]
      have hownA := hown5.alloc (.cells (itA x) 47)
      have hy5s := y5.q.size
      refine wpList_append_rows it_len it_one rfl (.tmp 65) (.tmp 67) 26 47 i0 _ 568 rfl Tryz.underlying26 hi hz0 hz1 hz2 rfl (by decide) (by decide) w3.heap.size (.slice A5 c cap5) c (k.l.take c) rfl hownA (some ⟨y5.w.heap.size, 0, none⟩) 1 1 [x] rfl (RowsAt.one y5.w 47 x (itA x) rfl) rfl (by omega) (by simp; omega) ?_
      intro A6 cap6 w6 hc6 hm6 hown6 hg6
      have hq6 : Q w3 w6 := q_grown (Q.trans y5.q (q_new _ _ _)) (Nat.le_refl _) hownA hg6
      obtain ⟨y6, rfl⟩ : ∃ y6 : Wd w3, w6 = y6.w := ⟨⟨w6, hq6⟩, rfl⟩
      clear hownA hown5 hg6 hq6
      go_upto_region 17 with (fail)
      go_wp2_with (refine wpList_slice_rows (f := ItemR.cells) 26 47 (.tmp 71) (.tmp 72) k.iA k.iC c 49 k.l rfl rfl Tryz.underlying26 (by kernel_rfl) Tryz.sizeOf47 rfl rfl hcl hlc.1 (hKy y6).items.rows ?_)
      intro A7 hS7
      go_wp2_with (at_builtin; refine wpList_append_rows it_len it_one rfl (.tmp 69) (.tmp 73) 26 47 i0 _ 568 rfl Tryz.underlying26 hi hz0 hz1 hz2 rfl (by decide) (by decide) w3.heap.size (.slice A6 (c + 1) cap6) (c + 1) (k.l.take c ++ [x]) rfl hown6 A7 (k.l.length - c) (k.iC - c) (k.l.drop c) rfl hS7 (by rw [List.length_drop]) (by omega) y6.q.size ?_)
      intro A8 cap8 w8 hc8 hm8 hown8 hg8
      have hq8 : Q w3 w8 := q_grown y6.q (Nat.le_refl _) hown6 hg8
      obtain ⟨y8, rfl⟩ : ∃ y8 : Wd w3, w8 = y8.w := ⟨⟨w8, hq8⟩, rfl⟩
      clear hown6 hg8 hq8
      have e8 : insK k.l x = k.l.take c ++ x :: k.l.drop c := by unfold insK; rw [HD.out, HC.out]
      have hlen : (insK k.l x).length = c + 1 + (k.l.length - c) := by
        rw [e8, List.length_append, List.length_cons, List.length_take, List.length_drop]
        omega
      have hfl : List.flatMap ItemR.cells (List.take c k.l) ++ (x.cells ++ List.flatMap ItemR.cells (List.drop c k.l)) = (insK k.l x).flatMap ItemR.cells := by
        rw [e8, List.flatMap_append, List.flatMap_cons]
      rw [hfl] at hown8
      have hbase : ∀ b o, A8 = some ⟨b, o, none⟩ → w3.heap.size ≤ b := fun b o e => (hown8.lt b (by rw [e]; rfl)).1
      have hr8 : RowsAt y8.w A8 49 ItemR.cells (insK k.l x) := Owns.rows it_len hown8 hlen.symm
      have hm8' : (insK k.l x).length ≤ cap8 := by rw [hlen]; exact hc8
      have hg3 : w.heap.size + 1 + 1 < w3.heap.size := hg3'
      have hok : addOk k.sv k.l x = true := by unfold addOk; rw [h, HD.out, HNO.out]; rfl
      have HOK := Lib.hid hok
      have HL := Lib.hid (show addK k.sv k.l x = insK k.l x by unfold addK; rw [hok]; rfl)
      rw [← hlen]
      clear hown8 hfl e8 hlen hok hS7 hc8
      go_wp2_with (refine wpList_store_far (hBr y8) rfl 28 (.tmp 4) (.tmp 78) (KR.mk k.sv k.sA k.sC (insK k.l x) A8 cap8).cells rfl rfl rfl (by kernel_rfl) (kn_all _) (Nat.le_refl 2) ?_)
      intro W2 hW2 hbel2 hfar2
      rw [splice_all _ _ (by rfl)] at hW2
      have hq2 : Q w W2 := hbel2 _ _ (by omega) (Q.trans HQ.out y8.q)
      have hK2 : KIn W2 (KR.mk k.sv k.sA k.sC (insK k.l x) A8 cap8) := ⟨hK.sv.q hq2, ⟨RowsAt_far hr8 fun b o e => hfar2 b (by have := hbase b o e; omega), fun y hy => by
        rcases (mem_insK k.l x y).1 hy with rfl | hy
        · exact hI.q hq2
        · exact (hK.items.each y hy).q hq2⟩, hK.svC, hm8', hm8⟩
      clear hbel2 hfar2
      go_wp2_with fail
      exact bodyPost_ret (results_row_tmp rfl _ _ (w.heap.size + 1 + 1) 28 (knA (KR.mk k.sv k.sA k.sC (insK k.l x) A8 cap8)) (0, 0) _ _ rfl rfl hW2 Tryz.underlying28 rfl (by kernel_rfl)) rfl ⟨KR.mk k.sv k.sA k.sC (insK k.l x) A8 cap8, by rw [HOK.out]; rfl, rfl, HL.out.symm, hK2, hq2⟩
theorem add_any (k : KR) (x : ItemR) (w : World) (hT : Tab w) (hK : KIn w k) (hI : ItemIn w x) (hn : k.l.length ≤ 100000) : Calls Tryz.prog 11 #[.agg (knA k), .agg (itA x)] w (AddIs k x w) := by
  cases h : signedB k.sv x
  · exact add_no k x w hT hK hI h
  · exact add_yes k x w hT hK hI hn h
end Go.Proofs.YtjfcllanochhmaaGreatDoor.Known

namespace Go.Proofs.YtjfcllanochhmaaGreatDoor.Known
open Go.RowKit Grp Mem _root_.Go.Proofs.YtjfcllanochhmaaGreatDoor.Code Sha Sign _root_.Go.Proofs.YtjfcllanochhmaaGreatDoor.Item

/-- The item with a digest. -/
def findK (l : List ItemR) (d : ByteArray) : Option ItemR := if noneB d then none else l.find? fun o => decide (digOf o = d)
def foundIt (l : List ItemR) (d : ByteArray) : ItemR := (findK l d).getD item0
theorem find_some (l : List ItemR) (d : ByteArray) : (findK l d).isSome = hasE l d := by
  unfold findK hasE
  cases noneB d
  · rw [if_neg Bool.false_ne_true, Bool.not_false, Bool.true_and]
    rw [Bool.eq_iff_iff, hasD_iff, List.find?_isSome]
    unfold digs
    rw [List.mem_map]
    simp
  · rfl
theorem find_at (l : List ItemR) (d : ByteArray) (j : Nat) (h : j < l.length) (hno : hasD (l.take j) d = false) (he : digOf l[j] = d) (hd : noneB d = false) : findK l d = some l[j] := by
  unfold findK
  rw [hd, if_neg Bool.false_ne_true]
  have e : l = l.take j ++ l[j] :: l.drop (j + 1) := by
    rw [List.getElem_cons_drop, List.take_append_drop]
  have h1 : (l.take j).find? (fun o => decide (digOf o = d)) = none := by
    rw [List.find?_eq_none]
    intro x hx hx2
    rw [hasD_false] at hno
    exact hno (List.mem_map.2 ⟨x, hx, by simpa using hx2⟩)
  conv => lhs; rw [e]
  rw [List.find?_append, h1, Option.none_or, List.find?_cons]
  simp [he]
theorem find_none (l : List ItemR) (d : ByteArray) (hno : hasD l d = false) : findK l d = none := by
  have := find_some l d
  unfold hasE at this
  rw [hno, Bool.and_false] at this
  simpa using this
set_option maxRecDepth 100000 in
theorem build_zero (w : World) : (Instr.build 47 #[]).run Tryz.prog w = .ok (.agg (itA item0)) w := by kernel_rfl
def FindIs (l : List ItemR) (d : ByteArray) (w : World) (e : Ending) (w' : World) : Prop := e = .returned (.tuple #[.agg (itA (foundIt l d)), .bool (hasE l d)]) ∧ Q w w'

end Go.Proofs.YtjfcllanochhmaaGreatDoor.Known

namespace Go.Proofs.YtjfcllanochhmaaGreatDoor.Known
open Go.RowKit Grp Mem _root_.Go.Proofs.YtjfcllanochhmaaGreatDoor.Code Sha Sign _root_.Go.Proofs.YtjfcllanochhmaaGreatDoor.Item

theorem publicsB_step (l : List Int) (j : Nat) (h : j < l.length) (h0 : publicsB (l.take j) = true) (h1 : publicB l[j] = true) : publicsB (l.take (j + 1)) = true := by
  unfold publicsB at h0 ⊢
  rw [List.take_succ_eq_append_getElem h, List.all_append, h0]
  simp [h1]
theorem publicsB_no (l : List Int) (j : Nat) (h : j < l.length) (h1 : publicB l[j] = false) : publicsB l = false := by
  unfold publicsB
  rw [List.all_eq_false]
  exact ⟨l[j], List.getElem_mem h, by simp [h1]⟩
theorem rightK_long {sv : List Int} {l : List ItemR} (h : 20 < sv.length) : rightK sv l = false := by
  unfold rightK
  rw [decide_eq_false (by omega)]
  rfl
theorem rightK_pub {sv : List Int} {l : List ItemR} (h : publicsB sv = false) : rightK sv l = false := by
  unfold rightK
  rw [h]
  simp
/-- The digest before the j-th item. -/
def lastD (l : List ItemR) (j : Nat) : ByteArray := ((digs (l.take j)).getLast?).getD emptyT
theorem chainB_snoc : ∀ (l : List ByteArray) (a b : ByteArray), chainB a (l ++ [b]) = (chainB a l && lessB (l.getLast?.getD a) b)
  | [], a, b => by simp [chainB]
  | x :: l, a, b => by
    rw [List.cons_append, chainB, chainB, chainB_snoc l x b, Bool.and_assoc]
    cases l with
    | nil => rfl
    | cons y l => rw [List.getLast?_cons_cons, List.getLast?_cons]; rfl
theorem digs_snoc (l : List ItemR) (j : Nat) (h : j < l.length) : digs (l.take (j + 1)) = digs (l.take j) ++ [digOf l[j]] := by
  unfold digs
  rw [List.take_succ_eq_append_getElem h, List.map_append]
  rfl
theorem lastD_zero (l : List ItemR) : lastD l 0 = emptyT := rfl
theorem lastD_step (l : List ItemR) (j : Nat) (h : j < l.length) : lastD l (j + 1) = digOf l[j] := by
  unfold lastD
  rw [digs_snoc l j h]
  simp
def goodTo (sv : List Int) (l : List ItemR) (j : Nat) : Bool := (l.take j).all (signedB sv) && chainB emptyT (digs (l.take j))
theorem goodTo_step (sv : List Int) (l : List ItemR) (j : Nat) (h : j < l.length) : goodTo sv l (j + 1) = (goodTo sv l j && (signedB sv l[j] && lessB (lastD l j) (digOf l[j]))) := by
  unfold goodTo lastD
  rw [digs_snoc l j h, chainB_snoc, List.take_succ_eq_append_getElem h, List.all_append]
  simp only [List.all_cons, List.all_nil, Bool.and_true]
  cases (l.take j).all (signedB sv) <;> cases signedB sv l[j] <;> cases chainB emptyT (digs (l.take j)) <;> simp
theorem goodTo_mono (sv : List Int) (l : List ItemR) : ∀ d j, goodTo sv l j = false → goodTo sv l (j + d) = false
  | 0, j, h => h
  | d + 1, j, h => by
    by_cases hlt : j + d < l.length
    · rw [← Nat.add_assoc, goodTo_step sv l (j + d) hlt, goodTo_mono sv l d j h]
      rfl
    · have h2 := goodTo_mono sv l d j h
      unfold goodTo at h2 ⊢
      rw [List.take_of_length_le (by omega)] at h2 ⊢
      exact h2
theorem rightK_eq {sv : List Int} {l : List ItemR} (h1 : sv.length ≤ 20) (h2 : publicsB sv = true) : rightK sv l = goodTo sv l l.length := by
  unfold rightK goodTo
  rw [decide_eq_true h1, h2, List.take_length]
  rfl
theorem rightK_no {sv : List Int} {l : List ItemR} (h1 : sv.length ≤ 20) (h2 : publicsB sv = true) (j : Nat) (h : j < l.length) (hb : (signedB sv l[j] && lessB (lastD l j) (digOf l[j])) = false) : rightK sv l = false := by
  rw [rightK_eq h1 h2]
  have h3 : goodTo sv l (j + 1) = false := by rw [goodTo_step sv l j h, hb, Bool.and_false]
  have := goodTo_mono sv l (l.length - (j + 1)) (j + 1) h3
  rwa [show j + 1 + (l.length - (j + 1)) = l.length by omega] at this

end Go.Proofs.YtjfcllanochhmaaGreatDoor.Known

namespace Go.Proofs.YtjfcllanochhmaaGreatDoor.Known
open Go.RowKit Grp Mem _root_.Go.Proofs.YtjfcllanochhmaaGreatDoor.Code Sha Sign _root_.Go.Proofs.YtjfcllanochhmaaGreatDoor.Item

def intB (n : Int) : ByteArray := ⟨(intL n).toArray⟩
theorem intL_bd (n : Int) : (intL n).length ≤ 10 := by
  unfold intL
  split
  · simp
  · exact numL_bd _
theorem intB_num {n : Int} (h : ¬ (n < -2305843009213693952 ∨ 2305843009213693952 < n)) : intB n = numB (zigN n) := by
  unfold intB intL
  rw [if_neg h]
  apply ba_ext
  rw [ba_list]
  rfl
/-- The text of the first k integers. -/
def uptoN (l : List Int) (k : Nat) : List UInt8 := varint l.length ++ (l.take k).flatMap intL
theorem uptoN_zero (l : List Int) : uptoN l 0 = varint l.length := by simp [uptoN]
theorem uptoN_succ (l : List Int) (k : Nat) (h : k < l.length) : uptoN l (k + 1) = uptoN l k ++ intL l[k] := by
  unfold uptoN
  rw [List.take_succ_eq_append_getElem h, List.flatMap_append, List.append_assoc]
  simp
theorem numsL_upto (l : List Int) : uptoN l l.length = numsL l := by
  unfold uptoN numsL numL numB
  rw [List.take_length, if_neg (by omega), ba_list]
  rfl
theorem uptoN_bd (l : List Int) (k : Nat) (hk : k ≤ l.length) : (uptoN l k).length ≤ 10 + k * 10 := by
  unfold uptoN
  rw [List.length_append]
  have h1 := varint_length l.length
  have h2 := flat_bd intL 10 (l.take k) fun x _ => intL_bd x
  rw [List.length_take, Nat.min_eq_left hk] at h2
  omega
def numsB (l : List Int) : ByteArray := ⟨(numsL l).toArray⟩
end Go.Proofs.YtjfcllanochhmaaGreatDoor.Known

namespace Go.Proofs.YtjfcllanochhmaaGreatDoor.Known
open Go.RowKit Grp Mem _root_.Go.Proofs.YtjfcllanochhmaaGreatDoor.Code Sha Sign _root_.Go.Proofs.YtjfcllanochhmaaGreatDoor.Item

theorem str_info : (Tryz.prog.info? 9).map (fun i => (i.zero, i.size, i.bytes)) = some (some (.string ⟨#[]⟩), 1, 16) := by kernel_rfl
abbrev strC (s : ByteArray) : List Value := [.string s]
theorem str_len (s : ByteArray) : (strC s).length = 1 := rfl
theorem str_one (s : ByteArray) : ∀ v ∈ strC s, v.oneCell' = true := by simp [strC, Value.oneCell']
theorem dig_le (x : ItemR) : (digOf x).size ≤ 32 := by
  unfold digOf
  split
  · rw [sha_size]; omega
  · decide
theorem digs_len (l : List ItemR) : (digs l).length = l.length := by simp [digs]

end Go.Proofs.YtjfcllanochhmaaGreatDoor.Known

namespace Go.Proofs.YtjfcllanochhmaaGreatDoor.Known
open Go.RowKit Grp Mem _root_.Go.Proofs.YtjfcllanochhmaaGreatDoor.Code Sha Sign _root_.Go.Proofs.YtjfcllanochhmaaGreatDoor.Item

def pubLaw (l : List Int) : Bool := publicsB l && decide (l.length ≤ 20)
end Go.Proofs.YtjfcllanochhmaaGreatDoor.Known

namespace Go.Proofs.YtjfcllanochhmaaGreatDoor.Known
open Go.RowKit Grp Mem _root_.Go.Proofs.YtjfcllanochhmaaGreatDoor.Code Sha Sign _root_.Go.Proofs.YtjfcllanochhmaaGreatDoor.Item

/-! ### What lies apart from a block of slices -/
structure Aside (w W : World) (g : Nat) : Prop where
  only : ∀ o v, w.cell? ⟨g, o, none⟩ = some v → ∃ A n c, v = .slice A n c
  far : ∀ b, b ≠ g → W.heap[b]? = w.heap[b]?
  size : w.heap.size ≤ W.heap.size
theorem Aside.ne {w W : World} {g b o : Nat} {v : Value} (h : Aside w W g) (hc : w.cell? ⟨b, o, none⟩ = some v) (hv : ∀ A n c, v ≠ .slice A n c) : b ≠ g := fun e => by
  subst e
  obtain ⟨A, n, c, rfl⟩ := h.only o v hc
  exact hv A n c rfl
theorem Aside.cell {w W : World} {g b : Nat} (h : Aside w W g) (hb : b ≠ g) (o : Nat) : W.cell? ⟨b, o, none⟩ = w.cell? ⟨b, o, none⟩ := World.cell?_of_block (w := w) (h.far b hb)
theorem Aside.strs {w W : World} {g : Nat} {A : Option Addr} {l : List ByteArray} (h : Aside w W g) (hs : Strs w A l) : Strs W A l := fun h0 => by
  obtain ⟨b, o, e, hb, hc⟩ := hs h0
  have hne := h.ne (hc 0 h0) (by simp)
  exact ⟨b, o, e, Nat.lt_of_lt_of_le hb h.size, fun j hj => (h.cell hne _).trans (hc j hj)⟩
theorem Aside.ints {w W : World} {g : Nat} {A : Option Addr} {l : List Int} (h : Aside w W g) (hs : Ints w A l) : Ints W A l := fun h0 => by
  obtain ⟨b, o, e, hb, hc⟩ := hs h0
  have hne := h.ne (hc 0 h0) (by simp)
  exact ⟨b, o, e, Nat.lt_of_lt_of_le hb h.size, fun j hj => (h.cell hne _).trans (hc j hj)⟩
theorem Aside.wrs {w W : World} {g : Nat} {A : Option Addr} {l : List WrapV} (h : Aside w W g) (hs : Wrs w A l) : Wrs W A l := fun h0 => by
  obtain ⟨b, o, e, hb, hc⟩ := hs h0
  have hne := h.ne (hc 0 h0 0 _ rfl) (by simp)
  exact ⟨b, o, e, Nat.lt_of_lt_of_le hb h.size, fun j hj i v hv => (h.cell hne _).trans (hc j hj i v hv)⟩
theorem Aside.item {w W : World} {g : Nat} {x : ItemR} (h : Aside w W g) (hs : ItemIn w x) : ItemIn W x := ⟨⟨h.strs hs.act.to, h.wrs hs.act.wraps, hs.act.toC, hs.act.wrC⟩, ⟨h.strs hs.dec.to, hs.dec.toC⟩⟩
theorem Aside.items {w W : World} {g : Nat} {A : Option Addr} {l : List ItemR} (h : Aside w W g) (hs : ItemsIn w A l) : ItemsIn W A l := ⟨fun h0 => by
  obtain ⟨b, o, e, hb, hc⟩ := hs.rows h0
  have hne := h.ne (hc 0 h0 0 _ rfl) (by simp)
  exact ⟨b, o, e, Nat.lt_of_lt_of_le hb h.size, fun j hj i v hv => (h.cell hne _).trans (hc j hj i v hv)⟩, fun x hx => h.item (hs.each x hx)⟩
theorem Aside.known {w W : World} {g : Nat} {k : KR} (h : Aside w W g) (hs : KIn w k) : KIn W k := ⟨h.ints hs.sv, h.items hs.items, hs.svC, hs.lC⟩

/-- The state of filled: the set so far lies in its block. -/
structure FillSt (w : World) (sv : List Int) (l0 l : List ItemR) (wr : World) (j : Nat) (k : KR) : Prop where
  q : Q w wr
  blk : Blk wr w.heap.size 28 k.cells.toArray
  res : Blk wr (w.heap.size + 1) 28 known0.cells.toArray
  inn : KIn wr k
  hsv : k.sv = sv
  hl : k.l = fillK sv l0 (l.take j)
theorem fill_at (sv : List Int) (l0 l : List ItemR) (j : Nat) (h : j < l.length) : fillK sv l0 (l.take (j + 1)) = addK sv (fillK sv l0 (l.take j)) l[j] := by
  rw [List.take_succ_eq_append_getElem h, fillK_snoc]

end Go.Proofs.YtjfcllanochhmaaGreatDoor.Known

namespace Go.Proofs.YtjfcllanochhmaaGreatDoor.Known
open Go.RowKit Grp Mem _root_.Go.Proofs.YtjfcllanochhmaaGreatDoor.Code Sha Sign _root_.Go.Proofs.YtjfcllanochhmaaGreatDoor.Item

/-- What mixed has laid ahead after j rounds. -/
def mixO (l : List ItemR) (o : List Int) (j : Nat) : List ItemR := (o.take j).filterMap (fun n => l[absMod n l.length]?)
theorem mixO_snoc (l : List ItemR) (o : List Int) (j : Nat) (h : j < o.length) (h2 : absMod o[j] l.length < l.length) : mixO l o (j + 1) = mixO l o j ++ [l[absMod o[j] l.length]] := by
  unfold mixO
  rw [List.take_succ_eq_append_getElem h, List.filterMap_append]
  simp [h2]
theorem mixO_length (l : List ItemR) (o : List Int) (hl : 0 < l.length) : ∀ j, j ≤ o.length → (mixO l o j).length = j := by
  intro j
  induction j with
  | zero => intro _; rfl
  | succ j ih =>
    intro h
    rw [mixO_snoc l o j (by omega) (absMod_lt _ _ hl), List.length_append, ih (by omega)]
    rfl
theorem mixO_all (l : List ItemR) (o : List Int) (j : Nat) (hj : j = min o.length 20) : mixO l o j ++ l = mixK l o := by
  unfold mixO mixK
  congr 2
  subst hj
  rw [List.take_eq_take_iff]
  omega
theorem mixO_none (o : List Int) (j : Nat) : mixO [] o j = [] := by
  unfold mixO
  induction o.take j with
  | nil => rfl
  | cons a t ih => simp
theorem mixK_none (o : List Int) : mixK [] o = [] := by
  have := mixO_none o 20
  unfold mixO at this
  unfold mixK
  rw [this]
  rfl

/-- An element's address, the slice at hand. -/
theorem wpList_index_rows {P : Program} {ops : Array Oper} {rest : List Oper} {o : Oper} {a : Act} {w : World} {K : Exit → Act → World → Prop} (t e : TypeId) (x i : Operand) (b off n c m k : Nat) (ho : o.op = .indexAddr t x i) (hw : Region.wanted o (yielded ops a.tmps) = true)
    (hx : a.eval x = .slice (some ⟨b, off, none⟩) n c) (hi : a.eval i = .int .i64 (m : Int)) (ht : P.underlying t = some (.slice e)) (he : P.elem t = e) (hs : ∀ w, (sizeOf e).run P w = .ok k w) (hm : m < n) (h : wpList P ops K rest (a.put o.dst (.pointer (some ⟨b, off + m * k, none⟩))) w) : wpList P ops K (o :: rest) a w := by
  refine wpList_step fun K' hK => ?_
  rw [if_pos hw]
  have hr := run_indexAt_slice (P := P) (w := w) t ⟨b, off, none⟩ n c .i64 (m : Int) (by rw [he]; exact ht)
  rw [if_pos ⟨by omega, by omega⟩, he, hs, Int.toNat_natCast] at hr
  unfold Oper.wp execOp
  simp only [ho, hx, hi, Sem.run_bind, hr, Result.andThen_ok, Sem.run_pure]
  refine hK _ _ ?_
  rw [Addr.add_mid]
  exact h
/-- What hands back a list of items. -/
def ItemsAre (l : List ItemR) (w : World) (e : Ending) (w' : World) : Prop := ∃ (A : Option Addr) (c : Nat), e = .returned (.slice A l.length c) ∧ l.length ≤ c ∧ c ≤ maxLen ∧ ItemsIn w' A l ∧ Q w w'
end Go.Proofs.YtjfcllanochhmaaGreatDoor.Known
