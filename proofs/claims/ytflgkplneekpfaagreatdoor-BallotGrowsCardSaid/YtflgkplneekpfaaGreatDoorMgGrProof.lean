/-
  A map from strings to true, as a set of strings.
  known.Sub.
  Plain laws about a poll whose votes grow: voters stay voters, the claims stay the same, and the claim that has won has no greater digest later. No walk in this text.
  The law BallotGrows, walked.
  The statement BallotGrows holds. The tables of package sum hold what the text lays.
-/
import Derived.Test.YtflgkplneekpfaaGreatDoorMapI
import Derived.Test.YtflgkplneekpfaaGreatDoorKn
import Derived.Test.YtflgkplneekpfaaGreatDoorMgVb
import Derived.Test.YtflgkplneekpfaaGreatDoorMgVc
import Derived.Test.YtflgkplneekpfaaGreatDoorOpenItem
import Derived.ChangeMaps5
import Derived.SizedLaws
set_option linter.unusedVariables false
set_option linter.unusedSimpArgs false
namespace Go.Proofs.YtflgkplneekpfaaGreatDoor.Mem
open Go.RowKit Grp

def memB (ds : List ByteArray) (d : ByteArray) : Bool := ds.any fun o => decide (o = d)
def DSet (w : World) (b : Nat) (ds : List ByteArray) : Prop := ∃ L, AMap .string w b L ∧ (∀ p ∈ L, p.2 = .bool true) ∧ ∀ d, (assoc (.string d) L).isSome = memB ds d
theorem keyLike_str (d : ByteArray) : KeyLike .string (.string d) := .inr ⟨rfl, d, rfl⟩
theorem DSet.lt {w : World} {b : Nat} {ds : List ByteArray} (h : DSet w b ds) : b < w.heap.size := by
  obtain ⟨L, h1, _⟩ := h
  exact h1.lt
theorem DSet.q {w w' : World} {b : Nat} {ds : List ByteArray} (h : DSet w b ds) (hq : Q w w') : DSet w' b ds := by
  obtain ⟨L, h1, h2, h3⟩ := h
  exact ⟨L, h1.q hq, h2, h3⟩
theorem DSet.made (w : World) : DSet (w.alloc (.map #[] 0)) w.heap.size [] := ⟨[], AMap.made _ _, by simp, fun d => by simp [assoc, memB]⟩
theorem DSet.lookup {P : Program} {t kt et : TypeId} {w : World} {b : Nat} {ds : List ByteArray} (h : DSet w b ds) (ht : P.underlying t = some (.map kt et)) (hu : P.underlying kt = some .string) (hz : ∀ w, (zeroValue et).run P w = .ok (.bool false) w) (d : ByteArray) :
    (Instr.lookup t (.map (some b)) (.string d) false).run P w = .ok (.bool (memB ds d)) w := by
  obtain ⟨L, h1, h2, h3⟩ := h
  have hd := h3 d
  cases ha : assoc (.string d) L with
  | none =>
    rw [ha] at hd
    rw [← hd]
    exact h1.miss ht hu (keyLike_str d) ha hz false
  | some v =>
    rw [ha] at hd
    rw [← hd]
    have hv : v = .bool true := by
      unfold assoc at ha
      obtain ⟨p, hp, rfl⟩ := Option.map_eq_some_iff.1 ha
      exact h2 p (List.mem_of_find?_eq_some hp)
    have := h1.lookup ht hu (keyLike_str d) ha false
    rw [hv] at this
    exact this
theorem assoc_snoc (k : Value) (L : List (Value × Value)) (p : Value × Value) : (assoc k (L ++ [p])).isSome = ((assoc k L).isSome || keyEq k p.1) := by
  unfold assoc
  rw [List.find?_append]
  cases h : L.find? fun p => keyEq k p.1 with
  | some x => simp
  | none =>
    simp only [Option.none_or, Option.map_none, Option.isSome_none, Bool.false_or, List.find?_cons, List.find?_nil]
    cases keyEq k p.1 <;> rfl
theorem memB_snoc (ds : List ByteArray) (d e : ByteArray) : memB (ds ++ [e]) d = (memB ds d || decide (e = d)) := by
  unfold memB
  rw [List.any_append]
  simp
theorem keyEq_str (a b : ByteArray) : keyEq (.string a) (.string b) = decide (b = a) := by
  rw [Bool.eq_iff_iff, decide_eq_true_eq]
  constructor
  · intro h
    have h1 : (a.data == b.data) = true := h
    have h2 : a.data = b.data := eq_of_beq h1
    cases a
    cases b
    simp at h2
    rw [h2]
  · rintro rfl
    show (b.data == b.data) = true
    exact beq_self_eq_true _
theorem modify_same {es : List MapEntry} {i : Nat} {f : MapEntry → MapEntry} (h : ∀ e, es[i]? = some e → (fun e : MapEntry => (e.key, e.val)) (f e) = (e.key, e.val)) : (es.modify i f).map (fun e => (e.key, e.val)) = es.map (fun e => (e.key, e.val)) := by
  refine List.ext_getElem? fun j => ?_
  rw [List.getElem?_map, List.getElem?_map, List.getElem?_modify]
  by_cases hij : i = j
  · subst hij
    simp only [if_true]
    cases he : es[i]? with
    | none => rfl
    | some e => simpa using h e he
  · simp [hij]
/-- A string is put in, there already or not. -/
theorem DSet.put {P : Program} {t kt et : TypeId} {w : World} {b : Nat} {ds : List ByteArray} (h : DSet w b ds) (ht : P.underlying t = some (.map kt et)) (hu : P.underlying kt = some .string) (d : ByteArray) :
    ∃ w', (Instr.mapUpdate t (.map (some b)) (.string d) (.bool true)).run P w = .ok () w' ∧ DSet w' b (ds ++ [d]) ∧ w'.heap.size = w.heap.size ∧ (∀ B, B ≤ b → Below B w w') ∧ ∀ g, g ≠ b → w'.heap[g]? = w.heap[g]? := by
  obtain ⟨L, hL, h2, h3⟩ := h
  cases ha : assoc (.string d) L with
  | none =>
    obtain ⟨w', hr, hA, hs, hB, hf⟩ := hL.insert ht hu (keyLike_str d) (v := .bool true) ha
    refine ⟨w', hr, ⟨_, hA, fun p hp => ?_, fun e => ?_⟩, hs, hB, hf⟩
    · rcases List.mem_append.1 hp with hp | hp
      · exact h2 p hp
      · rw [List.mem_singleton] at hp
        rw [hp]
    · rw [assoc_snoc, h3, memB_snoc, keyEq_str]
  | some v =>
    have hlt := hL.lt
    obtain ⟨h0, es, clock, hb, h1⟩ := hL
    obtain ⟨r, q2, q3, q4⟩ := findNow_eq (keyLike_str d) es.toList L 0 h0 h1
    rw [ha] at q3
    obtain ⟨⟨j, v'⟩, rfl, hv'⟩ := Option.map_eq_some_iff.1 q3
    obtain ⟨_, e, he, hk, hv⟩ := q4 j v' rfl
    rw [Nat.sub_zero] at he
    have hmem : (e.key, e.val) ∈ L := by rw [← h1]; exact List.mem_map.2 ⟨e, List.mem_of_getElem? he, rfl⟩
    have hek : e.key = .string d := by
      rcases h0 _ hmem with ⟨hh, _⟩ | ⟨_, s, hs⟩
      · cases hh
      · have hs' : e.key = .string s := hs
        rw [hs', keyEq_str, decide_eq_true_eq] at hk
        rw [hs', hk]
    have hev : e.val = .bool true := h2 _ hmem
    have hes : es[j]? = some e := by rw [← Array.getElem?_toList]; exact he
    refine ⟨{ w with heap := w.heap.setIfInBounds b (.map (es.modify j fun e => { e with key := .string d, val := .bool true }) clock) }, ?_, ⟨L, ⟨h0, es.modify j fun e => { e with key := .string d, val := .bool true }, clock, by simp [Array.getElem?_setIfInBounds, hlt], ?_⟩, h2, fun x => ?_⟩, by simp, fun B hB => ⟨rfl, rfl, rfl, by simp, fun g hg => by simp [Array.getElem?_setIfInBounds]; omega⟩, fun g hg => by simp [Array.getElem?_setIfInBounds, Ne.symm hg]⟩
    · have hdd : (d == d) = true := (show (d.data == d.data) = true from beq_self_eq_true _)
      unfold Instr.mapUpdate
      simp only [Sem.run_bind, run_underlying ht w, Result.andThen_ok, getObj, setObj, Sem.run, hb, checkKey_eq hu (keyLike_str d), findKey_eq hu q2, Instr.keyThatStays, hes, Option.map_some, Option.getD_some, hek, Instr.sameBits, hdd, if_true, Sem.run_pure, hb]
    · rw [Array.toList_modify, ← h1]
      refine modify_same fun e2 he2 => ?_
      rw [he] at he2
      cases he2
      simp [hek, hev]
    · rw [h3, memB_snoc]
      by_cases hx : d = x
      · subst hx
        have := h3 d
        rw [ha] at this
        rw [← this]
        simp
      · simp [hx]
end Go.Proofs.YtflgkplneekpfaaGreatDoor.Mem

namespace Go.Proofs.YtflgkplneekpfaaGreatDoor.Known
open Go.RowKit Grp Mem _root_.Go.Proofs.YtflgkplneekpfaaGreatDoor.Code Sha Sign _root_.Go.Proofs.YtflgkplneekpfaaGreatDoor.Item

theorem eqInts_any (A B : Option Addr) (c d : Nat) (l m : List Int) (w : World) (hl : l.length ≤ 9223372036854775807) (hm : m.length ≤ 9223372036854775807) (hA : Ints w A l) (hB : Ints w B m) :
    Calls Tryz.prog 54 #[.slice A l.length c, .slice B m.length d] w fun e w' => e = .returned (.bool (decide (l = m))) ∧ Q w w' := by
  by_cases h0 : l.length = 0
  · have hl0 : l = [] := List.eq_nil_of_length_eq_zero h0
    subst hl0
    refine (Tryz.slices_Equal_int_empty A B c m.length d w hm).mono ?_
    rintro e w' ⟨rfl, hw⟩
    subst hw
    refine ⟨?_, Q.refl _⟩
    congr 2
    rw [decide_eq_decide, List.length_eq_zero_iff]
    exact eq_comm
  · by_cases h1 : m.length = 0
    · have hm0 : m = [] := List.eq_nil_of_length_eq_zero h1
      subst hm0
      obtain ⟨b, o, rfl, hb, hc⟩ := hA (by omega)
      have hne : (l == ([] : List Int)) = false := by
        cases l
        · simp at h0
        · rfl
      go_enter Tryz.func54, Tryz.ntmps54
      have hlz : (l.length : Int) ≠ 0 := by omega
      have HR := Lib.hid (show decide (l = []) = false from decide_eq_false fun h => h0 (by rw [h]; rfl))
      go_wp2_with fail
      go_ret
      exact ⟨by rw [HR.out]; rfl, Q.refl _⟩
    · obtain ⟨b, o, rfl, hb, hc⟩ := hA (by omega)
      obtain ⟨b2, o2, rfl, hb2, hc2⟩ := hB (by omega)
      refine (Tryz.slices_Equal_int b o l.length c b2 o2 m.length d l m w (Nat.le_refl _) (Nat.le_refl _) hl hm (fun j hj => ?_) (fun j hj => ?_)).mono ?_
      · rw [hc j hj, List.getD_eq_getElem?_getD, List.getElem?_eq_getElem hj]
        rfl
      · rw [hc2 j hj, List.getD_eq_getElem?_getD, List.getElem?_eq_getElem hj]
        rfl
      · rintro e w' ⟨rfl, q, rfl⟩
        refine ⟨?_, below_drewN (Q.refl w) q⟩
        rw [List.take_length, List.take_length]
        congr 2
        rw [Bool.eq_iff_iff, decide_eq_true_eq]
        exact beq_iff_eq
theorem qa {w0 w : World} (hq : Q w0 w) (o : Obj) : Q w0 (w.alloc o) := Below.alloc hq hq.size o
theorem wpList_mapUpdate_run {P : Program} {ops : Array Oper} {rest : List Oper} {o : Oper} {a : Act} {w w' : World} {K : Exit → Act → World → Prop} (t : TypeId) (m k v : Operand) (M N V : Value) (ho : o.op = .mapUpdate t m k v) (hg : o.guard = none) (hm : a.eval m = M) (hk : a.eval k = N) (hv : a.eval v = V) (hr : (Instr.mapUpdate t M N V).run P w = .ok () w') (h : wpList P ops K rest (a.put o.dst undef) w') : wpList P ops K (o :: rest) a w := by
  refine wpList_step fun K' hK => ?_
  rw [if_pos (by unfold Region.wanted; rw [hg])]
  unfold Oper.wp execOp
  simp only [ho, hm, hk, hv, Sem.run_bind, hr, Result.andThen_ok, Sem.run_pure]
  exact hK _ _ h
theorem tw_next {α : Type} (p : α → Bool) : ∀ (l : List α) (j : Nat) (h : j < l.length), j ≤ (l.takeWhile p).length → p l[j] = true → j + 1 ≤ (l.takeWhile p).length
  | [], j, h, _, _ => by simp at h
  | a :: l, 0, h, _, hp => by
    have hp : p a = true := hp
    rw [List.takeWhile_cons, hp, if_pos rfl, List.length_cons]
    omega
  | a :: l, j + 1, h, hj, hp => by
    rw [List.takeWhile_cons] at hj ⊢
    cases ha : p a
    · rw [ha] at hj; simp at hj
    · rw [ha, if_pos rfl, List.length_cons] at hj
      rw [if_pos rfl, List.length_cons]
      have := tw_next p l j (by simpa using h) (by omega) hp
      omega
theorem tw_stop {α : Type} (p : α → Bool) : ∀ (l : List α) (j : Nat) (h : j < l.length), j ≤ (l.takeWhile p).length → p l[j] = false → (l.takeWhile p).length = j
  | [], j, h, _, _ => by simp at h
  | a :: l, 0, h, _, hp => by
    have hp : p a = false := hp
    rw [List.takeWhile_cons, hp, if_neg Bool.false_ne_true]
    rfl
  | a :: l, j + 1, h, hj, hp => by
    rw [List.takeWhile_cons] at hj ⊢
    cases ha : p a
    · rw [ha] at hj; simp at hj
    · rw [ha, if_pos rfl, List.length_cons] at hj
      rw [if_pos rfl, List.length_cons, tw_stop p l j (by simpa using h) (by omega) hp]
theorem fill_mem (sv : List Int) : ∀ (k l : List ItemR) (y : ItemR), y ∈ fillK sv l k → y ∈ l ∨ y ∈ k
  | [], l, y, h => .inl h
  | x :: k, l, y, h => by
    have h : y ∈ fillK sv (addK sv l x) k := h
    rcases fill_mem sv k (addK sv l x) y h with h | h
    · unfold addK at h
      split at h
      · rcases (mem_insK l x y).1 h with rfl | h
        · exact .inr (by simp)
        · exact .inl h
      · exact .inl h
    · exact .inr (List.mem_cons_of_mem _ h)
/-- At the head of a function that takes two known sets and hands a known set back. -/
structure UniCtx (w w3 : World) (a b : KR) : Prop where
  q : Q w w3
  ba : Blk w3 w.heap.size 31 a.cells.toArray
  bb : Blk w3 (w.heap.size + 1) 31 b.cells.toArray
  br : Blk w3 (w.heap.size + 1 + 1) 31 known0.cells.toArray
theorem UniCtx.new (w : World) (a b : KR) : ∃ w3, UniCtx w w3 a b ∧ w3 = (((w.alloc (.cells (knA a) 31)).alloc (.cells (knA b) 31)).alloc (.cells (knA known0) 31)) := by
  have h1 := Blk.new w 31 (knA a)
  have q1 := q_new w (knA a) 31
  have h2 := Blk.new' (g := w.heap.size + 1) (w.alloc (.cells (knA a) 31)) 31 (knA b) (by simp)
  have q2 := q_new (w.alloc (.cells (knA a) 31)) (knA b) 31
  have h3 := Blk.new' (g := w.heap.size + 1 + 1) ((w.alloc (.cells (knA a) 31)).alloc (.cells (knA b) 31)) 31 (knA known0) (by simp)
  have q3 := q_new ((w.alloc (.cells (knA a) 31)).alloc (.cells (knA b) 31)) (knA known0) 31
  exact ⟨_, ⟨Q.trans (Q.trans q1 q2) q3, (h1.q q2).q q3, h2.q q3, h3⟩, rfl⟩
/-- What Union makes of two known sets. -/
def unionK (a b : KR) : List ItemR := if a.sv = b.sv then fillK a.sv a.l b.l else a.l
def subK (a b : KR) : Bool := (a.l.all fun x => hasE b.l (digOf x)) && decide (a.sv = b.sv)
theorem digs_take (l : List ItemR) (j : Nat) (h : j < l.length) : (digs l).take (j + 1) = (digs l).take j ++ [digOf l[j]] := by
  rw [List.take_succ_eq_append_getElem (by rw [digs_len]; exact h), digs_get l j h]
theorem all_take_next (l : List ItemR) (p : ItemR → Bool) (j : Nat) (h : j < l.length) (h0 : (l.take j).all p = true) (h1 : p l[j] = true) : (l.take (j + 1)).all p = true := by
  rw [List.take_succ_eq_append_getElem h, List.all_append, h0]
  simp [h1]
theorem all_not_at (l : List ItemR) (p : ItemR → Bool) (j : Nat) (h : j < l.length) (h1 : p l[j] = false) : l.all p = false := by
  rw [Bool.eq_false_iff]
  intro hc
  rw [List.all_eq_true] at hc
  rw [hc _ (List.getElem_mem h)] at h1
  cases h1
set_option maxRecDepth 100000 in
set_option maxHeartbeats 4000000 in
theorem ksub_any (a b : KR) (w : World) (hT : Tab w) (hA : KIn w a) (hB : KIn w b) : Calls Tryz.prog 17 #[.agg (knA a), .agg (knA b)] w fun e w' => e = .returned (.bool (subK a b)) ∧ Q w w' := by
  obtain ⟨w1, x, hx, hq1, ⟨hA1, hA2⟩, hB1, hB2⟩ := boxed_two w 31 a.cells b.cells
  have hx : (w.alloc (.cells (knA a) 31)).alloc (.cells (knA b) 31) = x.w := hx
  have aI : ∀ y : Wd w1, y.w.cell? ⟨w.heap.size, 1, none⟩ = some (.slice a.iA a.l.length a.iC) := Wd.at0 hA1 hA2 1 rfl
  have aS : ∀ y : Wd w1, y.w.cell? ⟨w.heap.size, 0, none⟩ = some (.slice a.sA a.sv.length a.sC) := Wd.at0 hA1 hA2 0 rfl
  have bI : ∀ y : Wd w1, y.w.cell? ⟨w.heap.size + 1, 1, none⟩ = some (.slice b.iA b.l.length b.iC) := Wd.at0 hB1 hB2 1 rfl
  have bS : ∀ y : Wd w1, y.w.cell? ⟨w.heap.size + 1, 0, none⟩ = some (.slice b.sA b.sv.length b.sC) := Wd.at0 hB1 hB2 0 rfl
  have hKa : ∀ y : Wd w1, KIn y.w a := fun y => hA.q (Q.trans hq1 y.q)
  have hKb : ∀ y : Wd w1, KIn y.w b := fun y => hB.q (Q.trans hq1 y.q)
  have hTy : ∀ y : Wd w1, Tab y.w := fun y => hT.q (Q.trans hq1 y.q)
  have hla : a.l.length ≤ 9223372036854775807 := by have h8 := hA.lC.1; have h9 := hA.lC.2; simp only [maxLen] at h9; omega
  have hlb : b.l.length ≤ 9223372036854775807 := by have h8 := hB.lC.1; have h9 := hB.lC.2; simp only [maxLen] at h9; omega
  have hs1 : a.sv.length ≤ 9223372036854775807 := by have h8 := hA.svC.1; have h9 := hA.svC.2; simp only [maxLen] at h9; omega
  have hs2 : b.sv.length ≤ 9223372036854775807 := by have h8 := hB.svC.1; have h9 := hB.svC.2; simp only [maxLen] at h9; omega
  have hse := fun y : Wd w1 => eqInts_any a.sA b.sA a.sC b.sC a.sv b.sv y.w hs1 hs2 (hKa y).sv (hKb y).sv
  have HQ := Lib.hid hq1
  clear hA1 hA2 hB1 hB2 hq1 hA hB hT
  cases hsv : decide (a.sv = b.sv)
  · rw [hsv] at hse
    have HR := Lib.hid (show subK a b = false by unfold subK; rw [hsv, Bool.and_false])
    clear hsv hKa hKb hTy
    go_enter Tryz.func17, Tryz.ntmps17
    go_wp2_with (go_at_call 54; refine (hse _).mono ?_; rintro e w' ⟨rfl, hq2⟩; obtain ⟨y, rfl⟩ := Wd.next _ hq2; clear hq2)
    go_ret
    exact ⟨by rw [HR.out]; rfl, Q.trans HQ.out y.q⟩
  · rw [hsv] at hse
    have HSV := Lib.hid hsv
    have hmm := @run_makeMap Tryz.prog
    clear hsv
    go_enter Tryz.func17, Tryz.ntmps17
    go_upto_region 4 with (go_at_call 54; refine (hse _).mono ?_; rintro e w' ⟨rfl, hq2⟩; obtain ⟨y, rfl⟩ := Wd.next _ hq2; clear hq2)
    clear hse
    obtain ⟨y0, hy0⟩ : ∃ y0 : Wd w1, y.w.alloc (.map #[] 0) = y0.w := ⟨⟨_, qa y.q _⟩, rfl⟩
    have hD0 := DSet.made y.w
    have hgs := y.q.size
    rw [hy0] at hD0 ⊢
    clear hy0
    generalize y.w.heap.size = g at *
    clear y
    go_wp2_with fail
    go_loopw [21] (fun i wr => ∃ (j : Nat) (z : Wd w1), i = .int .i64 j ∧ wr = z.w ∧ j ≤ b.l.length ∧ DSet z.w g ((digs b.l).take j)) (fun i _ => b.l.length - (intOf i).toNat)
    case atStart => exact ⟨0, y0, rfl, rfl, Nat.zero_le _, hD0⟩
    case round =>
      obtain ⟨j, z, rfl, rfl, hj, hD⟩ := hrel
      by_cases hlt : j < b.l.length
      · obtain ⟨bb, o, eA, hb, hld⟩ := (hKb z).items.load j hlt
        have hio := fun y : Wd z.w => ((hKb z).items.each _ (List.getElem_mem hlt)).q y.q
        have HTK := Lib.hid (digs_take b.l j hlt)
        have hjl : (j : Int) < (b.l.length : Int) := by omega
        rw [eA]
        clear hKa hKb hD0 eA
        generalize b.l[j] = it at *
        go_wp2_with (first | (refine wpList_load_run 50 (.tmp 23) (.pointer (some ⟨bb, o + j * 49, none⟩)) (.agg (itA it)) ?_ ?_ ?_ ?_ ?_; rfl; rfl; rfl; exact hld ⟨_, Q.refl _⟩) | (refine wpList_store_blk (Blk.new z.w 50 item0.cells.toArray) rfl 50 (.tmp 7) (.tmp 24) it.cells rfl rfl rfl (by kernel_rfl) (it_all _) (Nat.le_refl 49) ?_))
        intro W hW hbel
        rw [splice_all _ _ (by rfl)] at hW
        have hqz : Q z.w W := hbel _ _ (Nat.le_refl _) (q_new _ _ _)
        have hLi : ∀ y : Wd W, (Instr.loadAt 50 (.pointer (some ⟨z.w.heap.size, 0, none⟩))).run Tryz.prog y.w = .ok (.agg (itA it)) y.w := Wd.load hW.lt (Blk.range hW) Tryz.underlying50 rfl (by kernel_rfl)
        have hdg := fun y : Wd W => digest_any it y.w ((hTy z).q (Q.trans hqz y.q)) (hio ⟨y.w, Q.trans hqz y.q⟩)
        have hDW := hD.q hqz
        have HQ3 := Lib.hid (Q.trans z.q hqz)
        obtain ⟨v, hv⟩ := Wd.first W
        rw [hv]
        clear hW hbel hld hv hqz hio hTy hD
        generalize digOf it = d2 at *
        go_wp2_with (first | (refine wpList_load_run 50 (.tmp 7) (.pointer (some ⟨z.w.heap.size, 0, none⟩)) (.agg (itA it)) ?_ ?_ ?_ ?_ ?_; rfl; rfl; rfl; exact hLi _) | (go_at_call 25; refine (hdg _).mono ?_; rintro e w' ⟨rfl, hq2⟩; obtain ⟨y5, rfl⟩ := Wd.next _ hq2; clear hq2; obtain ⟨w6, hr6, hD6, hs6, hB6, hf6⟩ := (hDW.q y5.q).put (P := Tryz.prog) Tryz.underlying100 Tryz.underlying9 d2) | (refine wpList_mapUpdate_run 100 (.tmp 25) (.tmp 27) (.const (.bool true)) _ _ _ rfl rfl rfl rfl rfl hr6 ?_))
        exact ⟨⟨j + 1, ⟨w6, Below.trans (Q.trans HQ3.out y5.q) (hB6 _ hgs)⟩, by go_num, rfl, by omega, by rw [HTK.out]; exact hD6⟩, by simp only [intOf]; omega⟩
      · have hjn : j = b.l.length := by omega
        have hDb : DSet z.w g (digs b.l) := by
          rw [hjn, List.take_of_length_le (by rw [digs_len]; exact Nat.le_refl _)] at hD
          exact hD
        clear hjn hD hD0 hKb
        go_wp2_with fail
        go_loopw [32] (fun i wr => ∃ (j : Nat) (z : Wd w1), i = .int .i64 j ∧ wr = z.w ∧ j ≤ a.l.length ∧ DSet z.w g (digs b.l) ∧ Hid ((a.l.take j).all (fun x => hasE b.l (digOf x)) = true)) (fun i _ => a.l.length - (intOf i).toNat)
        case atStart => exact ⟨0, z, rfl, rfl, Nat.zero_le _, hDb, Lib.hid rfl⟩
        case round =>
          obtain ⟨j2, z2, rfl, rfl, hj2, hD2, hall⟩ := hrel
          clear hDb
          by_cases hlt2 : j2 < a.l.length
          · obtain ⟨bb, o, eA, hb, hld⟩ := (hKa z2).items.load j2 hlt2
            have hio := fun y : Wd z2.w => ((hKa z2).items.each _ (List.getElem_mem hlt2)).q y.q
            have hjl2 : (j2 : Int) < (a.l.length : Int) := by omega
            have HST := Lib.hid (all_take_next a.l (fun x => hasE b.l (digOf x)) j2 hlt2 hall.out)
            have HNO := Lib.hid (all_not_at a.l (fun x => hasE b.l (digOf x)) j2 hlt2)
            rw [eA]
            clear hKa eA
            generalize a.l[j2] = it at *
            go_wp2_with (first | (refine wpList_load_run 50 (.tmp 34) (.pointer (some ⟨bb, o + j2 * 49, none⟩)) (.agg (itA it)) ?_ ?_ ?_ ?_ ?_; rfl; rfl; rfl; exact hld ⟨_, Q.refl _⟩) | (refine wpList_store_blk (Blk.new z2.w 50 item0.cells.toArray) rfl 50 (.tmp 9) (.tmp 35) it.cells rfl rfl rfl (by kernel_rfl) (it_all _) (Nat.le_refl 49) ?_))
            intro W hW hbel
            rw [splice_all _ _ (by rfl)] at hW
            have hqz : Q z2.w W := hbel _ _ (Nat.le_refl _) (q_new _ _ _)
            have hLi : ∀ y : Wd W, (Instr.loadAt 50 (.pointer (some ⟨z2.w.heap.size, 0, none⟩))).run Tryz.prog y.w = .ok (.agg (itA it)) y.w := Wd.load hW.lt (Blk.range hW) Tryz.underlying50 rfl (by kernel_rfl)
            have hdg := fun y : Wd W => digest_any it y.w ((hTy z2).q (Q.trans hqz y.q)) (hio ⟨y.w, Q.trans hqz y.q⟩)
            have hDW := hD2.q hqz
            have hlk : ∀ y : Wd W, (Instr.lookup 100 (.map (some g)) (.string (digOf it)) false).run Tryz.prog y.w = .ok (.bool (hasD b.l (digOf it))) y.w := fun y => (hDW.q y.q).lookup Tryz.underlying100 Tryz.underlying9 (by intro w; kernel_rfl) (digOf it)
            have HQ3 := Lib.hid (Q.trans z2.q hqz)
            obtain ⟨v, hv⟩ := Wd.first W
            rw [hv]
            have HE := Lib.hid (show hasE b.l (digOf it) = (!noneB (digOf it) && hasD b.l (digOf it)) from rfl)
            have hDb' := hDW
            clear hW hbel hld hv hqz hio hTy hD2 hDW
            generalize hasE b.l (digOf it) = r at *
            generalize hasD b.l (digOf it) = q at *
            generalize digOf it = d2 at *
            have hSL : r = true → Hid ((a.l.take (j2 + 1)).all (fun x => hasE b.l (digOf x)) = true) := fun h => Lib.hid (HST.out h)
            cases hem : noneB d2
            · have hem' : d2.toList.isEmpty = false := by rw [empty_none]; exact hem
              have hem2 : (d2.toList == []) = false := by rw [← hem']; cases d2.toList <;> rfl
              rw [hem] at HE
              clear hem
              cases q
              · have hr : r = false := HE.out
                have HR := Lib.hid (show subK a b = false by unfold subK; rw [HNO.out hr]; rfl)
                clear hSL hr
                go_wp2_with (first | (refine wpList_load_run 50 (.tmp 9) (.pointer (some ⟨z2.w.heap.size, 0, none⟩)) (.agg (itA it)) ?_ ?_ ?_ ?_ ?_; rfl; rfl; rfl; exact hLi _) | (go_at_call 25; refine (hdg _).mono ?_; rintro e w' ⟨rfl, hq2⟩; obtain ⟨y5, rfl⟩ := Wd.next _ hq2; clear hq2))
                go_ret
                exact ⟨by rw [HR.out]; rfl, Q.trans HQ.out (Q.trans HQ3.out y5.q)⟩
              · have HS := hSL HE.out
                have HDB := Lib.hid hDb'
                go_wp2_with (first | (refine wpList_load_run 50 (.tmp 9) (.pointer (some ⟨z2.w.heap.size, 0, none⟩)) (.agg (itA it)) ?_ ?_ ?_ ?_ ?_; rfl; rfl; rfl; exact hLi _) | (go_at_call 25; refine (hdg _).mono ?_; rintro e w' ⟨rfl, hq2⟩; obtain ⟨y5, rfl⟩ := Wd.next _ hq2; clear hq2))
                exact ⟨⟨j2 + 1, ⟨y5.w, Q.trans HQ3.out y5.q⟩, by go_num, rfl, by omega, HDB.out.q y5.q, HS⟩, by simp only [intOf]; omega⟩
            · have hem' : d2.toList.isEmpty = true := by rw [empty_none]; exact hem
              have hem2 : (d2.toList == []) = true := by rw [← hem']; cases d2.toList <;> rfl
              rw [hem] at HE
              have hr : r = false := HE.out
              have HR := Lib.hid (show subK a b = false by unfold subK; rw [HNO.out hr]; rfl)
              clear hem hSL hr
              go_wp2_with (first | (refine wpList_load_run 50 (.tmp 9) (.pointer (some ⟨z2.w.heap.size, 0, none⟩)) (.agg (itA it)) ?_ ?_ ?_ ?_ ?_; rfl; rfl; rfl; exact hLi _) | (go_at_call 25; refine (hdg _).mono ?_; rintro e w' ⟨rfl, hq2⟩; obtain ⟨y5, rfl⟩ := Wd.next _ hq2; clear hq2))
              go_ret
              exact ⟨by rw [HR.out]; rfl, Q.trans HQ.out (Q.trans HQ3.out y5.q)⟩
          · have hjn2 : j2 = a.l.length := by omega
            have hall' := hall.out
            rw [hjn2, List.take_length] at hall'
            have HR := Lib.hid (show subK a b = true by unfold subK; rw [hall', HSV.out]; rfl)
            clear hjn2 hall'
            go_wp2_with fail
            go_ret
            exact ⟨by rw [HR.out]; rfl, Q.trans HQ.out z2.q⟩
end Go.Proofs.YtflgkplneekpfaaGreatDoor.Known

namespace Go.Proofs.YtflgkplneekpfaaGreatDoor.Vot
open Go.RowKit Grp Mem _root_.Go.Proofs.YtflgkplneekpfaaGreatDoor.Code Sha Sign _root_.Go.Proofs.YtflgkplneekpfaaGreatDoor.Item _root_.Go.Proofs.YtflgkplneekpfaaGreatDoor.Known Rng

theorem qskip {P : Program} {C : World → Prop} {ops : Array Oper} {rest : List Oper} {o : Oper} {a : Act} {K : Act → Prop} (hw : Region.wanted o (yielded ops a.tmps) = false) (h : wpQuiet P ops C K rest (a.put o.dst undef)) : wpQuiet P ops C K (o :: rest) a := by
  unfold wpQuiet
  rw [if_neg (by rw [hw]; exact Bool.false_ne_true)]
  exact h
theorem qmove {P : Program} {C : World → Prop} {ops : Array Oper} {rest : List Oper} {o : Oper} {a : Act} {K : Act → Prop} (x : Operand) (v : Value) (ho : o.op = .move x) (hw : Region.wanted o (yielded ops a.tmps) = true) (hx : a.eval x = v) (h : wpQuiet P ops C K rest (a.put o.dst v)) : wpQuiet P ops C K (o :: rest) a := by
  unfold wpQuiet
  rw [if_pos hw]
  refine ⟨v, ?_, h⟩
  intro w _
  unfold Oper.quietAt execOp
  simp only [ho, hx, Sem.run_bind, Result.andThen_ok, Sem.run_pure, Oper.quietUpon]
  exact ⟨trivial, trivial⟩
theorem gtV (a b : ByteArray) : (!Op.bytesLess a.toList b.toList && !(a.toList == b.toList)) = lessB b a := by
  cases h : lessB b a
  · rcases lessB_three b a with h2 | h2 | h2
    · rw [h] at h2; cases h2
    · subst h2
      simp
    · have : Op.bytesLess a.toList b.toList = true := h2
      simp [this]
  · have h1 : Op.bytesLess a.toList b.toList = false := lessB_asymm h
    have h2 : (a.toList == b.toList) = false := by
      rw [beq_eq_false_iff_ne]
      refine str_ne fun e => ?_
      subst e
      rw [lessB_irrefl] at h
      cases h
    rw [h1, h2]
    rfl
theorem addK_keeps (sv : List Int) (l : List ItemR) (x y : ItemR) (h : y ∈ l) : y ∈ addK sv l x := by
  unfold addK
  split
  · exact (mem_insK l x y).2 (.inr h)
  · exact h
theorem fillK_keeps (sv : List Int) (y : ItemR) : ∀ (k l : List ItemR), y ∈ l → y ∈ fillK sv l k
  | [], l, h => h
  | x :: k, l, h => fillK_keeps sv y k (addK sv l x) (addK_keeps sv l x y h)
theorem setV_late (p : PollR) (n : Nat) : setV p p.votes.length = fillK (pubs p.seed p.many.toNat) (setV p n) (castIs p.seed p.claims (p.votes.drop n)) := by
  unfold setV
  rw [← fillK_append, List.take_length]
  congr 1
  unfold castIs
  rw [← List.map_append, List.take_append_drop]
theorem setV_keeps (p : PollR) (n : Nat) (y : ItemR) (h : y ∈ setV p n) : y ∈ setV p p.votes.length := by
  rw [setV_late p n]
  exact fillK_keeps _ y _ _ h
theorem ballots_keep (p : PollR) (n : Nat) (actor : ByteArray) (gen : Int) (b : BallotV) (h : b ∈ ballotsS actor gen (setV p n)) : b ∈ ballotsS actor gen (setV p p.votes.length) := by
  unfold ballotsS takeB at h ⊢
  rw [List.map_map, List.mem_map] at h ⊢
  obtain ⟨it, hit, hb⟩ := h
  rw [List.mem_filter] at hit
  exact ⟨it, by rw [List.mem_filter]; exact ⟨setV_keeps p n it hit.1, hit.2⟩, hb⟩
theorem voters_keep (p : PollR) (n : Nat) (claim actor : ByteArray) (gen : Int) (x : Int) (h : x ∈ votersK claim (ballotsS actor gen (setV p n))) : x ∈ votersK claim (ballotsS actor gen (setV p p.votes.length)) := by
  obtain ⟨b, h1, h2⟩ := (voters_mem _ _ _).1 h
  exact (voters_mem _ _ _).2 ⟨b, ballots_keep p n actor gen b h1, h2⟩
/-- Two ascending lists, the one within the other: it is not longer. -/
theorem asc_len : ∀ (v w : List Int), v.Pairwise (· < ·) → w.Pairwise (· < ·) → (∀ x ∈ v, x ∈ w) → v.length ≤ w.length
  | [], w, _, _, _ => Nat.zero_le _
  | a :: v, w, hv, hw, h => by
    obtain ⟨v1, v2⟩ := List.pairwise_cons.1 hv
    have hs := asc_len v (w.filter fun x => decide (a < x)) v2 (hw.filter _) (fun x hx => by
      rw [List.mem_filter, decide_eq_true_eq]
      exact ⟨h x (List.mem_cons_of_mem _ hx), v1 x hx⟩)
    have ha := h a (List.mem_cons_self ..)
    have hl : (w.filter fun x => decide (a < x)).length < w.length := by
      have := List.length_filter_lt_length_iff_exists (l := w) (p := fun x => decide (a < x))
      exact this.2 ⟨a, ha, by simp⟩
    rw [List.length_cons]
    omega
theorem voters_grow (p : PollR) (n : Nat) (claim actor : ByteArray) (gen : Int) : (votersK claim (ballotsS actor gen (setV p n))).length ≤ (votersK claim (ballotsS actor gen (setV p p.votes.length))).length :=
  asc_len _ _ (voters_asc _ _) (voters_asc _ _) (voters_keep p n claim actor gen)

/-! ### The claims stay -/
theorem takeCl_ins (key : ByteArray) (l : List ItemR) (x : ItemR) (hx : x.kind = 2) : takeCl key (insK l x) = takeCl key l := by
  unfold takeCl insK
  have hn : (wantCl key x && itemRight x) = false := by
    unfold wantCl
    rw [hx]
    rfl
  rw [List.filter_append, List.filter_cons_of_neg (by rw [hn]; exact Bool.false_ne_true), ← List.filter_append, List.take_append_drop]
theorem takeCl_add (key : ByteArray) (sv : List Int) (l : List ItemR) (x : ItemR) (hx : x.kind = 2) : takeCl key (addK sv l x) = takeCl key l := by
  unfold addK
  split
  · exact takeCl_ins key l x hx
  · rfl
theorem takeCl_fill (key : ByteArray) (sv : List Int) : ∀ (k l : List ItemR), (∀ x ∈ k, x.kind = 2) → takeCl key (fillK sv l k) = takeCl key l
  | [], l, _ => rfl
  | x :: k, l, h => by
    show takeCl key (fillK sv (addK sv l x) k) = _
    rw [takeCl_fill key sv k _ fun y hy => h y (List.mem_cons_of_mem _ hy), takeCl_add key sv l x (h x (List.mem_cons_self ..))]
theorem cast_kind (seed : ByteArray) (l : List ClaimV) (v : List (Int × Int)) : ∀ x ∈ castIs seed l v, x.kind = 2 := by
  intro x hx
  obtain ⟨y, -, rfl⟩ := List.mem_map.1 hx
  rfl
theorem takeCl_late (p : PollR) (n : Nat) (key : ByteArray) : takeCl key (setV p p.votes.length) = takeCl key (setV p n) := by
  rw [setV_late p n]
  exact takeCl_fill key _ _ _ (cast_kind _ _ _)
theorem claims_late (p : PollR) (n : Nat) (key : ByteArray) : claimsS key (setV p p.votes.length) = claimsS key (setV p n) := by
  unfold claimsS
  rw [takeCl_late p n key]

/-! ### The claim that has won -/
theorem find_grow {α : Type} (r : α → α → Prop) (hr : ∀ a, r a a) (p q : α → Bool) : ∀ (l : List α), l.Pairwise r → (∀ a ∈ l, p a = true → q a = true) → ∀ a, l.find? p = some a → ∃ b, l.find? q = some b ∧ r b a
  | [], _, _, a, h => by cases h
  | x :: l, hl, hpq, a, h => by
    obtain ⟨h1, h2⟩ := List.pairwise_cons.1 hl
    cases hq : q x
    · cases hp : p x
      · rw [List.find?_cons_of_neg (by simp [hp])] at h
        rw [List.find?_cons_of_neg (by simp [hq])]
        exact find_grow r hr p q l h2 (fun b hb => hpq b (List.mem_cons_of_mem _ hb)) a h
      · rw [hpq x (List.mem_cons_self ..) hp] at hq
        cases hq
    · rw [List.find?_cons_of_pos hq]
      refine ⟨x, rfl, ?_⟩
      cases hp : p x
      · rw [List.find?_cons_of_neg (by simp [hp])] at h
        exact h1 a (List.mem_of_find?_eq_some h)
      · rw [List.find?_cons_of_pos hp] at h
        injection h with h
        exact h ▸ hr x
/-- The claims of an item's list, by their digests. -/
def DigLe (a b : ClaimV) : Prop := lessB (digC b) (digC a) = false
theorem mem_fill (sv : List Int) (y : ItemR) : ∀ (k l : List ItemR), y ∈ fillK sv l k → y ∈ l ∨ y ∈ k
  | [], l, h => .inl h
  | x :: k, l, h => by
    rcases mem_fill sv y k (addK sv l x) h with h | h
    · unfold addK at h
      split at h
      · rcases (mem_insK l x y).1 h with rfl | h
        · exact .inr (List.mem_cons_self ..)
        · exact .inl h
      · exact .inl h
    · exact .inr (List.mem_cons_of_mem _ h)
theorem setV_claim (p : PollR) (n : Nat) (x : ItemR) (h : x ∈ setV p n) (hk : x.kind = 1) : itClaim x.claim = x := by
  rcases mem_fill _ x _ _ h with h | h
  · rcases mem_fill _ x _ _ h with h | h
    · cases h
    · obtain ⟨c, -, rfl⟩ := List.mem_map.1 h
      rfl
  · have := cast_kind _ _ _ x h
    omega
theorem want_kind {key : ByteArray} {x : ItemR} (h : (wantCl key x && itemRight x) = true) : x.kind = 1 := by
  unfold wantCl at h
  simp only [Bool.and_eq_true, decide_eq_true_eq] at h
  exact h.1.1
theorem claims_dig (p : PollR) (n : Nat) (key : ByteArray) : (claimsS key (setV p n)).Pairwise DigLe := by
  unfold claimsS takeCl
  rw [List.map_map, List.pairwise_map]
  have ha : (setV p n).Pairwise fun a b => lessB (digOf a) (digOf b) = true := by
    have := (setV_filled p n).asc
    unfold Asc digs at this
    rwa [List.pairwise_map] at this
  refine List.Pairwise.imp_of_mem ?_ (ha.filter fun x => wantCl key x && itemRight x)
  intro a b hma hmb hab
  rw [List.mem_filter] at hma hmb
  show lessB (digOf (itClaim b.claim)) (digOf (itClaim a.claim)) = false
  rw [setV_claim p n a hma.1 (want_kind hma.2), setV_claim p n b hmb.1 (want_kind hmb.2)]
  exact lessB_asymm hab
/-- What wins: with the votes before n. -/
def wonP (p : PollR) (n : Nat) (c : ClaimV) : Option ClaimV := wonO (quorumK (pubs p.seed p.many.toNat).length) (ballotsS c.actor c.gen (setV p n)) c.gen (claimsS c.actor (setV p n))
theorem won_grow (p : PollR) (n : Nat) (c a : ClaimV) (h : wonP p n c = some a) : ∃ b, wonP p p.votes.length c = some b ∧ lessB (digC a) (digC b) = false := by
  unfold wonP wonO at h ⊢
  rw [claims_late p n]
  refine find_grow DigLe (fun a => lessB_irrefl _) _ _ _ (claims_dig p n c.actor) ?_ a h
  intro x _ hx
  unfold winsB at hx ⊢
  rw [Bool.and_eq_true, decide_eq_true_eq, decide_eq_true_eq] at hx ⊢
  have := voters_grow p n (digOf (itClaim x)) c.actor c.gen
  exact ⟨hx.1, by omega⟩
/-- The set with the votes before n is a part of the set with all. -/
theorem sub_grow (p : PollR) (n : Nat) : ((setV p n).all fun x => hasE (setV p p.votes.length) (digOf x)) = true := by
  rw [List.all_eq_true]
  intro x hx
  unfold hasE
  have hs := (setV_filled p n).all x hx
  rw [Bool.and_eq_true, hasD_iff]
  refine ⟨?_, List.mem_map.2 ⟨x, setV_keeps p n x hx, rfl⟩⟩
  have h32 := digOf_size hs
  simp [noneB, h32]
end Go.Proofs.YtflgkplneekpfaaGreatDoor.Vot

namespace Go.Proofs.YtflgkplneekpfaaGreatDoor.Vot
open Go.RowKit Grp Mem _root_.Go.Proofs.YtflgkplneekpfaaGreatDoor.Code Sha Sign _root_.Go.Proofs.YtflgkplneekpfaaGreatDoor.Item _root_.Go.Proofs.YtflgkplneekpfaaGreatDoor.Known Rng

/-- The list that a claim's voters are, with the votes before n. -/
def votG (p : PollR) (n : Nat) (c : ClaimV) : List Int := votersK (digC c) (ballotsS c.actor c.gen (setV p n))
theorem votG_le (p : PollR) (n : Nat) (c : ClaimV) (hv : Valid p) : (votG p n c).length ≤ 1000 := by
  have h := voters_le (digC c) (ballotsS c.actor c.gen (setV p n))
  unfold votG
  refine Nat.le_trans h ?_
  unfold ballotsS
  rw [List.length_map]
  have := takeB_le c.actor c.gen (setV p n) (setV p n).length
  rw [List.take_length] at this
  have h2 := setV_len p n
  have h3 := hv.c5
  have h4 := hv.v24
  omega
theorem gre_le (v : List Int) : ∀ (w : List Int) (a : Nat), a ≤ v.length → w.foldl (greStep v) a ≤ v.length
  | [], a, h => h
  | x :: r, a, h => by
    rw [List.foldl_cons]
    refine gre_le v r _ ?_
    unfold greStep
    split
    · rename_i hs
      have := (List.getElem?_eq_some_iff.1 hs).1
      omega
    · exact h

set_option maxRecDepth 100000 in
set_option maxHeartbeats 16000000 in
theorem grows_any (p : PollR) (n : Int) (w : World) (hT : Tab w) (hP : PollIn w p) (hn : n ≤ 9223372036854775807) (hb : ∀ c ∈ p.claims, c.actor.size ≤ 140737488351232 ∧ c.gen ≤ 9223372036854775807) :
    Calls Tryz.prog 4 #[.agg (pollA p), .int .i64 n] w fun e w' => e = .returned (.bool true) ∧ Q w w' := by
  obtain ⟨w1, x, hx, hq1, hbk⟩ := boxedB w 25 p.cells
  have hx : w.alloc (.cells (pollA p) 25) = x.w := hx
  have hLp : ∀ y : Wd w1, (Instr.loadAt 25 (.pointer (some ⟨w.heap.size, 0, none⟩))).run Tryz.prog y.w = .ok (.agg (pollA p)) y.w := Wd.load hbk.lt (Blk.range hbk) Tryz.underlying25 rfl (by kernel_rfl)
  have c2 : ∀ y : Wd w1, y.w.cell? ⟨w.heap.size, 2, none⟩ = some (.slice p.clA p.claims.length p.clC) := fun y => (y.blk hbk).cell 2
  have c3 : ∀ y : Wd w1, y.w.cell? ⟨w.heap.size, 3, none⟩ = some (.slice p.vA p.votes.length p.vC) := fun y => (y.blk hbk).cell 3
  have hPy : ∀ y : Wd w1, PollIn y.w p := fun y => hP.q (Q.trans hq1 y.q)
  have hTy : ∀ y : Wd w1, Tab y.w := fun y => hT.q (Q.trans hq1 y.q)
  have hSm := fun y : Wd w1 => small18_any y.w (hTy y)
  have HQ := Lib.hid hq1
  clear hbk hq1
  by_cases hv : Valid p
  rotate_left
  · have hVa := fun y : Wd w1 => valid_no p y.w (hPy y) hv
    clear hv hb hPy hTy c2 c3
    go_enter Tryz.func4, Tryz.ntmps4
    go_wp2_with (first | (go_at_call 8; refine (hSm _).mono ?_; rintro e w' ⟨rfl, hq2⟩; obtain ⟨y, rfl⟩ := Wd.next _ hq2; clear hq2) | (refine wpList_load_run 25 (.tmp 2) (.pointer (some ⟨w.heap.size, 0, none⟩)) (.agg (pollA p)) ?_ ?_ ?_ ?_ ?_; rfl; rfl; rfl; exact hLp _) | (go_at_call 9; refine (hVa _).mono ?_; rintro e w' ⟨rfl, hq2⟩; obtain ⟨y2, rfl⟩ := Wd.next _ hq2; clear hq2))
    go_ret
    exact ⟨rfl, Q.trans HQ.out y2.q⟩
  have hVa := fun y : Wd w1 => valid_yes p y.w (hPy y) hv
  by_cases hn0 : n < 0
  · clear hv hb hPy hTy c2 c3
    go_enter Tryz.func4, Tryz.ntmps4
    go_wp2_with (first | (go_at_call 8; refine (hSm _).mono ?_; rintro e w' ⟨rfl, hq2⟩; obtain ⟨y, rfl⟩ := Wd.next _ hq2; clear hq2) | (refine wpList_load_run 25 (.tmp 2) (.pointer (some ⟨w.heap.size, 0, none⟩)) (.agg (pollA p)) ?_ ?_ ?_ ?_ ?_; rfl; rfl; rfl; exact hLp _) | (go_at_call 9; refine (hVa _).mono ?_; rintro e w' ⟨rfl, hq2⟩; obtain ⟨y2, rfl⟩ := Wd.next _ hq2; clear hq2))
    go_ret
    exact ⟨rfl, Q.trans HQ.out y2.q⟩
  have hMa := fun y : Wd w1 => made_any p n y.w (hTy y) (hPy y) hv (by omega) hn hb
  have hMb := fun y : Wd w1 => made_any p (p.votes.length : Int) y.w (hTy y) (hPy y) hv (by omega) (by have := hv.v24; omega) hb
  have hgre : ∀ c : ClaimV, greK (votG p n.toNat c) (votG p p.votes.length c) = (votG p n.toNat c).length := fun c => gre_sub _ _ (voters_asc _ _) (voters_asc _ _) (voters_keep p n.toNat (digC c) c.actor c.gen)
  have hwon := won_grow p n.toNat
  have hle1 := fun c => votG_le p n.toNat c hv
  have hle2 := fun c => votG_le p p.votes.length c hv
  have hsub := sub_grow p n.toNat
  have hc5 := hv.c5
  have hasc1 := (setV_filled p n.toNat).asc
  have hasc2 := (setV_filled p p.votes.length).asc
  have hsl1 : (setV p n.toNat).length ≤ 1000 := by have h1 := setV_len p n.toNat; have h2 := hv.c5; have h3 := hv.v24; omega
  have hsl2 : (setV p p.votes.length).length ≤ 1000 := by have h1 := setV_len p p.votes.length; have h2 := hv.c5; have h3 := hv.v24; omega
  have hsv7 : (pubs p.seed p.many.toNat).length ≤ 1000000 := by rw [pubs_len]; have := hv.m7; omega
  clear hb
  go_enter Tryz.func4, Tryz.ntmps4
  go_upto_region 5 with (first | (go_at_call 8; refine (hSm _).mono ?_; rintro e w' ⟨rfl, hq2⟩; obtain ⟨y, rfl⟩ := Wd.next _ hq2; clear hq2) | (refine wpList_load_run 25 (.tmp 2) (.pointer (some ⟨w.heap.size, 0, none⟩)) (.agg (pollA p)) ?_ ?_ ?_ ?_ ?_; rfl; rfl; rfl; exact hLp _) | (go_at_call 9; refine (hVa _).mono ?_; rintro e w' ⟨rfl, hq2⟩; obtain ⟨y2, rfl⟩ := Wd.next _ hq2; clear hq2) | (go_at_call 10; refine (hMa _).mono ?_; rintro e w' ⟨k1, rfl, hks1, hkl1, hkK1, hq2⟩; obtain ⟨y3, rfl⟩ := Wd.next _ hq2; clear hq2) | (refine wpList_store_blk (Blk.new y3.w 31 known0.cells.toArray) rfl 31 (.tmp 6) (.tmp 29) k1.cells rfl rfl rfl (by kernel_rfl) (kn_all _) (Nat.le_refl 2) ?_))
  intro W2 hW2 hbel2
  rw [splice_all _ _ (by rfl)] at hW2
  have hq2 : Q w1 W2 := hbel2 _ _ y3.q.size (Q.trans y3.q (q_new _ _ _))
  have hK1 : KIn W2 k1 := hkK1.q (hbel2 _ _ (Nat.le_refl _) (q_new _ _ _))
  have hgk := hW2.lt
  generalize y3.w.heap.size = gk at *
  have hLp2 : ∀ y : Wd W2, (Instr.loadAt 25 (.pointer (some ⟨w.heap.size, 0, none⟩))).run Tryz.prog y.w = .ok (.agg (pollA p)) y.w := fun y => hLp ⟨y.w, Q.trans hq2 y.q⟩
  have c3' : ∀ y : Wd W2, y.w.cell? ⟨w.heap.size, 3, none⟩ = some (.slice p.vA p.votes.length p.vC) := fun y => c3 ⟨y.w, Q.trans hq2 y.q⟩
  have hMb2 := fun y : Wd W2 => hMb ⟨y.w, Q.trans hq2 y.q⟩
  dsimp only at hMb2
  have hvl : p.votes.length ≤ 24 := hv.v24
  obtain ⟨v2, hv2⟩ := Wd.first W2
  rw [hv2]
  go_upto_region 6 with (first | (refine wpList_load_run 25 (.tmp 2) (.pointer (some ⟨w.heap.size, 0, none⟩)) (.agg (pollA p)) ?_ ?_ ?_ ?_ ?_; rfl; rfl; rfl; exact hLp2 _) | (go_at_call 10; refine (hMb2 _).mono ?_; rintro e w' ⟨k2, rfl, hks2, hkl2, hkK2, hq3⟩; obtain ⟨y4, rfl⟩ := Wd.next _ hq3; clear hq3) | (refine wpList_store_blk (Blk.new y4.w 31 known0.cells.toArray) rfl 31 (.tmp 7) (.tmp 34) k2.cells rfl rfl rfl (by kernel_rfl) (kn_all _) (Nat.le_refl 2) ?_))
  intro W3 hW3 hbel3
  rw [splice_all _ _ (by rfl)] at hW3
  have hq23 : Q W2 W3 := hbel3 _ _ y4.q.size (Q.trans y4.q (q_new _ _ _))
  have hq3 : Q w1 W3 := Q.trans hq2 hq23
  have hK2 : KIn W3 k2 := hkK2.q (hbel3 _ _ (Nat.le_refl _) (q_new _ _ _))
  have hgl := hW3.lt
  generalize y4.w.heap.size = gl at *
  have hK1 := hK1.q hq23
  have hW2 := hW2.q hq23
  have hLk1 : ∀ z, Q W3 z → (Instr.loadAt 31 (.pointer (some ⟨gk, 0, none⟩))).run Tryz.prog z = .ok (.agg (knA k1)) z := fun z hz => Wd.load (P := Tryz.prog) (ty := 31) hW2.lt (Blk.range hW2) Tryz.underlying31 rfl (by kernel_rfl) ⟨z, hz⟩
  have hLk2 : ∀ z, Q W3 z → (Instr.loadAt 31 (.pointer (some ⟨gl, 0, none⟩))).run Tryz.prog z = .ok (.agg (knA k2)) z := fun z hz => Wd.load (P := Tryz.prog) (ty := 31) hW3.lt (Blk.range hW3) Tryz.underlying31 rfl (by kernel_rfl) ⟨z, hz⟩
  rw [show ((p.votes.length : Int)).toNat = p.votes.length from rfl] at hkl2
  have hT3 : ∀ z, Q W3 z → Tab z := fun z hz => hTy ⟨z, Q.trans hq3 hz⟩
  have hVo1 : ∀ (c : ClaimV) (z : World), Q W3 z → Calls Tryz.prog 14 #[.agg (knA k1), .string (digC c), .string c.actor, .int .i64 c.gen] z (VotersAre (votG p n.toNat c) z) := fun c z hz => by
    have := voters_any k1 (digC c) c.actor c.gen z (hT3 z hz) (hK1.q hz) (by rw [hkl1]; exact hsl1) (sortB_of (by rw [hkl1]; exact hasc1) _ _)
    rwa [hkl1] at this
  have hVo2 : ∀ (c : ClaimV) (z : World), Q W3 z → Calls Tryz.prog 14 #[.agg (knA k2), .string (digC c), .string c.actor, .int .i64 c.gen] z (VotersAre (votG p p.votes.length c) z) := fun c z hz => by
    have := voters_any k2 (digC c) c.actor c.gen z (hT3 z hz) (hK2.q hz) (by rw [hkl2]; exact hsl2) (sortB_of (by rw [hkl2]; exact hasc2) _ _)
    rwa [hkl2] at this
  have hWo1 : ∀ (c : ClaimV) (z : World), Q W3 z → Calls Tryz.prog 16 #[.agg (knA k1), .string c.actor, .int .i64 c.gen] z fun e w' => e = .returned (.tuple #[.agg (claimA (wonR (wonP p n.toNat c)).1), .bool (wonR (wonP p n.toNat c)).2]) ∧ Q z w' := fun c z hz => by
    have := won_any k1 c.actor c.gen z (hT3 z hz) (hK1.q hz) (by rw [hkl1]; exact hsl1) (by rw [hks1]; exact hsv7) (sortB_of (by rw [hkl1]; exact hasc1) _ _) (sortCl_of (by rw [hkl1]; exact hasc1) _)
    rwa [hkl1, hks1] at this
  have hWo2 : ∀ (c : ClaimV) (z : World), Q W3 z → Calls Tryz.prog 16 #[.agg (knA k2), .string c.actor, .int .i64 c.gen] z fun e w' => e = .returned (.tuple #[.agg (claimA (wonR (wonP p p.votes.length c)).1), .bool (wonR (wonP p p.votes.length c)).2]) ∧ Q z w' := fun c z hz => by
    have := won_any k2 c.actor c.gen z (hT3 z hz) (hK2.q hz) (by rw [hkl2]; exact hsl2) (by rw [hks2]; exact hsv7) (sortB_of (by rw [hkl2]; exact hasc2) _ _) (sortCl_of (by rw [hkl2]; exact hasc2) _)
    rwa [hkl2, hks2] at this
  have hSu : ∀ z : World, Q W3 z → Calls Tryz.prog 17 #[.agg (knA k1), .agg (knA k2)] z fun e w' => e = .returned (.bool true) ∧ Q z w' := fun z hz => by
    have := ksub_any k1 k2 z (hT3 z hz) (hK1.q hz) (hK2.q hz)
    rwa [show subK k1 k2 = true by unfold subK; rw [hkl1, hkl2, hks1, hks2, hsub]; simp] at this
  have hDg : ∀ (c : ClaimV) (z : World), Q W3 z → Calls Tryz.prog 15 #[.agg (claimA c)] z fun e w' => e = .returned (.string (digC c)) ∧ Q z w' := fun c z hz => digestC_any c z (hT3 z hz)
  have hCl : ∀ z, Q W3 z → RowsAt z p.clA 9 ClaimV.cells p.claims := fun z hz => (hPy ⟨z, Q.trans hq3 hz⟩).cl
  have d2 : ∀ y : Wd W3, y.w.cell? ⟨w.heap.size, 2, none⟩ = some (.slice p.clA p.claims.length p.clC) := fun y => c2 ⟨y.w, Q.trans hq3 y.q⟩
  have HQ3 := Lib.hid (Q.trans HQ.out hq3)
  obtain ⟨v, hv3⟩ := Wd.first W3
  rw [hv3]
  generalize hV1 : votG p n.toNat = V1 at *
  generalize hV2 : votG p p.votes.length = V2 at *
  generalize hO1 : wonP p n.toNat = O1 at *
  generalize hO2 : wonP p p.votes.length = O2 at *
  clear hV1 hV2 hO1 hO2 hbel2 hbel3 hW2 hW3 hq2 hq23 hq3 hv2 hv3 hkK1 hkK2 hks1 hks2 hkl1 hkl2 hVa hMa hMb hMb2 hSm hLp hLp2 hPy hTy c2 c3 c3' hasc1 hasc2 hsl1 hsl2 hsv7 hK1 hK2 hv hT3 hx hsub
  go_wp2_with fail
  go_loopw [8] (fun i wr => ∃ (j : Nat) (z : Wd W3), i = .int .i64 j ∧ wr = z.w ∧ j ≤ p.claims.length) (fun i _ => p.claims.length - (intOf i).toNat)
  case atStart => exact ⟨0, v, rfl, rfl, Nat.zero_le _⟩
  case round =>
    obtain ⟨j, z0, rfl, rfl, hj⟩ := hrel
    have d20 := d2 z0
    by_cases hlt : j < p.claims.length
    · have hjI : (j : Int) < (p.claims.length : Int) := by omega
      obtain ⟨b, o, eA, hb0, hcs⟩ := hCl z0.w z0.q (by omega)
      have hl1 : ∀ y : Wd z0.w, (Instr.loadAt 37 (.pointer (some ⟨b, o + j * 9, none⟩))).run Tryz.prog y.w = .ok (.agg (claimA p.claims[j])) y.w := Wd.load hb0 (hcs j hlt) Tryz.underlying37 rfl (by kernel_rfl)
      have d2z : ∀ y : Wd z0.w, y.w.cell? ⟨w.heap.size, 2, none⟩ = some (.slice (some ⟨b, o, none⟩) p.claims.length p.clC) := fun y => eA ▸ d2 ⟨y.w, Q.trans z0.q y.q⟩
      have hz0 := z0.q.size
      clear hcs eA d2 d20
      generalize p.claims[j] = ca at *
      generalize hncl : p.claims.length = ncl at *
      have d2a := d2z ⟨z0.w, Q.refl _⟩
      dsimp only at d2a
      go_wp2_with (first | (refine wpList_load_run 37 (.tmp 45) (.pointer (some ⟨b, o + j * 9, none⟩)) (.agg (claimA ca)) ?_ ?_ ?_ ?_ ?_; rfl; rfl; rfl; exact hl1 ⟨_, Q.refl _⟩) | (refine wpList_store_blk (Blk.new z0.w 37 claim0.cells.toArray) rfl 37 (.tmp 9) (.tmp 46) ca.cells rfl rfl rfl (by kernel_rfl) (claim_all _) (Nat.le_refl 9) ?_))
      intro W4 hW4 hbel4
      rw [splice_all _ _ (by rfl)] at hW4
      have hq04 : Q z0.w W4 := hbel4 _ _ (Nat.le_refl _) (q_new _ _ _)
      have hq4 : Q W3 W4 := Q.trans z0.q hq04
      have hga : z0.w.heap.size < W4.heap.size := hW4.lt
      have hLca : ∀ z, Q W4 z → (Instr.loadAt 37 (.pointer (some ⟨z0.w.heap.size, 0, none⟩))).run Tryz.prog z = .ok (.agg (claimA ca)) z := fun z hz => Wd.load (P := Tryz.prog) (ty := 37) hW4.lt (Blk.range hW4) Tryz.underlying37 rfl (by kernel_rfl) ⟨z, hz⟩
      have hAca : ∀ z, Q W4 z → z.cell? ⟨z0.w.heap.size, 0, none⟩ = some (.string ca.actor) := fun z hz => (hW4.q hz).cell 0
      have hGca : ∀ z, Q W4 z → z.cell? ⟨z0.w.heap.size, 3, none⟩ = some (.int .i64 ca.gen) := fun z hz => (hW4.q hz).cell 3
      clear hbel4 d2a hl1 d2z hb0 hW4
      generalize z0.w.heap.size = ga at *
      have hcur := Q.refl W4
      go_upto_region 10 with (fail)
      refine wp_region_S (fun z => Q W4 z) (by kernel_rfl) (Q.refl _).drew ?_
      intro z hz
      refine held_read 0 (v := .agg (knA k1)) rfl (by kernel_rfl) (by kernel_rfl) (by kernel_rfl) (by intro c a d v w h; cases d <;> exact h) rfl hz (fun z hz => exec_load 31 (.tmp 6) _ _ rfl rfl (hLk1 z (Q.trans hq4 hz))) ?_
      try simp only [Act.put, List.setIfInBounds_toArray, List.set_cons_succ, List.set_cons_zero]
      refine held_read 1 (v := .agg (claimA ca)) rfl (by kernel_rfl) (by kernel_rfl) (by kernel_rfl) (by intro c a d v w h; cases d <;> exact h) rfl hz (fun z hz => exec_load 37 (.tmp 9) _ _ rfl rfl (hLca z (Q.trans hcur hz))) ?_
      try simp only [Act.put, List.setIfInBounds_toArray, List.set_cons_succ, List.set_cons_zero]
      refine held_pure 3 (v := .pointer (some ⟨ga, 0, none⟩)) rfl (by kernel_rfl) (by kernel_rfl) (by kernel_rfl) (by intro c a d v w h; cases d <;> exact h) rfl hz (fun w => by rfl) ?_
      try simp only [Act.put, List.setIfInBounds_toArray, List.set_cons_succ, List.set_cons_zero]
      refine held_read 4 (v := .string ca.actor) rfl (by kernel_rfl) (by kernel_rfl) (by kernel_rfl) (by intro c a d v w h; cases d <;> exact h) rfl hz (fun z hz => exec_load 9 (.tmp 50) _ _ rfl rfl (load_str (hAca z (Q.trans hcur hz)))) ?_
      try simp only [Act.put, List.setIfInBounds_toArray, List.set_cons_succ, List.set_cons_zero]
      refine held_pure 5 (v := .pointer (some ⟨ga, 3, none⟩)) rfl (by kernel_rfl) (by kernel_rfl) (by kernel_rfl) (by intro c a d v w h; cases d <;> exact h) rfl hz (fun w => by rfl) ?_
      try simp only [Act.put, List.setIfInBounds_toArray, List.set_cons_succ, List.set_cons_zero]
      refine held_read 6 (v := .int .i64 ca.gen) rfl (by kernel_rfl) (by kernel_rfl) (by kernel_rfl) (by intro c a d v w h; cases d <;> exact h) rfl hz (fun z hz => exec_load 3 (.tmp 52) _ _ rfl rfl (load_int (hGca z (Q.trans hcur hz)))) ?_
      try simp only [Act.put, List.setIfInBounds_toArray, List.set_cons_succ, List.set_cons_zero]
      refine held_one 2 rfl (by kernel_rfl) rfl (fun K' hK' => ?_)
      go_simp
      refine (hDg ca z (Q.trans hq4 hz)).mono ?_
      rintro e z5 ⟨rfl, q5⟩
      refine hK' _ _ (Q.trans hz q5) ?_
      clear hK' K'
      try simp only [Act.put, List.setIfInBounds_toArray, List.set_cons_succ, List.set_cons_zero]
      refine held_one 7 rfl (by kernel_rfl) rfl (fun K' hK' => ?_)
      go_simp
      refine (hVo1 ca z5 (Q.trans hq4 (Q.trans hz q5))).mono ?_
      rintro e W5 ⟨A1, m1, rfl, -, -, hIa, q6⟩
      have hzW5 := Q.trans (Q.trans hz q5) q6
      refine hK' _ _ hzW5 ?_
      clear hK' K'
      try simp only [Act.put, List.setIfInBounds_toArray, List.set_cons_succ, List.set_cons_zero]
      refine held_pure 8 (v := .slice A1 (V1 ca).length m1) rfl (by kernel_rfl) (by kernel_rfl) (by kernel_rfl) (by intro c a d v w h; cases d <;> exact h) rfl hzW5 (fun w => by rfl) ?_
      try simp only [Act.put, List.setIfInBounds_toArray, List.set_cons_succ, List.set_cons_zero]
      refine wpAnyH_done (by kernel_rfl) ?_ _
      clear hz q5 q6
      clear z5 z
      have hq5 := Q.trans hq4 hzW5
      replace hcur := Q.trans hcur hzW5
      go_upto_region 11 with (fail)
      refine wp_region_S (fun z => Q W5 z) (by kernel_rfl) (Q.refl _).drew ?_
      intro z hz
      refine held_read 0 (v := .agg (knA k2)) rfl (by kernel_rfl) (by kernel_rfl) (by kernel_rfl) (by intro c a d v w h; cases d <;> exact h) rfl hz (fun z hz => exec_load 31 (.tmp 7) _ _ rfl rfl (hLk2 z (Q.trans hq5 hz))) ?_
      try simp only [Act.put, List.setIfInBounds_toArray, List.set_cons_succ, List.set_cons_zero]
      refine held_read 1 (v := .agg (claimA ca)) rfl (by kernel_rfl) (by kernel_rfl) (by kernel_rfl) (by intro c a d v w h; cases d <;> exact h) rfl hz (fun z hz => exec_load 37 (.tmp 9) _ _ rfl rfl (hLca z (Q.trans hcur hz))) ?_
      try simp only [Act.put, List.setIfInBounds_toArray, List.set_cons_succ, List.set_cons_zero]
      refine held_pure 3 (v := .pointer (some ⟨ga, 0, none⟩)) rfl (by kernel_rfl) (by kernel_rfl) (by kernel_rfl) (by intro c a d v w h; cases d <;> exact h) rfl hz (fun w => by rfl) ?_
      try simp only [Act.put, List.setIfInBounds_toArray, List.set_cons_succ, List.set_cons_zero]
      refine held_read 4 (v := .string ca.actor) rfl (by kernel_rfl) (by kernel_rfl) (by kernel_rfl) (by intro c a d v w h; cases d <;> exact h) rfl hz (fun z hz => exec_load 9 (.tmp 58) _ _ rfl rfl (load_str (hAca z (Q.trans hcur hz)))) ?_
      try simp only [Act.put, List.setIfInBounds_toArray, List.set_cons_succ, List.set_cons_zero]
      refine held_pure 5 (v := .pointer (some ⟨ga, 3, none⟩)) rfl (by kernel_rfl) (by kernel_rfl) (by kernel_rfl) (by intro c a d v w h; cases d <;> exact h) rfl hz (fun w => by rfl) ?_
      try simp only [Act.put, List.setIfInBounds_toArray, List.set_cons_succ, List.set_cons_zero]
      refine held_read 6 (v := .int .i64 ca.gen) rfl (by kernel_rfl) (by kernel_rfl) (by kernel_rfl) (by intro c a d v w h; cases d <;> exact h) rfl hz (fun z hz => exec_load 3 (.tmp 60) _ _ rfl rfl (load_int (hGca z (Q.trans hcur hz)))) ?_
      try simp only [Act.put, List.setIfInBounds_toArray, List.set_cons_succ, List.set_cons_zero]
      refine held_one 2 rfl (by kernel_rfl) rfl (fun K' hK' => ?_)
      go_simp
      refine (hDg ca z (Q.trans hq5 hz)).mono ?_
      rintro e z5 ⟨rfl, q5⟩
      refine hK' _ _ (Q.trans hz q5) ?_
      clear hK' K'
      try simp only [Act.put, List.setIfInBounds_toArray, List.set_cons_succ, List.set_cons_zero]
      refine held_one 7 rfl (by kernel_rfl) rfl (fun K' hK' => ?_)
      go_simp
      refine (hVo2 ca z5 (Q.trans hq5 (Q.trans hz q5))).mono ?_
      rintro e W6 ⟨A2, m2, rfl, -, -, hIb, q6⟩
      have hzW6 := Q.trans (Q.trans hz q5) q6
      refine hK' _ _ hzW6 ?_
      clear hK' K'
      try simp only [Act.put, List.setIfInBounds_toArray, List.set_cons_succ, List.set_cons_zero]
      refine held_pure 8 (v := .slice A2 (V2 ca).length m2) rfl (by kernel_rfl) (by kernel_rfl) (by kernel_rfl) (by intro c a d v w h; cases d <;> exact h) rfl hzW6 (fun w => by rfl) ?_
      try simp only [Act.put, List.setIfInBounds_toArray, List.set_cons_succ, List.set_cons_zero]
      refine wpAnyH_done (by kernel_rfl) ?_ _
      clear hz q5 q6
      clear z5 z
      have hq6 := Q.trans hq5 hzW6
      replace hcur := Q.trans hcur hzW6
      have hI1 : ∀ y : Wd W6, Ints y.w A1 (V1 ca) := fun y => (hIa.q hzW6).q y.q
      have hI2 : ∀ y : Wd W6, Ints y.w A2 (V2 ca) := fun y => hIb.q y.q
      have hgre2 := hgre ca
      have hwon2 := hwon ca
      have hl1 := hle1 ca
      have hl2 := hle2 ca
      have hwo1 := fun z hz => hWo1 ca z (Q.trans hq6 hz)
      have hwo2 := fun z hz => hWo2 ca z (Q.trans hq6 hz)
      have hdg := fun c z hz => hDg c z (Q.trans hq6 hz)
      have hk1 := fun z hz => hLk1 z (Q.trans hq6 hz)
      have hk2 := fun z hz => hLk2 z (Q.trans hq6 hz)
      have f1 : ∀ y : Wd W6, y.w.cell? ⟨ga, 0, none⟩ = some (.string ca.actor) := fun y => hAca y.w (Q.trans hcur y.q)
      have f2 : ∀ y : Wd W6, y.w.cell? ⟨ga, 3, none⟩ = some (.int .i64 ca.gen) := fun y => hGca y.w (Q.trans hcur y.q)
      have HQ6 := Lib.hid hq6
      have hg6 : ga < W6.heap.size := Nat.lt_of_lt_of_le hga hcur.size
      obtain ⟨v6, hv6⟩ := Wd.first W6
      rw [hv6]
      clear hv6 hVo1 hVo2 hDg hLk1 hLk2 hCl hLca hAca hGca hcur hq4 hq5 hq6 hzW5 hzW6 hIa hIb hgre hwon hle1 hle2 hWo1 hWo2 hSu hq04 hga
      generalize V1 ca = LA at *
      generalize V2 ca = LB at *
      generalize O1 ca = oa at *
      generalize O2 ca = ob at *
      go_wp2_with fail
      go_loopw [12, 13] (fun at_ i wr => ∃ (e : Nat) (z : Wd W6), at_ = .int .i64 (greK LA (LB.take e) : Nat) ∧ i = .int .i64 e ∧ wr = z.w ∧ e ≤ LB.length) (fun _ i _ => LB.length - (intOf i).toNat)
      case atStart => exact ⟨0, v6, rfl, rfl, rfl, Nat.zero_le _⟩
      case round =>
        obtain ⟨e, z7, rfl, rfl, rfl, he⟩ := hrel
        have hgl2 : greK LA (LB.take e) ≤ LA.length := gre_le LA _ 0 (Nat.zero_le _)
        have hways : (e < LB.length ∧ greK LA (LB.take e) < LA.length) ∨ ((¬ e < LB.length ∨ ¬ greK LA (LB.take e) < LA.length) ∧ greK LA (LB.take e) = LA.length) := by
          by_cases h1 : e < LB.length
          · by_cases h2 : greK LA (LB.take e) < LA.length
            · exact .inl ⟨h1, h2⟩
            · exact .inr ⟨.inr h2, by omega⟩
          · exact .inr ⟨.inl h1, by rw [List.take_of_length_le (by omega)]; exact hgre2⟩
        rcases hways with ⟨hel, hal⟩ | ⟨hex, hfull⟩
        · have HS := Lib.hid (gre_step LA LB e hel)
          have HT : Hid (greStep LA (greK LA (LB.take e)) LB[e] = if LA[greK LA (LB.take e)] = LB[e] then greK LA (LB.take e) + 1 else greK LA (LB.take e)) := Lib.hid (by
            unfold greStep
            rw [List.getElem?_eq_getElem hal]
            by_cases h : LA[greK LA (LB.take e)] = LB[e] <;> simp [h])
          obtain ⟨b1, o1, eA1, hb1, hc1⟩ := hI1 z7 (by omega)
          obtain ⟨b2, o2, eA2, hb2, hc2⟩ := hI2 z7 (by omega)
          have n1 : ∀ y : Wd z7.w, y.w.cell? ⟨b1, o1 + greK LA (LB.take e), none⟩ = some (.int .i64 LA[greK LA (LB.take e)]) := fun y => (y.cell hb1).trans (hc1 _ hal)
          have n2 : ∀ y : Wd z7.w, y.w.cell? ⟨b2, o2 + e, none⟩ = some (.int .i64 LB[e]) := fun y => (y.cell hb2).trans (hc2 e hel)
          subst eA1 eA2
          clear hc1 hc2 hgre2 hwon2
          generalize hea : LA[greK LA (LB.take e)] = ea at *
          generalize hG2 : greK LA (LB.take (e + 1)) = G2 at *
          clear hea
          generalize greK LA (LB.take e) = G at *
          generalize LB[e] = eb at *
          have heI : (e : Int) < (LB.length : Int) := by omega
          have hgI : (G : Int) < (LA.length : Int) := by omega
          have heI0 : (0 : Int) ≤ (e : Int) := by omega
          have hgI0 : (0 : Int) ≤ (G : Int) := by omega
          by_cases hab : eb = ea
          · have hG3 := Lib.hid (show G2 = G + 1 by rw [HS.out, HT.out, if_pos hab.symm])
            clear HS HT
            go_wp2_with fail
            refine wp_region_wd (⟨z7.w, Q.refl _⟩ : Wd z7.w) (by kernel_rfl) (by kernel_rfl) ?_
            repeat (go_big_quiet_step (fail))
            refine wpQuiet_nil ?_
            rintro w'' ⟨y, rfl⟩
            go_wp2_with fail
            exact ⟨⟨e + 1, ⟨y.w, Q.trans z7.q y.q⟩, by rw [hG2, hG3.out]; go_num, by go_num, rfl, by omega⟩, by simp only [intOf]; omega⟩
          · have hG3 := Lib.hid (show G2 = G by rw [HS.out, HT.out, if_neg (fun h => hab h.symm)])
            clear HS HT
            go_wp2_with fail
            refine wp_region_wd (⟨z7.w, Q.refl _⟩ : Wd z7.w) (by kernel_rfl) (by kernel_rfl) ?_
            repeat (go_big_quiet_step (fail))
            refine wpQuiet_nil ?_
            rintro w'' ⟨y, rfl⟩
            go_wp2_with fail
            exact ⟨⟨e + 1, ⟨y.w, Q.trans z7.q y.q⟩, by rw [hG2, hG3.out], by go_num, rfl, by omega⟩, by simp only [intOf]; omega⟩
        · rw [hfull]
          rw [hfull] at hex
          have g1 := f1 z7
          have g2 := f2 z7
          have hways : ¬ ((e : Int) < (LB.length : Int)) ∨ (((e : Int) < (LB.length : Int)) ∧ ¬ ((LA.length : Int) < (LA.length : Int))) := by omega
          clear hgre2 hI1 hI2 hfull hex hgl2
          rcases hways with g3 | ⟨g3, g4⟩
          all_goals
            go_upto_region 20 with (first | (refine wpList_load_run 31 (.tmp 6) (.pointer (some ⟨gk, 0, none⟩)) (.agg (knA k1)) ?_ ?_ ?_ ?_ ?_; rfl; rfl; rfl; exact hk1 _ z7.q) | (go_at_call 16; refine (hwo1 _ z7.q).mono ?_; rintro e5 w8 ⟨rfl, hq8⟩) | (refine wpList_store_blk (Blk.new w8 37 claim0.cells.toArray) rfl 37 (.tmp 14) (.tmp 93) (wonR oa).1.cells rfl rfl rfl (by kernel_rfl) (claim_all _) (Nat.le_refl 9) ?_))
            intro W8 hW8 hbel8
            rw [splice_all _ _ (by rfl)] at hW8
            have hq78 : Q z7.w W8 := hbel8 _ _ hq8.size (Q.trans hq8 (q_new _ _ _))
            have hq68 : Q W6 W8 := Q.trans z7.q hq78
            have g5 := f1 ⟨W8, hq68⟩
            have g6 := f2 ⟨W8, hq68⟩
            dsimp only at g5 g6
            have hg8 := hW8.lt
            clear hbel8 g1 g2
            generalize w8.heap.size = g8 at *
            go_upto_region 20 with (first | (refine wpList_load_run 31 (.tmp 7) (.pointer (some ⟨gl, 0, none⟩)) (.agg (knA k2)) ?_ ?_ ?_ ?_ ?_; rfl; rfl; rfl; exact hk2 _ hq68) | (go_at_call 16; refine (hwo2 _ hq68).mono ?_; rintro e5 w9 ⟨rfl, hq9⟩) | (refine wpList_store_blk (Blk.new w9 37 claim0.cells.toArray) rfl 37 (.tmp 16) (.tmp 102) (wonR ob).1.cells rfl rfl rfl (by kernel_rfl) (claim_all _) (Nat.le_refl 9) ?_))
            intro W9 hW9 hbel9
            rw [splice_all _ _ (by rfl)] at hW9
            have hq89 : Q W8 W9 := hbel9 _ _ hq9.size (Q.trans hq9 (q_new _ _ _))
            have hq69 : Q W6 W9 := Q.trans hq68 hq89
            have hW8 := hW8.q hq89
            have hLa : ∀ y : Wd W9, (Instr.loadAt 37 (.pointer (some ⟨g8, 0, none⟩))).run Tryz.prog y.w = .ok (.agg (claimA (wonR oa).1)) y.w := Wd.load hW8.lt (Blk.range hW8) Tryz.underlying37 rfl (by kernel_rfl)
            have hLb : ∀ y : Wd W9, (Instr.loadAt 37 (.pointer (some ⟨w9.heap.size, 0, none⟩))).run Tryz.prog y.w = .ok (.agg (claimA (wonR ob).1)) y.w := Wd.load hW9.lt (Blk.range hW9) Tryz.underlying37 rfl (by kernel_rfl)
            have hD9 : ∀ (c : ClaimV) (y : Wd W9), Calls Tryz.prog 15 #[.agg (claimA c)] y.w fun e w' => e = .returned (.string (digC c)) ∧ Q y.w w' := fun c y => hdg c y.w (Q.trans hq69 y.q)
            have HQ9 := Lib.hid (Q.trans HQ6.out hq69)
            clear hbel9 hq8 hq9 hq78 hq68 hq89 hq69 hW8 hW9 hdg hwo1 hwo2 hk1 hk2 f1 f2 g5 g6
            generalize w9.heap.size = g9 at *
            obtain ⟨v9, hv9⟩ := Wd.first W9
            rw [hv9]
            clear hv9
            have hneq : (LA.length : Int) = (LA.length : Int) := rfl
            cases hoa : oa with
            | none =>
              subst hoa
              clear hwon2
              go_upto_region 20 with (fail)
              rw [show (wonR (none : Option ClaimV)).2 = false from rfl]
              refine wp_region_wd v9 (by kernel_rfl) (by kernel_rfl) ?_
              iterate 6 (go_big_quiet_step (fail))
              with_reducible refine qmove (.tmp 109) (.bool false) (by kernel_rfl) (by kernel_rfl) (by kernel_rfl) ?_
              dsimp only [Act.put]
              simp only [List.setIfInBounds_toArray, List.set_cons_succ, List.set_cons_zero]
              iterate 9 (with_reducible refine qskip (by kernel_rfl) ?_; dsimp only [Act.put]; simp only [List.setIfInBounds_toArray, List.set_cons_succ, List.set_cons_zero])
              repeat (go_big_quiet_step (fail))
              refine wpQuiet_nil ?_
              rintro w'' ⟨y, rfl⟩
              go_wp2_with fail
              exact ⟨⟨j + 1, ⟨y.w, Q.trans HQ9.out y.q⟩, by go_num, rfl, by omega⟩, by simp only [intOf]; omega⟩
            | some xa =>
              subst hoa
              obtain ⟨xb, rfl, hless⟩ := hwon2 xa rfl
              have hDa := fun y : Wd W9 => hD9 xa y
              have hDb := fun y : Wd W9 => hD9 xb y
              have hLa' : ∀ y : Wd W9, (Instr.loadAt 37 (.pointer (some ⟨g8, 0, none⟩))).run Tryz.prog y.w = .ok (.agg (claimA xa)) y.w := hLa
              have hLb' : ∀ y : Wd W9, (Instr.loadAt 37 (.pointer (some ⟨g9, 0, none⟩))).run Tryz.prog y.w = .ok (.agg (claimA xb)) y.w := hLb
              clear hwon2 hD9 hLa hLb
              generalize digC xa = da at *
              generalize digC xb = db at *
              have hgt : (!Op.bytesLess db.toList da.toList && !(db.toList == da.toList)) = false := by rw [gtV db da]; exact hless
              have hways3 : Op.bytesLess db.toList da.toList = true ∨ (Op.bytesLess db.toList da.toList = false ∧ (db.toList == da.toList) = true) := by
                cases h1 : Op.bytesLess db.toList da.toList
                · rw [h1] at hgt
                  exact .inr ⟨rfl, by simpa using hgt⟩
                · exact .inl rfl
              clear hgt hless
              rcases hways3 with b1 | ⟨b1, b2⟩
              all_goals
                go_upto_region 20 with (fail)
                rw [show (wonR (some xa)).2 = true from rfl, show (wonR (some xb)).2 = true from rfl]
                refine wp_region_wd v9 (by kernel_rfl) (by kernel_rfl) ?_
                repeat (first | (refine wpQuiet_load_run 37 (.tmp 16) (.pointer (some ⟨g9, 0, none⟩)) (.agg (claimA xb)) ?_ ?_ ?_ ?_ ?_; rfl; rfl; rfl; exact hLb'; dsimp only [Act.put]; simp only [List.setIfInBounds_toArray, List.set_cons_succ, List.set_cons_zero]) | (refine wpQuiet_load_run 37 (.tmp 14) (.pointer (some ⟨g8, 0, none⟩)) (.agg (claimA xa)) ?_ ?_ ?_ ?_ ?_; rfl; rfl; rfl; exact hLa'; dsimp only [Act.put]; simp only [List.setIfInBounds_toArray, List.set_cons_succ, List.set_cons_zero]) | go_big_quiet_step (first | with_reducible exact Wd.call _ (hDa _) | with_reducible exact Wd.call _ (hDb _)))
                refine wpQuiet_nil ?_
                rintro w'' ⟨y, rfl⟩
                go_wp2_with fail
                exact ⟨⟨j + 1, ⟨y.w, Q.trans HQ9.out y.q⟩, by go_num, rfl, by omega⟩, by simp only [intOf]; omega⟩
    · have hjn : ¬ ((j : Int) < (p.claims.length : Int)) := by omega
      have hs1 := hSu
      go_wp2_with (first | (refine wpList_load_run 31 (.tmp 6) (.pointer (some ⟨gk, 0, none⟩)) (.agg (knA k1)) ?_ ?_ ?_ ?_ ?_; rfl; rfl; rfl; exact hLk1 _ z0.q) | (refine wpList_load_run 31 (.tmp 7) (.pointer (some ⟨gl, 0, none⟩)) (.agg (knA k2)) ?_ ?_ ?_ ?_ ?_; rfl; rfl; rfl; exact hLk2 _ z0.q) | (go_at_call 17; refine (hSu _ z0.q).mono ?_; rintro e w' ⟨rfl, hq8⟩))
      go_ret
      exact ⟨rfl, Q.trans HQ3.out (Q.trans z0.q hq8)⟩
end Go.Proofs.YtflgkplneekpfaaGreatDoor.Vot

namespace Go.Proofs.YtflgkplneekpfaaGreatDoor.ballotGrows
open Go.ChangeShapes Go.WideShapes Go.ChangeAt Go.RowKit
open Go.ChangeMaps (open_string)

theorem open_sl {α : Type} {H : Type} {enc : TypeId × Value → H} {P : Program} {W : World} {r : Reach} {b0 base : Nat} {held : Bool} {t e : TypeId} {k : Nat} {f : α → List Value} {G : α → Prop} {v : Value} {d : DataW H} {p : List MemPlace}
    (ht : P.underlying t = some (.slice e)) (hO : Mem.Opens enc P W base (fun _ => true) held t Mem.SliceR.cells (Mem.SliceR.Good W k f G)) (hval : Value.okWide P W r b0 t v) (h : DataW.Trod enc P W base (fun _ => true) held t v d p) :
    ∃ (A : Option Addr) (c : Nat) (l : List α), v = .slice A l.length c ∧ l.length ≤ c ∧ c ≤ maxLen ∧ Mem.RowsAt W A k f l ∧ ∀ a ∈ l, G a := by
  obtain ⟨A, n, c, rfl⟩ := okWide_slice ht hval
  obtain ⟨fuel, hf⟩ := h
  obtain ⟨s, hs, hg⟩ := hO fuel _ _ hf
  simp [Value.cells, Mem.SliceR.cells] at hs
  obtain ⟨rfl, rfl, rfl⟩ := hs
  exact ⟨s.A, s.c, s.l, rfl, hg.le, hg.cap, hg.rows, hg.all⟩

theorem laid_met (os : Os) : laidMet Tryz.prog Rows.ballotGrowsRow.laid ((Laid.laidWorld os #[.agg #[.string ⟨#[]⟩, .int .i64 0, .slice none 0 0, .slice none 0 0], .int .i64 0]).forCall (fun _ _ => 0) ⟨#[], #[.agg #[.string ⟨#[]⟩, .int .i64 0, .slice none 0 0, .slice none 0 0], .int .i64 0], []⟩).memory :=
  laidMet_of_run' 8 (by kernel_rfl) (by kernel_rfl)
theorem reads (os : Os) {H : Type} (enc : TypeId × Value → H) : ∃ places, DataW.whole enc Tryz.prog ((Laid.laidWorld os #[.agg #[.string ⟨#[]⟩, .int .i64 0, .slice none 0 0, .slice none 0 0], .int .i64 0]).forCall (fun _ _ => 0) ⟨#[], #[.agg #[.string ⟨#[]⟩, .int .i64 0, .slice none 0 0, .slice none 0 0], .int .i64 0], []⟩).memory Tryz.f4.params.toList Rows.ballotGrowsSpec.vars false #[Value.agg #[.string ⟨#[]⟩, .int .i64 0, .slice none 0 0, .slice none 0 0], .int .i64 0].toList 8 = some ([.agg [.lit (.string []), .lit (.int .i64 0), .nil, .nil], .lit (.int .i64 0)], [], places) :=
  ⟨[], by kernel_rfl⟩

set_option maxRecDepth 100000 in
theorem contract (H : Type) (enc : TypeId × Value → H) (W : World) (base : Nat) (args : Array Value) (ds gs : List (DataW H)) (before : List MemPlace)
    (hval : ∀ (j : Nat) t v, Tryz.f4.params[j]? = some t → args[j]? = some v → Value.okWide Tryz.prog W .any base t v)
    (hW : DataW.Whole enc Tryz.prog Tryz.f4.params.toList Rows.ballotGrowsSpec.vars false W args.toList ds gs before) (hz : (DataW.weightsEach Tryz.prog (Tryz.f4.params.toList ++ (OpenSpec.ofChange Rows.ballotGrowsSpec).bare.plain.varTypes Tryz.prog) (ds ++ gs)).all (· ≤ reachBytes) = true) (hL : laidMetH Tryz.prog Rows.ballotGrowsRow.laid W) :
    Calls Tryz.prog 4 args W fun e W' => ∃ v, e = .returned v ∧ Rows.ballotGrowsSpec.post enc Tryz.prog Tryz.f4 false true false false W args v W' := by
  have hW' := hW
  obtain ⟨p, q, hA0, hV, rfl, hfz, hnd⟩ := hW
  have hA : DataW.TrodAll enc Tryz.prog W 0 (fun _ => true) true Tryz.f4.params.toList args.toList ds p := hA0
  rw [Tryz.params4] at hA hval
  obtain ⟨v0, vs0, d0, ds0, p0, q0, hargs, rfl, rfl, h0, r0⟩ := trodAll_cons hA
  obtain ⟨v1, vs1, d1, ds1, p1, q1, rfl, rfl, rfl, h1, r1⟩ := trodAll_cons r0
  obtain ⟨rfl, rfl, rfl⟩ := trodAll_nil r1
  obtain rfl : args = #[v0, v1] := by cases args; simp_all
  obtain ⟨rfl, rfl⟩ := trodVars_none hV
  obtain ⟨k0, rfl, in0, ok0⟩ := Vot.open_poll hz (j := 0) rfl rfl (hval 0 25 v0 rfl rfl) h0
  obtain ⟨a1, rfl, w1⟩ := Laid.open_i64 Tryz.underlying3 (hval 1 3 v1 rfl rfl)
  clear hA0 hz
  refine (Vot.grows_any k0 a1 W (Laid.tab hL) in0 w1.2 ok0.big).mono fun e W' ⟨he, hg⟩ => ?_
  subst he
  exact ⟨_, rfl, Post.law_post (tb := 4) Laid.laidOut (by kernel_rfl) (by kernel_rfl) (by kernel_rfl) (by kernel_rfl) Tryz.underlying4 hW' rfl rfl rfl hg⟩

set_option maxRecDepth 100000 in
theorem lifted (os : Os) (started : os.Started) (H : Type) (enc : TypeId × Value → H) (F : Stop.Interp) :
    ReturnsInHanded {} Tryz.checked os 4 .any ((OpenSpec.ofChange Rows.ballotGrowsSpec).preRow enc Tryz.prog Tryz.f4 Rows.ballotGrowsRow.domain false Rows.ballotGrowsRow.laid) (((OpenSpec.ofChange Rows.ballotGrowsSpec).at F).post enc Tryz.prog Tryz.f4 false true false false) := by
  obtain ⟨places, hx⟩ := reads os enc
  refine returnsInHanded_of_row (C := Tryz.checked) (s := OpenSpec.ofChange Rows.ballotGrowsSpec) Laid.own started (by kernel_rfl) Tryz.func4
    (witness_row_at (enc := enc) (C := Tryz.checked) false (Laid.laidWorld os #[.agg #[.string ⟨#[]⟩, .int .i64 0, .slice none 0 0, .slice none 0 0], .int .i64 0]) #[.agg #[.string ⟨#[]⟩, .int .i64 0, .slice none 0 0, .slice none 0 0], .int .i64 0] rfl (by kernel_rfl) (by kernel_rfl) (by kernel_rfl)
      (OpenSpec.preRow_of_cond 8 hx (by kernel_rfl) (fun k hk => by cases hk) (by kernel_rfl) (laid_met os))) ?_
  intro W base args ds gs before hval hW _ _ hz hL _ _
  exact contract H enc W base args ds gs before hval hW hz hL

theorem c10 : (Rows.ballotGrowsRow.inPlace == Tryz.prog.inPlace 4) = true := by kernel_rfl
theorem c11 : (Rows.ballotGrowsRow.unfollowed == Tryz.prog.unfollowed 4) = true := by kernel_rfl
theorem c12 : (Rows.ballotGrowsRow.recurses == Tryz.prog.recurses 4) = true := by kernel_rfl
theorem c13 : (Rows.ballotGrowsRow.named == Tryz.prog.varsNamed 4) = true := by kernel_rfl
theorem closed : joinedFacts Tryz.prog 4 Tryz.f4 (OpenSpec.ofChange Rows.ballotGrowsSpec).bare Rows.ballotGrowsRow = true := by
  unfold joinedFacts
  rw [c10, c11, c12, c13]
  kernel_rfl
set_option maxRecDepth 100000 in
theorem said : Rows.BallotGrowsSaid :=
  OpenClaim.holds_of_cond 4 Tryz.f4 rfl rfl rfl rfl rfl rfl rfl ⟨rfl, rfl, rfl, rfl, rfl⟩ rfl rfl rfl rfl rfl (by kernel_rfl) Tryz.func4 closed
    (of_decide_eq_true (by kernel_rfl)) (by unfold Func.isWrapper; first | (rw [if_pos (by decide +kernel)]; kernel_rfl) | (rw [if_neg (by decide +kernel)]; exact ⟨rfl, rfl⟩))
    (fun os started H enc _ F => by rw [OpenClaim.pre_eq_preRow]; exact lifted os started H enc F)

theorem plain (f : FuncId) (fn : Func) (hf : Tryz.pinned.checked.prog.funcNamed "agora/agoralaw18.BallotGrows" = some f) (hfn : Tryz.pinned.checked.prog.funcs[f]? = some fn) :
    false = Tryz.pinned.checked.prog.looks [] ∧ ∀ (j : Nat) t, fn.params[j]? = some t → Tryz.pinned.checked.prog.wantsStandIn t = false := by
  obtain rfl : f = 4 := Option.some.inj ((show Tryz.prog.funcNamed "agora/agoralaw18.BallotGrows" = some 4 by kernel_rfl).symm.trans hf) |>.symm
  obtain rfl : fn = Tryz.f4 := (Option.some.inj (Tryz.func4.symm.trans hfn)).symm
  refine ⟨by kernel_rfl, fun j t ht => ?_⟩
  rw [Tryz.params4] at ht
  have hm := Array.mem_of_getElem? ht
  have hall : (#[25, 3] : Array TypeId).all (fun t => !Tryz.prog.wantsStandIn t) = true := by kernel_rfl
  have hb := (Array.all_eq_true_iff_forall_mem.mp hall) t hm
  show Tryz.prog.wantsStandIn t = false
  simpa using hb

theorem proved : Rows.BallotGrowsCardSaid :=
  Claim7.holds_tied_plain_at .later [] _ _ _ _ said (fun _ h => by cases h) (by kernel_rfl) (fun _ h => by cases h) ballotGrows_row_tie rfl ⟨rfl, rfl⟩ (by kernel_rfl) rfl plain (by kernel_rfl)
#print axioms proved
end Go.Proofs.YtflgkplneekpfaaGreatDoor.ballotGrows
