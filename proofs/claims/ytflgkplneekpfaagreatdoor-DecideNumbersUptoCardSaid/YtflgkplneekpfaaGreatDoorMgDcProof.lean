/-
  Plain laws for DecideNumbers: what the valid decisions of a filled set are. No walk in this text.
  The law's helper of layer 35: set.
  The law's helper of layer 35: few (printed by gen_decfew.py).
  The fixed example of agoralaw35 as plain data. No walk in this text.
  The walk of agoralaw35.small (printed by gen_decsmall.py).
  The law DecideNumbers, walked (printed by gen_num.py).
  What an argument's type gives, with the bound on its strings that the form's reach gives.
  What an argument's type gives: a list of decisions, with the bulk's bound (printed by gen_opendec.py).
  What an argument's type gives: a struct of two integers. How the contract of a law becomes its row: the law returns true, and below the heap's old size nothing has changed, so every argument reads as before. What the rows' list of tables gives: package sum's two tables hold what the text says; and a world for the witness.
  The statement DecideNumbers holds where what it reads is of bulk at most 1048576. The tables of package sum hold what the text lays.
-/
import Derived.Test.YtflgkplneekpfaaGreatDoorMgDb
import Derived.Test.YtflgkplneekpfaaGreatDoorMgDa
import Derived.Test.YtflgkplneekpfaaGreatDoorOpenItem
import Derived.SizedLaws
import Derived.Test.YtflgkplneekpfaaGreatDoorRows
import Derived.Test.YtflgkplneekpfaaGreatDoorProg
import Derived.WideShapes
import Derived.ProofKit
import Derived.OpenShut
import Derived.OpenVars
import Derived.Test.YtflgkplneekpfaaGreatDoorCards
import Derived.Test.YtflgkplneekpfaaGreatDoorTie
import Derived.Test.YtflgkplneekpfaaGreatDoorShaMix
import Derived.Deep.DeepHandedRow
import Derived.Lib.LaidTab
import Derived.ChangeMaps5
set_option linter.unusedVariables false
set_option linter.unusedSimpArgs false
namespace Go.Proofs.YtflgkplneekpfaaGreatDoor.Dec
open Go.RowKit Grp Mem _root_.Go.Proofs.YtflgkplneekpfaaGreatDoor.Code Sha Sign _root_.Go.Proofs.YtflgkplneekpfaaGreatDoor.Item _root_.Go.Proofs.YtflgkplneekpfaaGreatDoor.Known

theorem right_decK {x : ItemR} (h : itemRight x = true) (hk : x.kind = 3) : itemRight (itDec x.dec) = true := by
  unfold itemRight at h ⊢
  rw [if_neg (by omega), if_neg (by omega), if_neg (by omega), if_pos hk, Bool.and_eq_true] at h
  rw [if_neg (show ¬ (itDec x.dec).kind = 0 from fun hh => by cases (show (3 : Int) = 0 from hh)), if_neg (show ¬ (itDec x.dec).kind = 1 from fun hh => by cases (show (3 : Int) = 1 from hh)), if_neg (show ¬ (itDec x.dec).kind = 2 from fun hh => by cases (show (3 : Int) = 2 from hh)), if_pos (show (itDec x.dec).kind = 3 from rfl), Bool.and_eq_true]
  exact ⟨h.1, show (act0.same act0 && (claim0.same claim0 && ballot0.same ballot0)) = true by decide⟩
theorem dig_decK {x : ItemR} (h : itemRight x = true) (hk : x.kind = 3) : digOf (itDec x.dec) = digOf x := by
  have h2 := right_decK h hk
  have hb : itemBytesL (itDec x.dec) = itemBytesL x := by
    unfold itemBytesL itemL sigV
    rw [hk]
    rfl
  unfold digOf itemBytes
  rw [h, h2, hb]
theorem signed_decK {sv : List Int} {x : ItemR} (h : signedB sv x = true) (hk : x.kind = 3) : signedB sv (itDec x.dec) = true := by
  have hr : itemRight x = true := by
    unfold signedB at h
    rw [Bool.and_eq_true] at h
    exact h.1
  have hm : messageB (itDec x.dec) = messageB x := by
    unfold messageB itemL nameT
    rw [hk]
    rfl
  have hs : sigV (itDec x.dec) = sigV x := by
    unfold sigV
    rw [hk]
    rfl
  unfold signedB at h ⊢
  rw [right_decK hr hk, hm, hs]
  rw [hr, if_neg (by omega), if_pos hk] at h
  exact h
theorem dig_some35 {x : ItemR} (h : itemRight x = true) : noneB (digOf x) = false := by
  unfold digOf noneB
  rw [if_pos h, sha_size]
  rfl
/-- What is known of the valid decisions of a filled set, as they lie in memory. -/
structure NumF (sv : List Int) (s : Int) (K : List ItemR) (l : List DecR) : Prop where
  has : ∀ j (h : j < l.length), hasE K (digOf (itDec l[j])) = true
  sig : ∀ j (h : j < l.length), signedB sv (itDec l[j]) = true
  srv : ∀ j (h : j < l.length), l[j].server = s
  asc : ∀ j (h : j + 1 < l.length), l[j].number < l[j + 1].number
  all : ∀ e ∈ listDe s K, ∃ j, ∃ h : j < l.length, l[j].number = e.number
theorem numF_of {sv : List Int} {s : Int} {K : List ItemR} {l : List DecR} (hF : Filled sv K) (hl : l.map bare = validK sv (listDe s K)) : NumF sv s K l := by
  have hof : ∀ d ∈ l, ∃ x ∈ K, x.kind = 3 ∧ x.dec.server = s ∧ itemRight x = true ∧ bare d = bare x.dec ∧ signedB sv (itDec x.dec) = true := by
    intro d hd
    have hm : bare d ∈ validK sv (listDe s K) := hl ▸ List.mem_map.2 ⟨d, hd, rfl⟩
    rcases valid_of sv (listDe s K) [] (bare d) hm with h | ⟨e, he, h1, h2⟩
    · simp at h
    · obtain ⟨x, hx, ⟨hw, hr⟩, rfl⟩ := (listDe_mem s K e).1 he
      obtain ⟨hk, hs⟩ := want_de hw
      exact ⟨x, hx, hk, hs, hr, h1, h2⟩
  have hasc : (l.map bare).Pairwise fun a b => a.number < b.number := by
    rw [hl]
    exact valid_asc sv _ (listDe_asc s K)
  refine ⟨fun j h => ?_, fun j h => ?_, fun j h => ?_, fun j h => ?_, fun e he => ?_⟩
  · obtain ⟨x, hx, hk, hs, hr, hb, hg⟩ := hof _ (List.getElem_mem h)
    rw [dig_of_bare hb, dig_decK hr hk]
    unfold hasE hasD digs
    rw [dig_some35 hr, Bool.not_false, Bool.true_and, List.any_eq_true]
    exact ⟨digOf x, List.mem_map.2 ⟨x, hx, rfl⟩, by simp⟩
  · obtain ⟨x, hx, hk, hs, hr, hb, hg⟩ := hof _ (List.getElem_mem h)
    rw [signed_of_bare sv hb]
    exact hg
  · obtain ⟨x, hx, hk, hs, hr, hb, hg⟩ := hof _ (List.getElem_mem h)
    have : (bare l[j]).server = (bare x.dec).server := by rw [hb]
    exact this.trans hs
  · rw [List.pairwise_map, List.pairwise_iff_getElem] at hasc
    exact hasc j (j + 1) (by omega) h (by omega)
  · obtain ⟨x, hx, ⟨hw, hr⟩, rfl⟩ := (listDe_mem s K e).1 he
    obtain ⟨hk, hs⟩ := want_de hw
    obtain ⟨v, hv, hn⟩ := valid_all sv (listDe s K) [] x.dec he (signed_decK (hF.all x hx) hk)
    have hv' : v ∈ l.map bare := by
      rw [hl]
      exact hv
    obtain ⟨d, hd, rfl⟩ := List.mem_map.1 hv'
    obtain ⟨j, hj, rfl⟩ := List.mem_iff_getElem.1 hd
    exact ⟨j, hj, hn⟩
end Go.Proofs.YtflgkplneekpfaaGreatDoor.Dec

namespace Go.Proofs.YtflgkplneekpfaaGreatDoor.Dec
open Go.RowKit Grp Mem _root_.Go.Proofs.YtflgkplneekpfaaGreatDoor.Code Sha Sign _root_.Go.Proofs.YtflgkplneekpfaaGreatDoor.Item _root_.Go.Proofs.YtflgkplneekpfaaGreatDoor.Known

/-- A region that draws its order, from the world at hand, with a class that the others keep. -/
theorem region_H {P : Program} {id : Nat} {K : Exit → Act → World → Prop} {a : Act} {w : World} {l : List Oper} (S : World → Prop) (hm : P.follows .mixedOrders = true) (h : wpAnyH P .any l.toArray K S l.length (Array.replicate l.length false) a w.drew) : (Code.region id l.toArray true).wp P K a w := by
  refine wp_region_any hm ?_
  exact wpAny_of_held _ _ _ _ (by simpa using h)
theorem wp_read_run {P : Program} {o : Oper} {a : Act} {w : World} {v : Value} {K : Act → World → Prop} {Q : Exit → Act → World → Prop} (hr : (execOp a.eval o).run P w = .ok (.value v) w) (h : K (a.put o.dst v) w) : o.wp P a w K Q := by
  unfold Oper.wp
  rw [hr]
  exact h
/-- The set so far lies in its block. -/
structure KSt (W2 : World) (gk : Nat) (n : Nat) (wr : World) (k : KR) : Prop where
  q : Below gk W2 wr
  blk : Blk wr gk 31 k.cells.toArray
  inn : KIn wr k
  hsv : k.sv = pubs35
  fil : Filled pubs35 k.l
  len : k.l.length ≤ n
theorem known_only35 {w : World} {g : Nat} {k : KR} (h : Blk w g 31 k.cells.toArray) : ∀ o' v, w.cell? ⟨g, o', none⟩ = some v → ∃ A n c, v = .slice A n c := by
  intro o' v hv
  rw [h.cell] at hv
  rcases o' with _ | _ | n
  · exact ⟨_, _, _, (Option.some.inj hv).symm⟩
  · exact ⟨_, _, _, (Option.some.inj hv).symm⟩
  · simp [KR.cells] at hv
theorem KSt.step {W2 : World} {gk n n' : Nat} {wr w2 : World} {k k' : KR} (h : KSt W2 gk n wr k) (hq : Q wr w2) (hk : KIn w2 k') (hsv : k'.sv = pubs35) (hf : Filled pubs35 k'.l) (hn : k'.l.length ≤ n') : KSt W2 gk n' (w2.setCells gk 0 k'.cells) k' := by
  have hb2 := h.blk.q hq
  have hgk := h.blk.lt
  have hbel : Below gk W2 w2 := h.q.trans (hq.mono (Nat.le_of_lt hgk))
  have hsc : Blk (w2.setCells gk 0 k'.cells) gk 31 k'.cells.toArray := by
    have := Blk.setCells k'.cells 0 _ w2 hb2 (Nat.le_refl 2)
    rwa [splice_all _ _ (by rfl)] at this
  have hfar := fun b (hne : b ≠ gk) => setCells_far (g := gk) hne k'.cells 0 w2
  have hside : _root_.Go.Proofs.YtflgkplneekpfaaGreatDoor.Known.Aside w2 (w2.setCells gk 0 k'.cells) gk := ⟨known_only35 hb2, hfar, (below_setCells (Nat.le_refl _) k'.cells 0 w2 w2 (Below.refl gk w2)).size⟩
  exact ⟨below_setCells (Nat.le_refl _) k'.cells 0 W2 w2 hbel, hsc, hside.known hk, hsv, hf, hn⟩
theorem exec_index12 {o : Oper} {a : Act} {w : World} (x i : Operand) (b off n c m : Nat) (ho : o.op = .indexAddr 58 x i) (hx : a.eval x = .slice (some ⟨b, off, none⟩) n c) (hi : a.eval i = .int .i64 (m : Int)) (hm : m < n) : (execOp a.eval o).run Tryz.prog w = .ok (.value (.pointer (some ⟨b, off + m * 12, none⟩))) w := by
  have hs := Tryz.sizeOf48
  have ht := Tryz.underlying58
  have he : Tryz.prog.elem 58 = 48 := by kernel_rfl
  unfold execOp
  have hmI : (0 : Int) ≤ (m : Int) := by omega
  have hmn : (m : Int) < (n : Int) := by omega
  simp only [ho, hx, hi]
  go_simp
def SetIs (n : Nat) (w : World) (e : Ending) (w' : World) : Prop := ∃ k : KR, e = .returned (.agg (knA k)) ∧ k.sv = pubs35 ∧ Filled pubs35 k.l ∧ k.l.length ≤ n ∧ KIn w' k ∧ Q w w'

set_option maxRecDepth 100000 in
set_option maxHeartbeats 4000000 in
theorem set35_any (A : Option Addr) (c : Nat) (l : List DecR) (w : World) (hT : Tab w) (hR : RowsAt w A 12 DecR.cells l) (hI : ∀ d ∈ l, DecIn w d) (hF : ∀ d ∈ l, Fit d) (hl : l.length ≤ 14) :
    Calls Tryz.prog 21 #[.slice A l.length c] w (SetIs l.length w) := by
  have h2 := Blk.new w 31 (knA known0)
  have hq := q_new w (knA known0) 31
  obtain ⟨w3, hw3⟩ : ∃ w3, w3 = w.alloc (.cells (knA known0) 31) := ⟨_, rfl⟩
  rw [← hw3] at h2 hq
  have hBr : ∀ y : Wd w3, Blk y.w w.heap.size 31 known0.cells.toArray := fun y => y.blk h2
  have hPu := fun y : Wd w3 => pubs35_any y.w (hT.q (Q.trans hq y.q))
  have HQ := Lib.hid hq
  obtain ⟨u, hu⟩ : ∃ u : Wd w3, u.w = w3 := ⟨⟨w3, Q.refl _⟩, rfl⟩
  have HX := Lib.hid (hu.trans hw3)
  have hlt3 := h2.lt
  have hp3 : pubs35.length = 3 := rfl
  clear hu hw3 h2 hq
  generalize hnl : l.length = nl at *
  go_enter Tryz.func21, Tryz.ntmps21
  go_upto_region 1 with (fail)
  refine (show Code.wp _ _ _ _ u.w → Code.wp _ _ _ _ _ from fun h => by rw [HX.out] at h; exact h) ?_
  go_upto_region 2 with (first | (go_at_call 27; refine (hPu _).mono ?_; rintro e w' ⟨A3, c3, rfl, hI3, hq2⟩; have hnew := new_any A3 c3 pubs35 w' hI3 (by rw [hp3]; omega); rw [hp3] at hnew; obtain ⟨y, rfl⟩ := Wd.next _ hq2; clear hq2 hI3) | (go_at_call 36; refine hnew.mono ?_; rintro e w' ⟨kn, rfl, hks, hkl, hkK, hq2⟩; obtain ⟨y2, rfl⟩ := Wd.next _ hq2; clear hq2) | (refine wpList_store_blk (Blk.new y2.w 31 known0.cells.toArray) rfl 31 (.tmp 3) (.tmp 6) kn.cells rfl rfl rfl (by kernel_rfl) (kn_all _) (Nat.le_refl 2) ?_))
  intro W2 hB2 hbel2
  rw [splice_all _ _ (by rfl)] at hB2
  have hq32 : Q w3 W2 := hbel2 _ _ y2.q.size (Q.trans y2.q (q_new _ _ _))
  have hgk : w3.heap.size ≤ y2.w.heap.size := y2.q.size
  have hst0 : KSt W2 y2.w.heap.size 0 W2 kn := ⟨Below.refl _ _, hB2, hkK.q (hbel2 _ _ (Nat.le_refl _) (q_new _ _ _)), hks, by rw [hkl]; exact Filled.nil _, by rw [hkl]; exact Nat.le_refl _⟩
  have hgW : y2.w.heap.size < W2.heap.size := hB2.lt
  generalize y2.w.heap.size = gk at *
  have HST0 := Lib.hid hst0
  have HRW := Lib.hid (hBr ⟨W2, hq32⟩)
  have HQ2 := Lib.hid hq32
  clear hst0 hB2 hbel2 hkK hks hkl hnew hBr hPu
  go_wp2_with fail
  go_loopw [4] (fun i wr => ∃ (t : Nat) (k : KR), i = .int .i64 t ∧ t ≤ nl ∧ KSt W2 gk t wr k) (fun i _ => nl - (intOf i).toNat)
  case atStart => exact ⟨0, kn, rfl, Nat.zero_le _, HST0.out⟩
  case round =>
    obtain ⟨t, k, rfl, ht, hst⟩ := hrel
    have hqr : Q w wr := Below.trans (Q.trans HQ.out HQ2.out) (hst.q.mono (by omega))
    have hTr := hT.q hqr
    have hRr := hR.q hqr
    have hLk : ∀ y : Wd wr, (Instr.loadAt 31 (.pointer (some ⟨gk, 0, none⟩))).run Tryz.prog y.w = .ok (.agg (knA k)) y.w := Wd.load hst.blk.lt (Blk.range hst.blk) Tryz.underlying31 rfl (by kernel_rfl)
    by_cases hlt : t < nl
    · have hltL : t < l.length := by omega
      obtain ⟨b, o, eA, hb0, hcs⟩ := hR (by omega)
      have hld : ∀ z, Q w z → (Instr.loadAt 48 (.pointer (some ⟨b, o + t * 12, none⟩))).run Tryz.prog z = .ok (.agg (decA l[t])) z := fun z hz => Wd.load (P := Tryz.prog) (ty := 48) hb0 (hcs t hltL) Tryz.underlying48 rfl (by kernel_rfl) ⟨z, hz⟩
      have hS0 : ∀ z, Below gk W2 z → Q w z := fun z hz => Below.trans (Q.trans HQ.out HQ2.out) (hz.mono (by omega))
      have hdi := hI _ (List.getElem_mem hltL)
      have hfi := hF _ (List.getElem_mem hltL)
      have hlI : (t : Int) < (nl : Int) := by omega
      have htI : (0 : Int) ≤ (t : Int) := by omega
      have hlen : k.l.length ≤ 100000 := by have := hst.len; omega
      clear hcs
      subst eA
      generalize l[t] = d at *
      go_wp2_with fail
      refine region_H (fun z => Below gk W2 z) (by kernel_rfl) ?_
      have hqd : Q wr wr.drew := (Q.refl _).drew
      have hz0 : Below gk W2 wr.drew := hst.q.trans (hqd.mono (Nat.le_of_lt hst.blk.lt))
      refine held_pure 1 (v := .slice (some ⟨b, o, none⟩) nl c) rfl (by kernel_rfl) (by kernel_rfl) (by kernel_rfl) (by intro c a d v w h; cases d <;> exact h) rfl hz0 (fun w => by rfl) ?_
      try simp only [Act.put, List.setIfInBounds_toArray, List.set_cons_succ, List.set_cons_zero]
      refine held_pure 2 (v := .int .i64 (t : Int)) rfl (by kernel_rfl) (by kernel_rfl) (by kernel_rfl) (by intro c a d v w h; cases d <;> exact h) rfl hz0 (fun w => by rfl) ?_
      try simp only [Act.put, List.setIfInBounds_toArray, List.set_cons_succ, List.set_cons_zero]
      refine held_pure 3 (v := .pointer (some ⟨b, o + t * 12, none⟩)) rfl (by kernel_rfl) (by kernel_rfl) (by kernel_rfl) (by intro c a d v w h; cases d <;> exact h) rfl hz0 (fun w => exec_index12 (.tmp 15) (.tmp 16) b o nl c t rfl rfl rfl hlt) ?_
      try simp only [Act.put, List.setIfInBounds_toArray, List.set_cons_succ, List.set_cons_zero]
      refine held_read 4 (v := .agg (decA d)) rfl (by kernel_rfl) (by kernel_rfl) (by kernel_rfl) (by intro c a d v w h; cases d <;> exact h) rfl hz0 (fun z hz => exec_load 48 (.tmp 17) _ _ rfl rfl (hld z (hS0 z hz))) ?_
      try simp only [Act.put, List.setIfInBounds_toArray, List.set_cons_succ, List.set_cons_zero]
      refine held_fork 0 5 rfl rfl (by kernel_rfl) rfl rfl (fun K' hK' => ?_) (fun K' hK' => ?_)
      · refine wp_read_run (v := .agg (knA k)) (exec_load 31 (.tmp 3) _ _ rfl rfl (hLk ⟨wr.drew, hqd⟩)) ?_
        refine hK' _ _ hz0 ?_
        clear hK' K'
        try simp only [Act.put, List.setIfInBounds_toArray, List.set_cons_succ, List.set_cons_zero]
        refine held_one 5 rfl (by kernel_rfl) rfl (fun K' hK' => ?_)
        go_simp
        refine (signed35_any d wr.drew (hTr.q hqd) (hdi.q (Q.trans hqr hqd)) hfi).mono ?_
        rintro e w5 ⟨TB, uc, rfl, huR, hu1, hu2, q5⟩
        have hq5 := Q.trans hqd q5
        have hz5 : Below gk W2 w5 := hst.q.trans (hq5.mono (Nat.le_of_lt hst.blk.lt))
        refine hK' _ _ hz5 ?_
        clear hK' K'
        try simp only [Act.put, List.setIfInBounds_toArray, List.set_cons_succ, List.set_cons_zero]
        refine held_one 6 rfl (by kernel_rfl) rfl (fun K' hK' => ?_)
        go_simp
        refine (add_any k (itDec (DecR.to' (sgn35 d) TB uc)) w5 (hTr.q hq5) (hst.inn.q hq5) ⟨act0_in w5, dec_in huR hu1 hu2⟩ hlen).mono ?_
        rintro e w6 ⟨k', rfl, hsv, hl', hK2, q6⟩
        have hq6 := Q.trans hq5 q6
        have hz6 : Below gk W2 w6 := hst.q.trans (hq6.mono (Nat.le_of_lt hst.blk.lt))
        refine hK' _ _ hz6 ?_
        clear hK' K'
        try simp only [Act.put, List.setIfInBounds_toArray, List.set_cons_succ, List.set_cons_zero]
        refine held_pure 7 (v := .tuple #[.agg (knA k'), .bool (addOk k.sv k.l (itDec (DecR.to' (sgn35 d) TB uc)))]) rfl (by kernel_rfl) (by kernel_rfl) (by kernel_rfl) (by intro c a d v w h; cases d <;> exact h) rfl hz6 (fun w => by rfl) ?_
        try simp only [Act.put, List.setIfInBounds_toArray, List.set_cons_succ, List.set_cons_zero]
        refine held_pure 8 (v := .agg (knA k')) rfl (by kernel_rfl) (by kernel_rfl) (by kernel_rfl) (by intro c a d v w h; cases d <;> exact h) rfl hz6 (fun w => by rfl) ?_
        try simp only [Act.put, List.setIfInBounds_toArray, List.set_cons_succ, List.set_cons_zero]
        refine held_pure 9 (v := .bool (addOk k.sv k.l (itDec (DecR.to' (sgn35 d) TB uc)))) rfl (by kernel_rfl) (by kernel_rfl) (by kernel_rfl) (by intro c a d v w h; cases d <;> exact h) rfl hz6 (fun w => by rfl) ?_
        try simp only [Act.put, List.setIfInBounds_toArray, List.set_cons_succ, List.set_cons_zero]
        have hb2 := hst.blk.q hq6
        have HST2 : Hid (KSt W2 gk (t + 1) (w6.setCells gk 0 k'.cells) k') := Lib.hid (hst.step hq6 hK2 (hsv.trans hst.hsv) (by rw [hl', hst.hsv]; exact hst.fil.add _) (by
          rw [hl', addK_length]
          have := hst.len
          split <;> omega))
        refine held_one 10 rfl (by kernel_rfl) rfl (fun K' hK' => ?_)
        refine wp_store_mid 31 (.tmp 3) (.tmp 21) rfl gk 0 k'.cells.toArray rfl rfl (by simpa using hb2.there (Nat.le_refl 2)) (by kernel_rfl) (kn_all _) ?_
        refine hK' _ _ HST2.out.q ?_
        clear hK' K'
        refine wpAnyH_done (by kernel_rfl) ?_ _
        go_wp2_with fail
        exact ⟨⟨t + 1, k', by go_num, by omega, HST2.out⟩, by simp only [intOf]; omega⟩
      · go_simp
        refine (signed35_any d wr.drew (hTr.q hqd) (hdi.q (Q.trans hqr hqd)) hfi).mono ?_
        rintro e w5 ⟨TB, uc, rfl, huR, hu1, hu2, q5⟩
        have hq5 := Q.trans hqd q5
        have hz5 : Below gk W2 w5 := hst.q.trans (hq5.mono (Nat.le_of_lt hst.blk.lt))
        refine hK' _ _ hz5 ?_
        clear hK' K'
        try simp only [Act.put, List.setIfInBounds_toArray, List.set_cons_succ, List.set_cons_zero]
        refine held_one 0 rfl (by kernel_rfl) rfl (fun K' hK' => ?_)
        refine wp_read_run (v := .agg (knA k)) (exec_load 31 (.tmp 3) _ _ rfl rfl (hLk ⟨w5, hq5⟩)) ?_
        refine hK' _ _ hz5 ?_
        clear hK' K'
        try simp only [Act.put, List.setIfInBounds_toArray, List.set_cons_succ, List.set_cons_zero]
        refine held_one 6 rfl (by kernel_rfl) rfl (fun K' hK' => ?_)
        go_simp
        refine (add_any k (itDec (DecR.to' (sgn35 d) TB uc)) w5 (hTr.q hq5) (hst.inn.q hq5) ⟨act0_in w5, dec_in huR hu1 hu2⟩ hlen).mono ?_
        rintro e w6 ⟨k', rfl, hsv, hl', hK2, q6⟩
        have hq6 := Q.trans hq5 q6
        have hz6 : Below gk W2 w6 := hst.q.trans (hq6.mono (Nat.le_of_lt hst.blk.lt))
        refine hK' _ _ hz6 ?_
        clear hK' K'
        try simp only [Act.put, List.setIfInBounds_toArray, List.set_cons_succ, List.set_cons_zero]
        refine held_pure 7 (v := .tuple #[.agg (knA k'), .bool (addOk k.sv k.l (itDec (DecR.to' (sgn35 d) TB uc)))]) rfl (by kernel_rfl) (by kernel_rfl) (by kernel_rfl) (by intro c a d v w h; cases d <;> exact h) rfl hz6 (fun w => by rfl) ?_
        try simp only [Act.put, List.setIfInBounds_toArray, List.set_cons_succ, List.set_cons_zero]
        refine held_pure 8 (v := .agg (knA k')) rfl (by kernel_rfl) (by kernel_rfl) (by kernel_rfl) (by intro c a d v w h; cases d <;> exact h) rfl hz6 (fun w => by rfl) ?_
        try simp only [Act.put, List.setIfInBounds_toArray, List.set_cons_succ, List.set_cons_zero]
        refine held_pure 9 (v := .bool (addOk k.sv k.l (itDec (DecR.to' (sgn35 d) TB uc)))) rfl (by kernel_rfl) (by kernel_rfl) (by kernel_rfl) (by intro c a d v w h; cases d <;> exact h) rfl hz6 (fun w => by rfl) ?_
        try simp only [Act.put, List.setIfInBounds_toArray, List.set_cons_succ, List.set_cons_zero]
        have hb2 := hst.blk.q hq6
        have HST2 : Hid (KSt W2 gk (t + 1) (w6.setCells gk 0 k'.cells) k') := Lib.hid (hst.step hq6 hK2 (hsv.trans hst.hsv) (by rw [hl', hst.hsv]; exact hst.fil.add _) (by
          rw [hl', addK_length]
          have := hst.len
          split <;> omega))
        refine held_one 10 rfl (by kernel_rfl) rfl (fun K' hK' => ?_)
        refine wp_store_mid 31 (.tmp 3) (.tmp 21) rfl gk 0 k'.cells.toArray rfl rfl (by simpa using hb2.there (Nat.le_refl 2)) (by kernel_rfl) (kn_all _) ?_
        refine hK' _ _ HST2.out.q ?_
        clear hK' K'
        refine wpAnyH_done (by kernel_rfl) ?_ _
        go_wp2_with fail
        exact ⟨⟨t + 1, k', by go_num, by omega, HST2.out⟩, by simp only [intOf]; omega⟩
    · have hlI : ¬ ((t : Int) < (nl : Int)) := by omega
      have htn : t = nl := by omega
      subst htn
      have hBr2 : Blk wr w.heap.size 31 known0.cells.toArray := by
        have := HRW.out
        exact (hst.q.block w.heap.size (by omega)).trans this
      have HST := Lib.hid hst
      have HQR := Lib.hid hqr
      clear hst hqr hTr hRr
      go_wp2_with (first | (refine wpList_load_run 31 (.tmp 3) (.pointer (some ⟨gk, 0, none⟩)) (.agg (knA k)) ?_ ?_ ?_ ?_ ?_; rfl; rfl; rfl; exact hLk ⟨_, Q.refl _⟩) | (refine wpList_store_far hBr2 rfl 31 (.tmp 2) (.tmp 23) k.cells rfl rfl rfl (by kernel_rfl) (kn_all _) (Nat.le_refl 2) ?_))
      intro W5 hW5 hbel5 hfar5
      rw [splice_all _ _ (by rfl)] at hW5
      have hq5 : Q w W5 := hbel5 _ _ (Nat.le_refl _) HQR.out
      have hside : _root_.Go.Proofs.YtflgkplneekpfaaGreatDoor.Known.Aside wr W5 w.heap.size := ⟨known_only35 hBr2, hfar5, (hbel5 _ _ (Nat.le_refl _) (Below.refl _ wr)).size⟩
      have HFI : Hid (SetIs t w (.returned (.agg (knA k))) W5) := Lib.hid ⟨k, rfl, HST.out.hsv, HST.out.fil, HST.out.len, hside.known HST.out.inn, hq5⟩
      clear hbel5 hfar5 hside hq5
      go_wp2_with fail
      exact bodyPost_ret (results_cell_row rfl _ _ w.heap.size 31 (knA k) (0, 0) _ rfl hW5 Tryz.underlying31 rfl (by kernel_rfl)) rfl HFI.out
end Go.Proofs.YtflgkplneekpfaaGreatDoor.Dec

namespace Go.Proofs.YtflgkplneekpfaaGreatDoor.Dec
open Go.RowKit Grp Mem _root_.Go.Proofs.YtflgkplneekpfaaGreatDoor.Code Sha Sign _root_.Go.Proofs.YtflgkplneekpfaaGreatDoor.Item _root_.Go.Proofs.YtflgkplneekpfaaGreatDoor.Known

theorem dskip {P : Program} {C : World → Prop} {ops : Array Oper} {rest : List Oper} {o : Oper} {a : Act} {K : Act → Prop} (hw : Region.wanted o (yielded ops a.tmps) = false) (h : wpQuiet P ops C K rest (a.put o.dst undef)) : wpQuiet P ops C K (o :: rest) a := by
  unfold wpQuiet
  rw [if_neg (by rw [hw]; exact Bool.false_ne_true)]
  exact h
theorem dmove {P : Program} {C : World → Prop} {ops : Array Oper} {rest : List Oper} {o : Oper} {a : Act} {K : Act → Prop} (x : Operand) (v : Value) (ho : o.op = .move x) (hw : Region.wanted o (yielded ops a.tmps) = true) (hx : a.eval x = v) (h : wpQuiet P ops C K rest (a.put o.dst v)) : wpQuiet P ops C K (o :: rest) a := by
  unfold wpQuiet
  rw [if_pos hw]
  refine ⟨v, ?_, h⟩
  intro w _
  unfold Oper.quietAt execOp
  simp only [ho, hx, Sem.run_bind, Result.andThen_ok, Sem.run_pure, Oper.quietUpon]
  exact ⟨trivial, trivial⟩
def fewD (d : DecR) : Bool := decide (d.to.length ≤ 10) && (decide (d.text.size ≤ 5000) && decide (d.actor.size + d.object.size ≤ 200))
def fewL (l : List DecR) : Bool := decide (l.length ≤ 14) && l.all fewD
theorem all_next35 (l : List DecR) (j : Nat) (h : j < l.length) (h0 : (l.take j).all fewD = true) (h1 : fewD l[j] = true) : (l.take (j + 1)).all fewD = true := by
  rw [List.take_succ_eq_append_getElem h, List.all_append, h0]
  simp [h1]
theorem all_no35 (l : List DecR) (j : Nat) (h : j < l.length) (h1 : fewD l[j] = false) : l.all fewD = false := by
  rw [List.all_eq_false]
  exact ⟨_, List.getElem_mem h, by simp [h1]⟩
theorem few_ways (d : DecR) : (fewD d = false ∧ decide ((10 : Int) < (d.to.length : Int)) = true) ∨ (fewD d = false ∧ decide ((10 : Int) < (d.to.length : Int)) = false ∧ decide ((5000 : Int) < (d.text.size : Int)) = true) ∨
    (fewD d = false ∧ decide ((10 : Int) < (d.to.length : Int)) = false ∧ decide ((5000 : Int) < (d.text.size : Int)) = false ∧ decide ((200 : Int) < (d.actor.size : Int) + (d.object.size : Int)) = true) ∨
    (fewD d = true ∧ decide ((10 : Int) < (d.to.length : Int)) = false ∧ decide ((5000 : Int) < (d.text.size : Int)) = false ∧ decide ((200 : Int) < (d.actor.size : Int) + (d.object.size : Int)) = false) := by
  unfold fewD
  by_cases h1 : d.to.length ≤ 10
  · by_cases h2 : d.text.size ≤ 5000
    · by_cases h3 : d.actor.size + d.object.size ≤ 200
      · exact .inr (.inr (.inr ⟨by simp [h1, h2, h3], decide_eq_false (by omega), decide_eq_false (by omega), decide_eq_false (by omega)⟩))
      · exact .inr (.inr (.inl ⟨by simp [h3], decide_eq_false (by omega), decide_eq_false (by omega), decide_eq_true (by omega)⟩))
    · exact .inr (.inl ⟨by simp [h2], decide_eq_false (by omega), decide_eq_true (by omega)⟩)
  · exact .inl ⟨by simp [h1], decide_eq_true (by omega)⟩
set_option maxRecDepth 100000 in
set_option maxHeartbeats 8000000 in
theorem few35_any (A : Option Addr) (c : Nat) (l : List DecR) (w : World) (hR : RowsAt w A 12 DecR.cells l) (hb : ∀ d ∈ l, d.actor.size ≤ 140737488355328 ∧ d.object.size ≤ 140737488355328) (hlm : l.length ≤ maxLen) :
    Calls Tryz.prog 19 #[.slice A l.length c] w fun e w' => e = .returned (.bool (fewL l)) ∧ Q w w' := by
  have hmx : maxLen = 9223372036854775807 := by decide
  by_cases h14 : l.length ≤ 14
  rotate_left
  · have HE := Lib.hid (show fewL l = false by unfold fewL; rw [decide_eq_false h14]; rfl)
    generalize fewL l = fl at *
    generalize l.length = nl at *
    have d0 : decide ((14 : Int) < (nl : Int)) = true := decide_eq_true (by omega)
    go_enter Tryz.func19, Tryz.ntmps19
    go_wp2_with fail
    go_ret
    exact ⟨by rw [HE.out]; rfl, Q.refl _⟩
  have HL : ∀ b, l.all fewD = b → fewL l = b := fun b h => by unfold fewL; rw [decide_eq_true h14, h]; rfl
  obtain ⟨x, hx⟩ := Wd.first w
  refine (show Calls Tryz.prog 19 #[.slice A l.length c] x.w _ → _ from fun h => by rwa [← hx] at h) ?_
  clear hx
  generalize hfl : fewL l = fl at *
  generalize hnl : l.length = nl at *
  have d0 : decide ((14 : Int) < (nl : Int)) = false := decide_eq_false (by omega)
  go_enter Tryz.func19, Tryz.ntmps19
  go_wp2_with fail
  go_loopw [3] (fun i wr => ∃ (j : Nat) (z : Wd w), i = .int .i64 j ∧ wr = z.w ∧ j ≤ nl ∧ Hid ((l.take j).all fewD = true)) (fun i _ => nl - (intOf i).toNat)
  case atStart => exact ⟨0, x, rfl, rfl, Nat.zero_le _, Lib.hid rfl⟩
  case round =>
    obtain ⟨j, z, rfl, rfl, hj, hall⟩ := hrel
    by_cases hlt : j < nl
    · have hltL : j < l.length := by omega
      have hltI : (j : Int) < (nl : Int) := by omega
      have hjI : (0 : Int) ≤ (j : Int) := by omega
      obtain ⟨b, o, eA, hb0, hcs⟩ := hR (by omega)
      have hcj := hcs j hltL
      have c6 := Wd.get hb0 hcj 6 (v := .slice l[j].toA l[j].to.length l[j].toC) rfl
      have c5 := Wd.get hb0 hcj 5 (v := .string l[j].text) rfl
      have c3 := Wd.get hb0 hcj 3 (v := .string l[j].actor) rfl
      have c4 := Wd.get hb0 hcj 4 (v := .string l[j].object) rfl
      have hbd := hb _ (List.getElem_mem hltL)
      have hways := few_ways l[j]
      have HN := Lib.hid (all_next35 l j hltL hall.out)
      have HO := Lib.hid (all_no35 l j hltL)
      clear hcs hcj hall hb hR
      subst eA
      generalize l[j] = d at *
      rcases hways with ⟨HB, h1⟩ | ⟨HB, h1, h2⟩ | ⟨HB, h1, h2, h3⟩ | ⟨HB, h1, h2, h3⟩
      · have HE : Hid (fl = false) := Lib.hid (HL _ (HO.out HB))
        clear HN HO HB HL
        go_upto_region 6 with (fail)
        refine wp_region_wd z (by kernel_rfl) (by kernel_rfl) ?_
        iterate 7 (go_big_quiet_step (fail))
        with_reducible refine dmove (.tmp 19) (.bool true) (by kernel_rfl) (by kernel_rfl) (by kernel_rfl) ?_
        dsimp only [Act.put]
        simp only [List.setIfInBounds_toArray, List.set_cons_succ, List.set_cons_zero]
        iterate 7 (with_reducible refine dskip (by kernel_rfl) ?_; dsimp only [Act.put]; simp only [List.setIfInBounds_toArray, List.set_cons_succ, List.set_cons_zero])
        iterate 1 (go_big_quiet_step (fail))
        with_reducible refine dmove (.tmp 28) (.bool true) (by kernel_rfl) (by kernel_rfl) (by kernel_rfl) ?_
        dsimp only [Act.put]
        simp only [List.setIfInBounds_toArray, List.set_cons_succ, List.set_cons_zero]
        iterate 14 (with_reducible refine dskip (by kernel_rfl) ?_; dsimp only [Act.put]; simp only [List.setIfInBounds_toArray, List.set_cons_succ, List.set_cons_zero])
        repeat (go_big_quiet_step (fail))
        refine wpQuiet_nil ?_
        rintro w'' ⟨y, rfl⟩
        go_wp2_with fail
        go_ret
        exact ⟨by rw [HE.out]; rfl, y.q⟩
      · have HE : Hid (fl = false) := Lib.hid (HL _ (HO.out HB))
        clear HN HO HB HL
        go_upto_region 6 with (fail)
        refine wp_region_wd z (by kernel_rfl) (by kernel_rfl) ?_
        iterate 16 (go_big_quiet_step (fail))
        with_reducible refine dmove (.tmp 28) (.bool true) (by kernel_rfl) (by kernel_rfl) (by kernel_rfl) ?_
        dsimp only [Act.put]
        simp only [List.setIfInBounds_toArray, List.set_cons_succ, List.set_cons_zero]
        iterate 14 (with_reducible refine dskip (by kernel_rfl) ?_; dsimp only [Act.put]; simp only [List.setIfInBounds_toArray, List.set_cons_succ, List.set_cons_zero])
        repeat (go_big_quiet_step (fail))
        refine wpQuiet_nil ?_
        rintro w'' ⟨y, rfl⟩
        go_wp2_with fail
        go_ret
        exact ⟨by rw [HE.out]; rfl, y.q⟩
      · have HE : Hid (fl = false) := Lib.hid (HL _ (HO.out HB))
        clear HN HO HB HL
        go_upto_region 6 with (fail)
        refine wp_region_wd z (by kernel_rfl) (by kernel_rfl) ?_
        repeat (go_big_quiet_step (fail))
        refine wpQuiet_nil ?_
        rintro w'' ⟨y, rfl⟩
        go_wp2_with fail
        go_ret
        exact ⟨by rw [HE.out]; rfl, y.q⟩
      · have HE := Lib.hid (HN.out HB)
        clear HN HO HB HL
        go_upto_region 6 with (fail)
        refine wp_region_wd z (by kernel_rfl) (by kernel_rfl) ?_
        repeat (go_big_quiet_step (fail))
        refine wpQuiet_nil ?_
        rintro w'' ⟨y, rfl⟩
        go_wp2_with fail
        exact ⟨⟨j + 1, y, by go_num, rfl, by omega, HE⟩, by simp only [intOf]; omega⟩
    · obtain rfl : j = nl := by omega
      have HE : Hid (fl = true) := Lib.hid (HL _ (by have := hall.out; rwa [← hnl, List.take_length] at this))
      have hnl2 : ¬ ((j : Int) < (j : Int)) := by omega
      clear HL hall
      go_wp2_with fail
      go_ret
      exact ⟨by rw [HE.out]; rfl, z.q⟩
end Go.Proofs.YtflgkplneekpfaaGreatDoor.Dec

namespace Go.Proofs.YtflgkplneekpfaaGreatDoor.Dec
open Go.RowKit Grp Mem _root_.Go.Proofs.YtflgkplneekpfaaGreatDoor.Code Sha Sign _root_.Go.Proofs.YtflgkplneekpfaaGreatDoor.Item _root_.Go.Proofs.YtflgkplneekpfaaGreatDoor.Known

def smAc : ByteArray := ⟨#[48, 49, 50, 51, 52, 53, 54, 55, 56, 57, 97, 98, 99, 100, 101, 102]⟩
def smDS : ByteArray := ⟨#[219, 124, 156, 205, 150, 174, 220, 172, 181, 57, 194, 225, 251, 52, 141, 130, 186, 163, 53, 176, 119, 111, 6, 67, 159, 217, 186, 39, 225, 240, 100, 195]⟩
def smDU : ByteArray := ⟨#[192, 46, 11, 50, 35, 129, 83, 24, 137, 100, 252, 255, 79, 218, 200, 155, 186, 38, 247, 246, 45, 6, 57, 144, 72, 96, 174, 241, 73, 59, 58, 207]⟩
/-- A trust of the actor until 10. -/
def smd0 : DecR := ⟨0, 0, 6, smAc, emptyT, emptyT, [], none, 0, 0, 0, 10, 0, 0⟩
/-- Its undoing from 5 until 8. -/
def smu0 : DecR := ⟨0, 1, 5, emptyT, smDS, emptyT, [], none, 0, 0, 5, 8, 0, 0⟩
def smS : DecR := ⟨0, 0, 6, smAc, emptyT, emptyT, [], none, 0, 0, 0, 10, 128022132173032321, 1608187927183916359⟩
def smU : DecR := ⟨0, 1, 5, emptyT, smDS, emptyT, [], none, 0, 0, 5, 8, 2107290388992210874, 1169192077769715495⟩
theorem sm35_k0 : key35 0 = (2294642438699981438, 2157308772217080613) := by decide +kernel
theorem sm35_sS : sigOf (2294642438699981438, 2157308772217080613) (messageB (itDec smd0)) = (128022132173032321, 1608187927183916359) := by decide +kernel
theorem sm35_sU : sigOf (2294642438699981438, 2157308772217080613) (messageB (itDec smu0)) = (2107290388992210874, 1169192077769715495) := by decide +kernel
theorem sm35_S : sgn35 smd0 = smS := by
  unfold sgn35
  rw [show srv3 smd0 = smd0 from rfl, show (smd0.server % 3).toNat = 0 from rfl, sm35_k0]
  unfold signDec
  rw [sm35_sS]
  rfl
theorem sm35_U : sgn35 smu0 = smU := by
  unfold sgn35
  rw [show srv3 smu0 = smu0 from rfl, show (smu0.server % 3).toNat = 0 from rfl, sm35_k0]
  unfold signDec
  rw [sm35_sU]
  rfl
theorem sm35_dS : digOf (itDec smS) = smDS := by decide +kernel
theorem sm35_dU : digOf (itDec smU) = smDU := by decide +kernel
theorem sm35_gS : signedB pubs35 (itDec smS) = true := by decide +kernel
theorem sm35_gU : signedB pubs35 (itDec smU) = true := by decide +kernel
theorem sm35_fit0 : Fit smd0 := ⟨⟨fun h => absurd h (by decide), fun h => absurd h (by decide), fun _ _ => by decide⟩, by decide, by decide⟩
theorem sm35_fitu : Fit smu0 := ⟨⟨fun h => absurd h (by decide), fun h => absurd h (by decide), fun _ _ => by decide⟩, by decide, by decide⟩

/-! ### The two sets -/
theorem addK_ok35 {sv : List Int} {l : List ItemR} {x : ItemR} (h1 : signedB sv x = true) (h2 : hasD l (digOf x) = false) : addK sv l x = insK l x := by
  unfold addK addOk
  rw [h1, h2]
  rfl
theorem addOk_ok35 {sv : List Int} {l : List ItemR} {x : ItemR} (h1 : signedB sv x = true) (h2 : hasD l (digOf x) = false) : addOk sv l x = true := by
  unfold addOk
  rw [h1, h2]
  rfl
theorem right_signed35 {sv : List Int} {x : ItemR} (h : signedB sv x = true) : itemRight x = true := by
  unfold signedB at h
  rw [Bool.and_eq_true] at h
  exact h.1
variable (SA : Option Addr) (sc : Nat) (UA : Option Addr) (uc : Nat)
def smIS : ItemR := itDec (DecR.to' smS SA sc)
def smIU : ItemR := itDec (DecR.to' smU UA uc)
theorem smIS_dig : digOf (smIS SA sc) = smDS := sm35_dS
theorem smIU_dig : digOf (smIU UA uc) = smDU := sm35_dU
theorem smIS_sg : signedB pubs35 (smIS SA sc) = true := sm35_gS
theorem smIU_sg : signedB pubs35 (smIU UA uc) = true := sm35_gU
theorem sm35_ok1 : addOk pubs35 [] (smIS SA sc) = true := addOk_ok35 (smIS_sg _ _) rfl
theorem sm35_add1 : addK pubs35 [] (smIS SA sc) = [smIS SA sc] := by
  rw [addK_ok35 (smIS_sg _ _) rfl]
  rfl
theorem sm35_hasU : hasD [smIS SA sc] (digOf (smIU UA uc)) = false := by
  unfold hasD digs
  rw [smIU_dig, List.map_singleton, smIS_dig]
  decide +kernel
theorem sm35_ok2 : addOk pubs35 [smIS SA sc] (smIU UA uc) = true := addOk_ok35 (smIU_sg _ _) (sm35_hasU _ _ _ _)
theorem sm35_add2 : addK pubs35 [smIS SA sc] (smIU UA uc) = [smIU UA uc, smIS SA sc] := by
  rw [addK_ok35 (smIU_sg _ _) (sm35_hasU _ _ _ _)]
  unfold insK digs
  rw [smIU_dig, List.map_singleton, smIS_dig, show cutK smDU [smDS] = 0 from by decide +kernel]
  rfl
theorem listDe_one (key : Int) (x : ItemR) (h : wantDe key x = true) (hr : itemRight x = true) : listDe key [x] = [x.dec] := by
  have h1 := listDe_mem key [x]
  have hl : (listDe key [x]).length = 1 := by
    unfold listDe
    rw [List.length_map, sortDe_length]
    unfold takeDe
    rw [List.filter_cons_of_pos (by rw [h, hr]; rfl)]
    rfl
  obtain ⟨a, ha⟩ := List.length_eq_one_iff.1 hl
  have := (h1 x.dec).2 ⟨x, by simp, ⟨h, hr⟩, rfl⟩
  rw [ha, List.mem_singleton] at this
  rw [ha, this]
theorem listDe_two (key : Int) (x y : ItemR) (hx : wantDe key x = true) (hy : wantDe key y = true) (rx : itemRight x = true) (ry : itemRight y = true) (hn : x.dec.number < y.dec.number) : listDe key [y, x] = [x.dec, y.dec] := by
  have h1 := listDe_mem key [y, x]
  have hl : (listDe key [y, x]).length = 2 := by
    unfold listDe
    rw [List.length_map, sortDe_length]
    unfold takeDe
    rw [List.filter_cons_of_pos (by rw [hy, ry]; rfl), List.filter_cons_of_pos (by rw [hx, rx]; rfl)]
    rfl
  have ha := listDe_asc key [y, x]
  obtain ⟨a, b, hab⟩ : ∃ a b, listDe key [y, x] = [a, b] := by
    rcases hL : listDe key [y, x] with _ | ⟨a, _ | ⟨b, _ | ⟨c, r⟩⟩⟩
    · rw [hL] at hl; simp at hl
    · rw [hL] at hl; simp at hl
    · exact ⟨a, b, rfl⟩
    · rw [hL] at hl; simp at hl
  have m1 := (h1 x.dec).2 ⟨x, by simp, ⟨hx, rx⟩, rfl⟩
  have m2 := (h1 y.dec).2 ⟨y, by simp, ⟨hy, ry⟩, rfl⟩
  rw [hab] at m1 m2 ha ⊢
  have hle : a.number ≤ b.number := by simpa using ha
  simp only [List.mem_cons, List.not_mem_nil, or_false] at m1 m2
  rcases m1 with m1 | m1 <;> rcases m2 with m2 | m2
  · rw [m1, m2] at hn; omega
  · rw [m1, m2]
  · rw [← m1, ← m2] at hle; omega
  · rw [m1, m2] at hn; omega
theorem sm35_v1 : validK pubs35 (listDe 0 [smIS SA sc]) = [smS] := by
  rw [listDe_one 0 _ rfl (right_signed35 (smIS_sg SA sc))]
  unfold validK
  rw [List.foldl_cons, List.foldl_nil]
  unfold validStep
  rw [show signedB pubs35 (itDec (smIS SA sc).dec) = true from smIS_sg SA sc]
  rfl
theorem sm35_v2 : validK pubs35 (listDe 0 [smIU UA uc, smIS SA sc]) = [smS, smU] := by
  rw [listDe_two 0 (smIS SA sc) (smIU UA uc) rfl rfl (right_signed35 (smIS_sg SA sc)) (right_signed35 (smIU_sg UA uc)) (by show (0 : Int) < 1; decide)]
  unfold validK
  rw [List.foldl_cons, List.foldl_cons, List.foldl_nil]
  rw [show validStep pubs35 [] (smIS SA sc).dec = [smS] from by
    unfold validStep
    rw [show signedB pubs35 (itDec (smIS SA sc).dec) = true from smIS_sg SA sc]
    rfl]
  unfold validStep
  rw [show signedB pubs35 (itDec (smIU UA uc).dec) = true from smIU_sg UA uc]
  rfl

/-! ### What is in force -/
theorem sm35_f9 : forceK 9 [smS] = [smS] := by rfl
theorem sm35_f10 : forceK 10 [smS] = [] := by rfl
theorem sm35_f5 : forceK 5 [smS, smU] = [smU] := by
  unfold forceK
  rw [show curL 5 [smS, smU] = [smS, smU] from rfl, show undL [smS, smU] = [smDS] from rfl]
  have h1 : keepB [smDS] smS = false := by
    unfold keepB
    rw [sm35_dS]
    decide +kernel
  have h2 : keepB [smDS] smU = true := rfl
  rw [List.filter_cons_of_neg (by rw [h1]; simp), List.filter_cons_of_pos h2]
  rfl
theorem sm35_f8 : forceK 8 [smS, smU] = [smS] := by rfl
theorem comp_nil : Lib.compact (sortS []) = [] := List.eq_nil_of_length_eq_zero (Nat.le_zero.1 (Nat.le_trans (compactS_len _) (by rw [sortS_len]; exact Nat.le_refl _)))
theorem comp_one (x : List UInt8) : Lib.compact (sortS [x]) = [x] := by
  rw [show sortS [x] = [x] from List.mergeSort_singleton x]
  rfl
theorem sm35_aS : actorsK 6 [smS] = [smAc] := by
  unfold actorsK
  rw [show (([smS].filter fun d => decide (d.kind = 6)).map (·.actor)).map toB = [toB smAc] from rfl, comp_one]
  rfl
theorem sm35_aU : actorsK 6 [smU] = [] := by
  unfold actorsK
  rw [show (([smU].filter fun d => decide (d.kind = 6)).map (·.actor)).map toB = [] from rfl, comp_nil]
  rfl
theorem sm35_a0 : actorsK 6 [] = [] := by
  unfold actorsK
  rw [show ((([] : List DecR).filter fun d => decide (d.kind = 6)).map (·.actor)).map toB = [] from rfl, comp_nil]
  rfl
theorem sm35_src : sourceK [smU] = emptyT := by rfl
theorem sm35_one : (actorsK 6 (forceK 9 (validK pubs35 (listDe 0 [smIS SA sc])))).length = 1 := by rw [sm35_v1, sm35_f9, sm35_aS]; rfl
theorem sm35_two : (actorsK 6 (forceK 10 (validK pubs35 (listDe 0 [smIS SA sc])))).length = 0 := by rw [sm35_v1, sm35_f10, sm35_a0]; rfl
theorem sm35_three : (actorsK 6 (forceK 5 (validK pubs35 (listDe 0 [smIU UA uc, smIS SA sc])))).length = 0 := by rw [sm35_v2, sm35_f5, sm35_aU]; rfl
theorem sm35_four : (actorsK 6 (forceK 8 (validK pubs35 (listDe 0 [smIU UA uc, smIS SA sc])))).length = 1 := by rw [sm35_v2, sm35_f8, sm35_aS]; rfl
theorem sm35_source : sourceK (forceK 5 (validK pubs35 (listDe 0 [smIU UA uc, smIS SA sc]))) = emptyT := by rw [sm35_v2, sm35_f5, sm35_src]
end Go.Proofs.YtflgkplneekpfaaGreatDoor.Dec

namespace Go.Proofs.YtflgkplneekpfaaGreatDoor.Dec
open Go.RowKit Grp Mem _root_.Go.Proofs.YtflgkplneekpfaaGreatDoor.Code Sha Sign _root_.Go.Proofs.YtflgkplneekpfaaGreatDoor.Item _root_.Go.Proofs.YtflgkplneekpfaaGreatDoor.Known

theorem alloc_known35 (w : World) : (Instr.alloc 31 true (.tuple #[])).run Tryz.prog w = .ok (.pointer (some ⟨w.heap.size, 0, none⟩)) (w.alloc (.cells (knA known0) 31)) := by kernel_rfl
theorem build_smd0 (w : World) : (Instr.build 48 #[(2, .int .i64 6), (3, .string ⟨#[48, 49, 50, 51, 52, 53, 54, 55, 56, 57, 97, 98, 99, 100, 101, 102]⟩), (9, .int .i64 10)]).run Tryz.prog w = .ok (.agg (decA smd0)) w := by kernel_rfl
theorem build_smu0 (w : World) : (Instr.build 48 #[(1, .int .i64 1), (2, .int .i64 5), (4, .string smDS), (8, .int .i64 5), (9, .int .i64 8)]).run Tryz.prog w = .ok (.agg (decA smu0)) w := by kernel_rfl
theorem sm_in (w : World) (d : DecR) (h : d.to = []) (hc : d.toC = 0) : DecIn w d := by
  refine ⟨fun h0 => ?_, ?_⟩
  · rw [h] at h0
    simp at h0
  · rw [h, hc]
    exact ⟨Nat.le_refl _, Nat.zero_le _⟩
theorem sS_any (w : World) (hT : Tab w) : Calls Tryz.prog 55 #[.agg (decA smd0)] w fun e w' => ∃ TA tc, e = .returned (.agg (itA (smIS TA tc))) ∧ ItemIn w' (smIS TA tc) ∧ Q w w' := by
  have h := signed35_any smd0 w hT (sm_in w smd0 rfl rfl) sm35_fit0
  rw [sm35_S] at h
  refine h.mono ?_
  rintro e w' ⟨TA, tc, rfl, hR, h1, h2, hq⟩
  exact ⟨TA, tc, rfl, ⟨act0_in w', dec_in hR h1 h2⟩, hq⟩
theorem sU_any (w : World) (hT : Tab w) : Calls Tryz.prog 55 #[.agg (decA smu0)] w fun e w' => ∃ TA tc, e = .returned (.agg (itA (smIU TA tc))) ∧ ItemIn w' (smIU TA tc) ∧ Q w w' := by
  have h := signed35_any smu0 w hT (sm_in w smu0 rfl rfl) sm35_fitu
  rw [sm35_U] at h
  refine h.mono ?_
  rintro e w' ⟨TA, tc, rfl, hR, h1, h2, hq⟩
  exact ⟨TA, tc, rfl, ⟨act0_in w', dec_in hR h1 h2⟩, hq⟩
theorem dS_any (TA : Option Addr) (tc : Nat) (w : World) (hT : Tab w) (hI : ItemIn w (smIS TA tc)) : Calls Tryz.prog 25 #[.agg (itA (smIS TA tc))] w fun e w' => e = .returned (.string smDS) ∧ Q w w' := by
  have h := digest_any (smIS TA tc) w hT hI
  rwa [smIS_dig] at h
theorem add1_any (k : KR) (TA : Option Addr) (tc : Nat) (w : World) (hT : Tab w) (hK : KIn w k) (hI : ItemIn w (smIS TA tc)) (hs : k.sv = pubs35) (hl : k.l = []) : Calls Tryz.prog 39 #[.agg (knA k), .agg (itA (smIS TA tc))] w fun e w' => ∃ k' : KR, e = .returned (.tuple #[.agg (knA k'), .bool true]) ∧ k'.sv = pubs35 ∧ k'.l = [smIS TA tc] ∧ KIn w' k' ∧ Q w w' := by
  refine (add_any k (smIS TA tc) w hT hK hI (by rw [hl]; decide)).mono ?_
  rintro e w' ⟨k', rfl, h1, h2, h3, hq⟩
  rw [hs, hl] at *
  rw [sm35_add1] at h2
  rw [sm35_ok1]
  exact ⟨k', rfl, h1, h2, h3, hq⟩
theorem add2_any (k : KR) (TA : Option Addr) (tc : Nat) (UA : Option Addr) (uc : Nat) (w : World) (hT : Tab w) (hK : KIn w k) (hI : ItemIn w (smIU UA uc)) (hs : k.sv = pubs35) (hl : k.l = [smIS TA tc]) : Calls Tryz.prog 39 #[.agg (knA k), .agg (itA (smIU UA uc))] w fun e w' => ∃ k' : KR, e = .returned (.tuple #[.agg (knA k'), .bool true]) ∧ k'.sv = pubs35 ∧ k'.l = [smIU UA uc, smIS TA tc] ∧ KIn w' k' ∧ Q w w' := by
  refine (add_any k (smIU UA uc) w hT hK hI (by rw [hl]; simp)).mono ?_
  rintro e w' ⟨k', rfl, h1, h2, h3, hq⟩
  rw [hs, hl] at *
  rw [sm35_add2] at h2
  rw [sm35_ok2]
  exact ⟨k', rfl, h1, h2, h3, hq⟩
theorem tr_any (k : KR) (now : Int) (n : Nat) (l : List ItemR) (w : World) (hT : Tab w) (hK : KIn w k) (hs : k.sv = pubs35) (hl : k.l = l) (h20 : l.length ≤ 20) (hn : (actorsK 6 (forceK now (validK pubs35 (listDe 0 l)))).length = n) : Calls Tryz.prog 56 #[.agg (knA k), .int .i64 0, .int .i64 now] w fun e w' => (∃ A c, e = .returned (.slice A n c)) ∧ Q w w' := by
  refine (trusted_any k 0 now w hT hK (by rw [hl]; exact h20)).mono ?_
  rintro e w' ⟨A, c, he, -, -, -, hq⟩
  rw [hs, hl, hn] at he
  exact ⟨⟨A, c, he⟩, hq⟩
theorem va_any (k : KR) (TA : Option Addr) (tc : Nat) (UA : Option Addr) (uc : Nat) (w : World) (hT : Tab w) (hK : KIn w k) (hs : k.sv = pubs35) (hl : k.l = [smIU UA uc, smIS TA tc]) : Calls Tryz.prog 22 #[.agg (knA k), .int .i64 0] w fun e w' => (∃ A c, e = .returned (.slice A 2 c)) ∧ Q w w' := by
  refine (valid35_any k 0 w hT hK (by rw [hl]; simp)).mono ?_
  rintro e w' ⟨A, c, l, rfl, -, -, h1, -, -, hq⟩
  rw [hs, hl, sm35_v2] at h1
  have h2 : l.length = 2 := by
    have := congrArg List.length h1
    rw [List.length_map] at this
    exact this
  rw [h2]
  exact ⟨⟨A, c, rfl⟩, hq⟩
theorem so_any (k : KR) (TA : Option Addr) (tc : Nat) (UA : Option Addr) (uc : Nat) (w : World) (hT : Tab w) (hK : KIn w k) (hs : k.sv = pubs35) (hl : k.l = [smIU UA uc, smIS TA tc]) : Calls Tryz.prog 57 #[.agg (knA k), .int .i64 0, .int .i64 5] w fun e w' => e = .returned (.string ⟨#[]⟩) ∧ Q w w' := by
  refine (source_any k 0 5 w hT hK (by rw [hl]; simp)).mono ?_
  rintro e w' ⟨he, hq⟩
  rw [hs, hl, sm35_source] at he
  exact ⟨he, hq⟩

set_option maxRecDepth 100000 in
set_option maxHeartbeats 8000000 in
theorem small35_any (w : World) (hT : Tab w) : Calls Tryz.prog 18 #[] w fun e w' => e = .returned (.bool true) ∧ Q w w' := by
  go_enter Tryz.func18, Tryz.ntmps18
  go_upto_region 2 with (first | (refine wpList_build_run 48 _ #[(2, .int .i64 6), (3, .string ⟨#[48, 49, 50, 51, 52, 53, 54, 55, 56, 57, 97, 98, 99, 100, 101, 102]⟩), (9, .int .i64 10)] (.agg (decA smd0)) rfl rfl (by simp only [List.map_toArray, List.map_cons, List.map_nil]; rfl) (build_smd0 _) ?_) | (refine wpList_store_blk (Blk.new w 48 dec0.cells.toArray) rfl 48 (.tmp 1) (.tmp 10) smd0.cells rfl rfl rfl (by kernel_rfl) (dec_all _) (Nat.le_refl 12) ?_))
  intro W1 hW1 hbel1
  rw [splice_all _ _ (by rfl)] at hW1
  have hq1 : Q w W1 := hbel1 _ _ (Nat.le_refl _) (q_new _ _ _)
  clear hbel1
  obtain ⟨g1, hg1⟩ : ∃ g1, w.heap.size = g1 := ⟨_, rfl⟩
  rw [hg1] at hW1
  rw [hg1]
  have hT1 : ∀ y : Wd W1, Tab y.w := fun y => hT.q (Q.trans hq1 y.q)
  have hL1 : ∀ z, (∃ y : Wd W1, z = y.w) → (Instr.loadAt 48 (.pointer (some ⟨g1, 0, none⟩))).run Tryz.prog z = .ok (.agg (decA smd0)) z := by
    rintro z ⟨y, rfl⟩
    exact Wd.load hW1.lt (Blk.range hW1) Tryz.underlying48 rfl (by kernel_rfl) y
  have hp3 : pubs35.length = 3 := rfl
  go_upto_region 2 with (fail)
  rename_i K2 hK2
  have REST2 : ∀ (g2 : Nat) (k2 : KR) (TA : Option Addr) (tc : Nat) (v12 v13 v15 : Value) (w2 : World), Q W1 w2 → W1.heap.size ≤ g2 → Blk w2 g2 31 k2.cells.toArray → KIn w2 k2 → k2.sv = pubs35 → k2.l = [smIS TA tc] → K2 { tmps := #[.bool false, .pointer (some ⟨g1, 0, none⟩), .pointer (some ⟨g2, 0, none⟩), .bool true, undef, undef, undef, undef, undef, undef, .agg (decA smd0), .tuple #[.agg (knA k2), .bool true], v12, v13, .agg (decA smd0), v15, .tuple #[.agg (knA k2), .bool true], .agg (knA k2), .bool true, undef, undef, undef, undef, undef, undef, undef, undef, undef, undef, undef, undef, undef, undef, undef, undef, undef, undef, undef, undef, undef, undef, undef, undef, undef, undef, undef, undef, undef, undef, undef, undef, undef, undef, undef, undef, undef, undef, undef, undef, undef, undef, undef, undef, undef, undef, undef, undef, undef, undef, undef, undef, undef, undef], defers := [] } w2 := by
    intro g2 k2 TA tc v12 v13 v15 w2 hq2 hgle2 hb2 hk2 hs2 hl2
    refine hK2 _ _ ?_
    clear hK2
    dsimp only
    have hT2 : ∀ y : Wd w2, Tab y.w := fun y => hT1 ⟨y.w, Q.trans hq2 y.q⟩
    have hL2 : ∀ y : Wd w2, (Instr.loadAt 48 (.pointer (some ⟨g1, 0, none⟩))).run Tryz.prog y.w = .ok (.agg (decA smd0)) y.w := fun y => hL1 _ ⟨⟨y.w, Q.trans hq2 y.q⟩, rfl⟩
    have hLk2 : ∀ y : Wd w2, (Instr.loadAt 31 (.pointer (some ⟨g2, 0, none⟩))).run Tryz.prog y.w = .ok (.agg (knA k2)) y.w := Wd.load hb2.lt (Blk.range hb2) Tryz.underlying31 rfl (by kernel_rfl)
    have h9 := fun y : Wd w2 => tr_any k2 9 1 _ y.w (hT2 y) (hk2.q y.q) hs2 hl2 (by simp) (sm35_one TA tc)
    have h10 := fun y : Wd w2 => tr_any k2 10 0 _ y.w (hT2 y) (hk2.q y.q) hs2 hl2 (by simp) (sm35_two TA tc)
    have hS2 := fun y : Wd w2 => sS_any y.w (hT2 y)
    have HQ2 := Lib.hid (Q.trans hq1 hq2)
    have hw2 := hq2.size
    have hw1 := hq1.size
    have hgw := hW1.lt
    clear hL1 hT1 hW1
    obtain ⟨v2, hv2⟩ := Wd.first w2
    rw [hv2]
    clear hv2
    go_upto_region 6 with (first | (refine wpList_load_run 31 (.tmp 2) (.pointer (some ⟨g2, 0, none⟩)) (.agg (knA k2)) ?_ ?_ ?_ ?_ ?_; rfl; rfl; rfl; exact hLk2 _) | (refine wpList_load_run 48 (.tmp 1) (.pointer (some ⟨g1, 0, none⟩)) (.agg (decA smd0)) ?_ ?_ ?_ ?_ ?_; rfl; rfl; rfl; exact hL2 _) | (go_at_call 56; (first | (with_reducible refine (h9 _).mono ?_; rintro e w' ⟨⟨AT9, cT9, rfl⟩, hq⟩) | (with_reducible refine (h10 _).mono ?_; rintro e w' ⟨⟨AT10, cT10, rfl⟩, hq⟩)); obtain ⟨y, rfl⟩ := Wd.next _ hq; clear hq) | (go_at_call 55; refine (hS2 _).mono ?_; rintro e w' ⟨SB, sb, rfl, hIS, hq⟩; obtain ⟨y, rfl⟩ := Wd.next _ hq; clear hq; have hDg := dS_any SB sb y.w (hT2 y) hIS) | (go_at_call 25; refine hDg.mono ?_; rintro e w' ⟨rfl, hq⟩; obtain ⟨y9, rfl⟩ := Wd.next _ hq; clear hq) | (refine wpList_build_run 48 _ #[(1, .int .i64 1), (2, .int .i64 5), (4, .string smDS), (8, .int .i64 5), (9, .int .i64 8)] (.agg (decA smu0)) rfl rfl (by simp only [List.map_toArray, List.map_cons, List.map_nil]; rfl) (build_smu0 _) ?_) | (refine wpList_store_blk (Blk.new y9.w 48 dec0.cells.toArray) rfl 48 (.tmp 6) (.tmp 26) smu0.cells rfl rfl rfl (by kernel_rfl) (dec_all _) (Nat.le_refl 12) ?_))
    intro W5 hW5 hbel5
    rw [splice_all _ _ (by rfl)] at hW5
    have hq5 : Q w2 W5 := hbel5 _ _ y9.q.size (Q.trans y9.q (q_new _ _ _))
    have hg6 : w2.heap.size ≤ y9.w.heap.size := y9.q.size
    have hlt2 := hb2.lt
    have hne6 : y9.w.heap.size ≠ g2 := by omega
    have hlt6 := hW5.lt
    have hT5 : ∀ y : Wd W5, Tab y.w := fun y => hT2 ⟨y.w, Q.trans hq5 y.q⟩
    have hB5 := hb2.q hq5
    have hK5 := hk2.q hq5
    have hLk5 : ∀ y : Wd W5, (Instr.loadAt 31 (.pointer (some ⟨g2, 0, none⟩))).run Tryz.prog y.w = .ok (.agg (knA k2)) y.w := Wd.load hB5.lt (Blk.range hB5) Tryz.underlying31 rfl (by kernel_rfl)
    have hL6 : ∀ z, Kp g2 W5 z → (Instr.loadAt 48 (.pointer (some ⟨y9.w.heap.size, 0, none⟩))).run Tryz.prog z = .ok (.agg (decA smu0)) z := fun z hz => by
      have hbz : Blk z y9.w.heap.size 48 smu0.cells.toArray := (hz.block _ hlt6 hne6).trans hW5
      exact Wd.load hbz.lt (Blk.range hbz) Tryz.underlying48 rfl (by kernel_rfl) ⟨z, Q.refl z⟩
    have hS5 := fun y : Wd W5 => sU_any y.w (hT5 y)
    have HQ5 := Lib.hid (Q.trans HQ2.out hq5)
    clear hbel5 hW5 h9 h10 hS2 hL2 hLk2 hT2 hDg hIS
    generalize y9.w.heap.size = g6 at *
    clear y9 y v2
    go_upto_region 6 with (fail)
    rename_i K6 hK6

    have REST6 : ∀ (k3 : KR) (UA : Option Addr) (uc : Nat) (v1 v6 v10 v11 v12 v13 v14 v15 v16 v17 v18 v19 v20 v21 v22 v23 v24 v25 v26 v27 v28 v29 v30 v31 v32 v33 : Value) (w6 : World), Q w w6 → Blk w6 g2 31 k3.cells.toArray → KIn w6 k3 → k3.sv = pubs35 → k3.l = [smIU UA uc, smIS TA tc] → K6 { tmps := #[.bool false, v1, .pointer (some ⟨g2, 0, none⟩), .bool true, .slice AT9 1 cT9, .slice AT10 0 cT10, v6, .bool true, undef, undef, v10, v11, v12, v13, v14, v15, v16, v17, v18, v19, v20, v21, v22, v23, v24, v25, v26, v27, v28, v29, v30, v31, v32, v33, undef, undef, undef, undef, undef, undef, undef, undef, undef, undef, undef, undef, undef, undef, undef, undef, undef, undef, undef, undef, undef, undef, undef, undef, undef, undef, undef, undef, undef, undef, undef, undef, undef, undef, undef, undef, undef, undef, undef], defers := [] } w6 := by
      intro k3 UA uc v1 v6 v10 v11 v12 v13 v14 v15 v16 v17 v18 v19 v20 v21 v22 v23 v24 v25 v26 v27 v28 v29 v30 v31 v32 v33 w6 hq6 hb6 hk6 hs6 hl6
      refine hK6 _ _ ?_
      clear hK6
      dsimp only
      have hT6 : ∀ y : Wd w6, Tab y.w := fun y => hT.q (Q.trans hq6 y.q)
      have hLk6 : ∀ y : Wd w6, (Instr.loadAt 31 (.pointer (some ⟨g2, 0, none⟩))).run Tryz.prog y.w = .ok (.agg (knA k3)) y.w := Wd.load hb6.lt (Blk.range hb6) Tryz.underlying31 rfl (by kernel_rfl)
      have h5 := fun y : Wd w6 => tr_any k3 5 0 _ y.w (hT6 y) (hk6.q y.q) hs6 hl6 (by simp) (sm35_three TA tc UA uc)
      have h8 := fun y : Wd w6 => tr_any k3 8 1 _ y.w (hT6 y) (hk6.q y.q) hs6 hl6 (by simp) (sm35_four TA tc UA uc)
      have hva := fun y : Wd w6 => va_any k3 TA tc UA uc y.w (hT6 y) (hk6.q y.q) hs6 hl6
      have hso := fun y : Wd w6 => so_any k3 TA tc UA uc y.w (hT6 y) (hk6.q y.q) hs6 hl6
      have HQ6 := Lib.hid hq6
      obtain ⟨v6', hv6⟩ := Wd.first w6
      rw [hv6]
      clear hv6 hL6 hS5 hLk5
      go_wp2_with (first | (refine wpList_load_run 31 (.tmp 2) (.pointer (some ⟨g2, 0, none⟩)) (.agg (knA k3)) ?_ ?_ ?_ ?_ ?_; rfl; rfl; rfl; exact hLk6 _) | (go_at_call 56; (first | (with_reducible refine (h5 _).mono ?_; rintro e w' ⟨⟨AT5, cT5, rfl⟩, hq⟩) | (with_reducible refine (h8 _).mono ?_; rintro e w' ⟨⟨AT8, cT8, rfl⟩, hq⟩)); obtain ⟨y, rfl⟩ := Wd.next _ hq; clear hq) | (go_at_call 22; refine (hva _).mono ?_; rintro e w' ⟨⟨AV, cV, rfl⟩, hq⟩; obtain ⟨y, rfl⟩ := Wd.next _ hq; clear hq) | (go_at_call 57; refine (hso _).mono ?_; rintro e w' ⟨rfl, hq⟩; obtain ⟨y7, rfl⟩ := Wd.next _ hq; clear hq))
      go_ret
      exact ⟨rfl, Q.trans HQ6.out y7.q⟩
    refine region_H (fun z => Kp g2 W5 z) (by kernel_rfl) ?_
    have hqd : Q W5 W5.drew := (Q.refl _).drew
    have hz0 : Kp g2 W5 W5.drew := Kp.of_q hqd
    refine held_read 1 (v := .agg (decA smu0)) rfl (by kernel_rfl) (by kernel_rfl) (by kernel_rfl) (by intro c a d v w h; cases d <;> exact h) rfl hz0 (fun z hz => exec_load 48 (.tmp 6) _ _ rfl rfl (hL6 z hz)) ?_
    try simp only [Act.put, List.setIfInBounds_toArray, List.set_cons_succ, List.set_cons_zero]
    refine held_fork 0 2 rfl rfl (by kernel_rfl) rfl rfl (fun K' hK' => ?_) (fun K' hK' => ?_)
    · refine wp_read_run (v := .agg (knA k2)) (exec_load 31 (.tmp 2) _ _ rfl rfl (hLk5 (⟨W5.drew, hqd⟩ : Wd W5))) ?_
      refine hK' _ _ hz0 ?_
      clear hK' K'
      try simp only [Act.put, List.setIfInBounds_toArray, List.set_cons_succ, List.set_cons_zero]
      refine held_one 2 rfl (by kernel_rfl) rfl (fun K' hK' => ?_)
      go_simp
      refine (hS5 (⟨W5.drew, hqd⟩ : Wd W5)).mono ?_
      rintro e w5' ⟨UA, uc, rfl, hIU, q5⟩
      have hq5w : Q W5 w5' := Q.trans (Wd.q (⟨W5.drew, hqd⟩ : Wd W5)) q5
      have hz5 : Kp g2 W5 w5' := Kp.of_q hq5w
      refine hK' _ _ hz5 ?_
      clear hK' K'
      try simp only [Act.put, List.setIfInBounds_toArray, List.set_cons_succ, List.set_cons_zero]
      refine held_one 3 rfl (by kernel_rfl) rfl (fun K' hK' => ?_)
      go_simp
      refine (add2_any k2 TA tc UA uc w5' (hT5 ⟨w5', hq5w⟩) (hK5.q hq5w) hIU hs2 hl2).mono ?_
      rintro e w6 ⟨k3, rfl, hks3, hkl3, hKk3, q6⟩
      have hq6w : Q W5 w6 := Q.trans hq5w q6
      have hz6 : Kp g2 W5 w6 := Kp.of_q hq6w
      refine hK' _ _ hz6 ?_
      clear hK' K'
      try simp only [Act.put, List.setIfInBounds_toArray, List.set_cons_succ, List.set_cons_zero]
      refine held_pure 4 (v := .tuple #[.agg (knA k3), .bool true]) rfl (by kernel_rfl) (by kernel_rfl) (by kernel_rfl) (by intro c a d v w h; cases d <;> exact h) rfl hz6 (fun w => by rfl) ?_
      try simp only [Act.put, List.setIfInBounds_toArray, List.set_cons_succ, List.set_cons_zero]
      refine held_pure 5 (v := .agg (knA k3)) rfl (by kernel_rfl) (by kernel_rfl) (by kernel_rfl) (by intro c a d v w h; cases d <;> exact h) rfl hz6 (fun w => by rfl) ?_
      try simp only [Act.put, List.setIfInBounds_toArray, List.set_cons_succ, List.set_cons_zero]
      refine held_pure 6 (v := .bool true) rfl (by kernel_rfl) (by kernel_rfl) (by kernel_rfl) (by intro c a d v w h; cases d <;> exact h) rfl hz6 (fun w => by rfl) ?_
      try simp only [Act.put, List.setIfInBounds_toArray, List.set_cons_succ, List.set_cons_zero]
      refine held_one 7 rfl (by kernel_rfl) rfl (fun K' hK' => ?_)
      have hb6 := hB5.q hq6w
      refine wp_store_mid 31 (.tmp 2) (.tmp 32) rfl g2 0 k3.cells.toArray rfl rfl (by simpa using hb6.there (Nat.le_refl 2)) (by kernel_rfl) (kn_all _) ?_
      have hfar := fun b (hne : b ≠ g2) => setCells_far (g := g2) hne k3.cells 0 w6
      have hsz : w6.heap.size ≤ (w6.setCells g2 0 k3.cells).heap.size := (below_setCells (Nat.le_refl _) k3.cells 0 w6 w6 (Below.refl g2 w6)).size
      have hz7 : Kp g2 W5 (w6.setCells g2 0 k3.cells) := hz6.trans ⟨hsz, fun b _ hne => hfar b hne⟩
      have hsc : Blk (w6.setCells g2 0 k3.cells) g2 31 k3.cells.toArray := by
        have := Blk.setCells k3.cells 0 _ w6 hb6 (Nat.le_refl 2)
        rwa [splice_all _ _ (by rfl)] at this
      have hqs : Q w (w6.setCells g2 0 k3.cells) := below_setCells (by omega) k3.cells 0 w w6 (Q.trans HQ5.out hq6w)
      have hside : _root_.Go.Proofs.YtflgkplneekpfaaGreatDoor.Known.Aside w6 (w6.setCells g2 0 k3.cells) g2 := ⟨known_only35 hb6, hfar, hsz⟩
      have hK3 := hside.known hKk3
      refine hK' _ _ hz7 ?_
      clear hK' K'
      try simp only [Act.put, List.setIfInBounds_toArray, List.set_cons_succ, List.set_cons_zero]
      refine held_pure 8 (v := .bool true) rfl (by kernel_rfl) (by kernel_rfl) (by kernel_rfl) (by intro c a d v w h; cases d <;> exact h) rfl hz7 (fun w => by rfl) ?_
      try simp only [Act.put, List.setIfInBounds_toArray, List.set_cons_succ, List.set_cons_zero]
      refine wpAnyH_done (by kernel_rfl) ?_ _
      exact REST6 k3 UA uc _ _ _ _ _ _ _ _ _ _ _ _ _ _ _ _ _ _ _ _ _ _ _ _ _ _ _ hqs hsc hK3 hks3 hkl3
    · go_simp
      refine (hS5 (⟨W5.drew, hqd⟩ : Wd W5)).mono ?_
      rintro e w5' ⟨UA, uc, rfl, hIU, q5⟩
      have hq5w : Q W5 w5' := Q.trans (Wd.q (⟨W5.drew, hqd⟩ : Wd W5)) q5
      have hz5 : Kp g2 W5 w5' := Kp.of_q hq5w
      refine hK' _ _ hz5 ?_
      clear hK' K'
      try simp only [Act.put, List.setIfInBounds_toArray, List.set_cons_succ, List.set_cons_zero]
      refine held_one 0 rfl (by kernel_rfl) rfl (fun K' hK' => ?_)
      refine wp_read_run (v := .agg (knA k2)) (exec_load 31 (.tmp 2) _ _ rfl rfl (hLk5 (⟨w5', hq5w⟩ : Wd W5))) ?_
      refine hK' _ _ hz5 ?_
      clear hK' K'
      try simp only [Act.put, List.setIfInBounds_toArray, List.set_cons_succ, List.set_cons_zero]
      refine held_one 3 rfl (by kernel_rfl) rfl (fun K' hK' => ?_)
      go_simp
      refine (add2_any k2 TA tc UA uc w5' (hT5 ⟨w5', hq5w⟩) (hK5.q hq5w) hIU hs2 hl2).mono ?_
      rintro e w6 ⟨k3, rfl, hks3, hkl3, hKk3, q6⟩
      have hq6w : Q W5 w6 := Q.trans hq5w q6
      have hz6 : Kp g2 W5 w6 := Kp.of_q hq6w
      refine hK' _ _ hz6 ?_
      clear hK' K'
      try simp only [Act.put, List.setIfInBounds_toArray, List.set_cons_succ, List.set_cons_zero]
      refine held_pure 4 (v := .tuple #[.agg (knA k3), .bool true]) rfl (by kernel_rfl) (by kernel_rfl) (by kernel_rfl) (by intro c a d v w h; cases d <;> exact h) rfl hz6 (fun w => by rfl) ?_
      try simp only [Act.put, List.setIfInBounds_toArray, List.set_cons_succ, List.set_cons_zero]
      refine held_pure 5 (v := .agg (knA k3)) rfl (by kernel_rfl) (by kernel_rfl) (by kernel_rfl) (by intro c a d v w h; cases d <;> exact h) rfl hz6 (fun w => by rfl) ?_
      try simp only [Act.put, List.setIfInBounds_toArray, List.set_cons_succ, List.set_cons_zero]
      refine held_pure 6 (v := .bool true) rfl (by kernel_rfl) (by kernel_rfl) (by kernel_rfl) (by intro c a d v w h; cases d <;> exact h) rfl hz6 (fun w => by rfl) ?_
      try simp only [Act.put, List.setIfInBounds_toArray, List.set_cons_succ, List.set_cons_zero]
      refine held_one 7 rfl (by kernel_rfl) rfl (fun K' hK' => ?_)
      have hb6 := hB5.q hq6w
      refine wp_store_mid 31 (.tmp 2) (.tmp 32) rfl g2 0 k3.cells.toArray rfl rfl (by simpa using hb6.there (Nat.le_refl 2)) (by kernel_rfl) (kn_all _) ?_
      have hfar := fun b (hne : b ≠ g2) => setCells_far (g := g2) hne k3.cells 0 w6
      have hsz : w6.heap.size ≤ (w6.setCells g2 0 k3.cells).heap.size := (below_setCells (Nat.le_refl _) k3.cells 0 w6 w6 (Below.refl g2 w6)).size
      have hz7 : Kp g2 W5 (w6.setCells g2 0 k3.cells) := hz6.trans ⟨hsz, fun b _ hne => hfar b hne⟩
      have hsc : Blk (w6.setCells g2 0 k3.cells) g2 31 k3.cells.toArray := by
        have := Blk.setCells k3.cells 0 _ w6 hb6 (Nat.le_refl 2)
        rwa [splice_all _ _ (by rfl)] at this
      have hqs : Q w (w6.setCells g2 0 k3.cells) := below_setCells (by omega) k3.cells 0 w w6 (Q.trans HQ5.out hq6w)
      have hside : _root_.Go.Proofs.YtflgkplneekpfaaGreatDoor.Known.Aside w6 (w6.setCells g2 0 k3.cells) g2 := ⟨known_only35 hb6, hfar, hsz⟩
      have hK3 := hside.known hKk3
      refine hK' _ _ hz7 ?_
      clear hK' K'
      try simp only [Act.put, List.setIfInBounds_toArray, List.set_cons_succ, List.set_cons_zero]
      refine held_pure 8 (v := .bool true) rfl (by kernel_rfl) (by kernel_rfl) (by kernel_rfl) (by intro c a d v w h; cases d <;> exact h) rfl hz7 (fun w => by rfl) ?_
      try simp only [Act.put, List.setIfInBounds_toArray, List.set_cons_succ, List.set_cons_zero]
      refine wpAnyH_done (by kernel_rfl) ?_ _
      exact REST6 k3 UA uc _ _ _ _ _ _ _ _ _ _ _ _ _ _ _ _ _ _ _ _ _ _ _ _ _ _ _ hqs hsc hK3 hks3 hkl3
  refine wp_region_S (fun z => ∃ y : Wd W1, z = y.w) (by kernel_rfl) ⟨⟨_, (Q.refl W1).drew⟩, rfl⟩ ?_
  rintro _ ⟨y0, rfl⟩
  refine held_read 2 (v := .agg (decA smd0)) rfl (by kernel_rfl) (by kernel_rfl) (by kernel_rfl) (by intro c a d v w h; cases d <;> exact h) rfl ⟨_, rfl⟩ (fun z hz => exec_load 48 (.tmp 1) _ _ rfl rfl (hL1 z hz)) ?_
  try simp only [Act.put, List.setIfInBounds_toArray, List.set_cons_succ, List.set_cons_zero]
  refine held_fork 0 8 rfl rfl (by kernel_rfl) rfl rfl (fun K' hK' => ?_) (fun K' hK' => ?_)
  · go_simp
    refine (pubs35_any y0.w (hT1 y0)).mono ?_
    rintro e w' ⟨A3, c3, rfl, hI3, hq⟩
    obtain ⟨y1, rfl⟩ := Wd.next y0 hq
    refine hK' _ _ ⟨y1, rfl⟩ ?_
    clear hK' K' hq
    try simp only [Act.put, List.setIfInBounds_toArray, List.set_cons_succ, List.set_cons_zero]
    refine held_fork 1 8 rfl rfl (by kernel_rfl) rfl rfl (fun K' hK' => ?_) (fun K' hK' => ?_)
    · go_simp
      have hnew := new_any A3 c3 pubs35 y1.w hI3 (by rw [hp3]; omega)
      rw [hp3] at hnew
      refine hnew.mono ?_
      clear hnew
      rintro e w' ⟨k1, rfl, hks1, hkl1, hKk, hq⟩
      have hI3 := hI3.q hq
      obtain ⟨y2, rfl⟩ := Wd.next y1 hq
      refine hK' _ _ ⟨y2, rfl⟩ ?_
      clear hK' K' hq
      try simp only [Act.put, List.setIfInBounds_toArray, List.set_cons_succ, List.set_cons_zero]
      refine held_fork 3 8 rfl rfl (by kernel_rfl) rfl rfl (fun K' hK' => ?_) (fun K' hK' => ?_)
      · go_simp
        refine (sS_any y2.w (hT1 y2)).mono ?_
        rintro e w' ⟨TA, tc, rfl, hIS, hq⟩
        have hI3 := hI3.q hq
        have hKk := hKk.q hq
        obtain ⟨y3, rfl⟩ := Wd.next y2 hq
        refine hK' _ _ ⟨y3, rfl⟩ ?_
        clear hK' K' hq
        try simp only [Act.put, List.setIfInBounds_toArray, List.set_cons_succ, List.set_cons_zero]
        refine held_fork 4 8 rfl rfl (by kernel_rfl) rfl rfl (fun K' hK' => ?_) (fun K' hK' => ?_)
        · go_simp
          refine (add1_any k1 TA tc y3.w (hT1 y3) hKk hIS hks1 hkl1).mono ?_
          rintro e w' ⟨k2, rfl, hks2, hkl2, hKk2, hq⟩
          have hI3 := hI3.q hq
          have hKk := hKk.q hq
          have hIS := hIS.q hq
          obtain ⟨y4, rfl⟩ := Wd.next y3 hq
          refine hK' _ _ ⟨y4, rfl⟩ ?_
          clear hK' K' hq
          try simp only [Act.put, List.setIfInBounds_toArray, List.set_cons_succ, List.set_cons_zero]
          refine held_pure 5 (v := .tuple #[.agg (knA k2), .bool true]) rfl (by kernel_rfl) (by kernel_rfl) (by kernel_rfl) (by intro c a d v w h; cases d <;> exact h) rfl ⟨_, rfl⟩ (fun w => by rfl) ?_
          try simp only [Act.put, List.setIfInBounds_toArray, List.set_cons_succ, List.set_cons_zero]
          refine held_pure 6 (v := .agg (knA k2)) rfl (by kernel_rfl) (by kernel_rfl) (by kernel_rfl) (by intro c a d v w h; cases d <;> exact h) rfl ⟨_, rfl⟩ (fun w => by rfl) ?_
          try simp only [Act.put, List.setIfInBounds_toArray, List.set_cons_succ, List.set_cons_zero]
          refine held_pure 7 (v := .bool true) rfl (by kernel_rfl) (by kernel_rfl) (by kernel_rfl) (by intro c a d v w h; cases d <;> exact h) rfl ⟨_, rfl⟩ (fun w => by rfl) ?_
          try simp only [Act.put, List.setIfInBounds_toArray, List.set_cons_succ, List.set_cons_zero]
          refine held_one 8 rfl (by kernel_rfl) rfl (fun K' hK' => ?_)
          have hI3 := hI3.q (q_new y4.w (knA known0) 31)
          have hKk := hKk.q (q_new y4.w (knA known0) 31)
          have hIS := hIS.q (q_new y4.w (knA known0) 31)
          have hKk2 := hKk2.q (q_new y4.w (knA known0) 31)
          refine wp_alloc_run 31 _ rfl (alloc_known35 _) ?_
          have hbg := Blk.new y4.w 31 (knA known0)
          have hgn := y4.q.size
          obtain ⟨y5, hy2⟩ := Wd.next y4 (q_new y4.w (knA known0) 31)
          rw [hy2] at hbg hI3 hKk hIS hKk2
          rw [hy2]
          obtain ⟨g, hg⟩ : ∃ g, y4.w.heap.size = g := ⟨_, rfl⟩
          rw [hg] at hbg hgn
          refine hK' _ _ ⟨y5, rfl⟩ ?_
          clear hK' K' hy2
          try simp only [Act.put, List.setIfInBounds_toArray, List.set_cons_succ, List.set_cons_zero]
          rw [hg]
          clear hg
          refine held_one 9 rfl (by kernel_rfl) rfl (fun K' hK' => ?_)
          refine wp_store_mid 31 (.tmp 2) (.tmp 17) rfl g 0 (knA k2) rfl rfl (show y5.w.there g 0 2 by simpa using hbg.there (n := 2) (Nat.le_refl 2)) (by kernel_rfl) (kn_all _) ?_
          have hqs : Q W1 (y5.w.setCells g 0 k2.cells) := below_setCells hgn k2.cells 0 W1 y5.w y5.q
          have hsc : Blk (y5.w.setCells g 0 k2.cells) g 31 k2.cells.toArray := by
            have := Blk.setCells k2.cells 0 _ y5.w hbg (Nat.le_refl 2)
            rwa [splice_all _ _ (by rfl)] at this
          refine hK' _ _ ⟨⟨_, hqs⟩, rfl⟩ ?_
          clear hK' K'
          try simp only [Act.put, List.setIfInBounds_toArray, List.set_cons_succ, List.set_cons_zero]
          have hfar := fun b (hne : b ≠ g) => setCells_far (g := g) hne k2.cells 0 y5.w
          have hside : _root_.Go.Proofs.YtflgkplneekpfaaGreatDoor.Known.Aside y5.w (y5.w.setCells g 0 k2.cells) g := ⟨known_only35 hbg, hfar, (below_setCells (Nat.le_refl _) k2.cells 0 y5.w y5.w (Below.refl g y5.w)).size⟩
          have hK3 := hside.known hKk2
          refine held_pure 10 (v := .bool true) rfl (by kernel_rfl) (by kernel_rfl) (by kernel_rfl) (by intro c a d v w h; cases d <;> exact h) rfl ⟨⟨_, hqs⟩, rfl⟩ (fun w => by rfl) ?_
          try simp only [Act.put, List.setIfInBounds_toArray, List.set_cons_succ, List.set_cons_zero]
          refine wpAnyH_done (by kernel_rfl) ?_ _
          exact REST2 g k2 TA tc _ _ _ _ hqs hgn hsc hK3 hks2 hkl2
        · have hI3 := hI3.q (q_new y3.w (knA known0) 31)
          have hKk := hKk.q (q_new y3.w (knA known0) 31)
          have hIS := hIS.q (q_new y3.w (knA known0) 31)
          refine wp_alloc_run 31 _ rfl (alloc_known35 _) ?_
          have hbg := Blk.new y3.w 31 (knA known0)
          have hgn := y3.q.size
          obtain ⟨y4, hy2⟩ := Wd.next y3 (q_new y3.w (knA known0) 31)
          rw [hy2] at hbg hI3 hKk hIS
          rw [hy2]
          obtain ⟨g, hg⟩ : ∃ g, y3.w.heap.size = g := ⟨_, rfl⟩
          rw [hg] at hbg hgn
          refine hK' _ _ ⟨y4, rfl⟩ ?_
          clear hK' K' hy2
          try simp only [Act.put, List.setIfInBounds_toArray, List.set_cons_succ, List.set_cons_zero]
          rw [hg]
          clear hg
          refine held_one 4 rfl (by kernel_rfl) rfl (fun K' hK' => ?_)
          go_simp
          refine (add1_any k1 TA tc y4.w (hT1 y4) hKk hIS hks1 hkl1).mono ?_
          rintro e w' ⟨k2, rfl, hks2, hkl2, hKk2, hq⟩
          have hI3 := hI3.q hq
          have hKk := hKk.q hq
          have hIS := hIS.q hq
          have hbg := hbg.q hq
          obtain ⟨y5, rfl⟩ := Wd.next y4 hq
          refine hK' _ _ ⟨y5, rfl⟩ ?_
          clear hK' K' hq
          try simp only [Act.put, List.setIfInBounds_toArray, List.set_cons_succ, List.set_cons_zero]
          refine held_pure 5 (v := .tuple #[.agg (knA k2), .bool true]) rfl (by kernel_rfl) (by kernel_rfl) (by kernel_rfl) (by intro c a d v w h; cases d <;> exact h) rfl ⟨_, rfl⟩ (fun w => by rfl) ?_
          try simp only [Act.put, List.setIfInBounds_toArray, List.set_cons_succ, List.set_cons_zero]
          refine held_pure 6 (v := .agg (knA k2)) rfl (by kernel_rfl) (by kernel_rfl) (by kernel_rfl) (by intro c a d v w h; cases d <;> exact h) rfl ⟨_, rfl⟩ (fun w => by rfl) ?_
          try simp only [Act.put, List.setIfInBounds_toArray, List.set_cons_succ, List.set_cons_zero]
          refine held_pure 7 (v := .bool true) rfl (by kernel_rfl) (by kernel_rfl) (by kernel_rfl) (by intro c a d v w h; cases d <;> exact h) rfl ⟨_, rfl⟩ (fun w => by rfl) ?_
          try simp only [Act.put, List.setIfInBounds_toArray, List.set_cons_succ, List.set_cons_zero]
          refine held_one 9 rfl (by kernel_rfl) rfl (fun K' hK' => ?_)
          refine wp_store_mid 31 (.tmp 2) (.tmp 17) rfl g 0 (knA k2) rfl rfl (show y5.w.there g 0 2 by simpa using hbg.there (n := 2) (Nat.le_refl 2)) (by kernel_rfl) (kn_all _) ?_
          have hqs : Q W1 (y5.w.setCells g 0 k2.cells) := below_setCells hgn k2.cells 0 W1 y5.w y5.q
          have hsc : Blk (y5.w.setCells g 0 k2.cells) g 31 k2.cells.toArray := by
            have := Blk.setCells k2.cells 0 _ y5.w hbg (Nat.le_refl 2)
            rwa [splice_all _ _ (by rfl)] at this
          refine hK' _ _ ⟨⟨_, hqs⟩, rfl⟩ ?_
          clear hK' K'
          try simp only [Act.put, List.setIfInBounds_toArray, List.set_cons_succ, List.set_cons_zero]
          have hfar := fun b (hne : b ≠ g) => setCells_far (g := g) hne k2.cells 0 y5.w
          have hside : _root_.Go.Proofs.YtflgkplneekpfaaGreatDoor.Known.Aside y5.w (y5.w.setCells g 0 k2.cells) g := ⟨known_only35 hbg, hfar, (below_setCells (Nat.le_refl _) k2.cells 0 y5.w y5.w (Below.refl g y5.w)).size⟩
          have hK3 := hside.known hKk2
          refine held_pure 10 (v := .bool true) rfl (by kernel_rfl) (by kernel_rfl) (by kernel_rfl) (by intro c a d v w h; cases d <;> exact h) rfl ⟨⟨_, hqs⟩, rfl⟩ (fun w => by rfl) ?_
          try simp only [Act.put, List.setIfInBounds_toArray, List.set_cons_succ, List.set_cons_zero]
          refine wpAnyH_done (by kernel_rfl) ?_ _
          exact REST2 g k2 TA tc _ _ _ _ hqs hgn hsc hK3 hks2 hkl2
      · have hI3 := hI3.q (q_new y2.w (knA known0) 31)
        have hKk := hKk.q (q_new y2.w (knA known0) 31)
        refine wp_alloc_run 31 _ rfl (alloc_known35 _) ?_
        have hbg := Blk.new y2.w 31 (knA known0)
        have hgn := y2.q.size
        obtain ⟨y3, hy2⟩ := Wd.next y2 (q_new y2.w (knA known0) 31)
        rw [hy2] at hbg hI3 hKk
        rw [hy2]
        obtain ⟨g, hg⟩ : ∃ g, y2.w.heap.size = g := ⟨_, rfl⟩
        rw [hg] at hbg hgn
        refine hK' _ _ ⟨y3, rfl⟩ ?_
        clear hK' K' hy2
        try simp only [Act.put, List.setIfInBounds_toArray, List.set_cons_succ, List.set_cons_zero]
        rw [hg]
        clear hg
        refine held_one 3 rfl (by kernel_rfl) rfl (fun K' hK' => ?_)
        go_simp
        refine (sS_any y3.w (hT1 y3)).mono ?_
        rintro e w' ⟨TA, tc, rfl, hIS, hq⟩
        have hI3 := hI3.q hq
        have hKk := hKk.q hq
        have hbg := hbg.q hq
        obtain ⟨y4, rfl⟩ := Wd.next y3 hq
        refine hK' _ _ ⟨y4, rfl⟩ ?_
        clear hK' K' hq
        try simp only [Act.put, List.setIfInBounds_toArray, List.set_cons_succ, List.set_cons_zero]
        refine held_one 4 rfl (by kernel_rfl) rfl (fun K' hK' => ?_)
        go_simp
        refine (add1_any k1 TA tc y4.w (hT1 y4) hKk hIS hks1 hkl1).mono ?_
        rintro e w' ⟨k2, rfl, hks2, hkl2, hKk2, hq⟩
        have hI3 := hI3.q hq
        have hKk := hKk.q hq
        have hIS := hIS.q hq
        have hbg := hbg.q hq
        obtain ⟨y5, rfl⟩ := Wd.next y4 hq
        refine hK' _ _ ⟨y5, rfl⟩ ?_
        clear hK' K' hq
        try simp only [Act.put, List.setIfInBounds_toArray, List.set_cons_succ, List.set_cons_zero]
        refine held_pure 5 (v := .tuple #[.agg (knA k2), .bool true]) rfl (by kernel_rfl) (by kernel_rfl) (by kernel_rfl) (by intro c a d v w h; cases d <;> exact h) rfl ⟨_, rfl⟩ (fun w => by rfl) ?_
        try simp only [Act.put, List.setIfInBounds_toArray, List.set_cons_succ, List.set_cons_zero]
        refine held_pure 6 (v := .agg (knA k2)) rfl (by kernel_rfl) (by kernel_rfl) (by kernel_rfl) (by intro c a d v w h; cases d <;> exact h) rfl ⟨_, rfl⟩ (fun w => by rfl) ?_
        try simp only [Act.put, List.setIfInBounds_toArray, List.set_cons_succ, List.set_cons_zero]
        refine held_pure 7 (v := .bool true) rfl (by kernel_rfl) (by kernel_rfl) (by kernel_rfl) (by intro c a d v w h; cases d <;> exact h) rfl ⟨_, rfl⟩ (fun w => by rfl) ?_
        try simp only [Act.put, List.setIfInBounds_toArray, List.set_cons_succ, List.set_cons_zero]
        refine held_one 9 rfl (by kernel_rfl) rfl (fun K' hK' => ?_)
        refine wp_store_mid 31 (.tmp 2) (.tmp 17) rfl g 0 (knA k2) rfl rfl (show y5.w.there g 0 2 by simpa using hbg.there (n := 2) (Nat.le_refl 2)) (by kernel_rfl) (kn_all _) ?_
        have hqs : Q W1 (y5.w.setCells g 0 k2.cells) := below_setCells hgn k2.cells 0 W1 y5.w y5.q
        have hsc : Blk (y5.w.setCells g 0 k2.cells) g 31 k2.cells.toArray := by
          have := Blk.setCells k2.cells 0 _ y5.w hbg (Nat.le_refl 2)
          rwa [splice_all _ _ (by rfl)] at this
        refine hK' _ _ ⟨⟨_, hqs⟩, rfl⟩ ?_
        clear hK' K'
        try simp only [Act.put, List.setIfInBounds_toArray, List.set_cons_succ, List.set_cons_zero]
        have hfar := fun b (hne : b ≠ g) => setCells_far (g := g) hne k2.cells 0 y5.w
        have hside : _root_.Go.Proofs.YtflgkplneekpfaaGreatDoor.Known.Aside y5.w (y5.w.setCells g 0 k2.cells) g := ⟨known_only35 hbg, hfar, (below_setCells (Nat.le_refl _) k2.cells 0 y5.w y5.w (Below.refl g y5.w)).size⟩
        have hK3 := hside.known hKk2
        refine held_pure 10 (v := .bool true) rfl (by kernel_rfl) (by kernel_rfl) (by kernel_rfl) (by intro c a d v w h; cases d <;> exact h) rfl ⟨⟨_, hqs⟩, rfl⟩ (fun w => by rfl) ?_
        try simp only [Act.put, List.setIfInBounds_toArray, List.set_cons_succ, List.set_cons_zero]
        refine wpAnyH_done (by kernel_rfl) ?_ _
        exact REST2 g k2 TA tc _ _ _ _ hqs hgn hsc hK3 hks2 hkl2
    · have hI3 := hI3.q (q_new y1.w (knA known0) 31)
      refine wp_alloc_run 31 _ rfl (alloc_known35 _) ?_
      have hbg := Blk.new y1.w 31 (knA known0)
      have hgn := y1.q.size
      obtain ⟨y2, hy2⟩ := Wd.next y1 (q_new y1.w (knA known0) 31)
      rw [hy2] at hbg hI3
      rw [hy2]
      obtain ⟨g, hg⟩ : ∃ g, y1.w.heap.size = g := ⟨_, rfl⟩
      rw [hg] at hbg hgn
      refine hK' _ _ ⟨y2, rfl⟩ ?_
      clear hK' K' hy2
      try simp only [Act.put, List.setIfInBounds_toArray, List.set_cons_succ, List.set_cons_zero]
      rw [hg]
      clear hg
      refine held_one 1 rfl (by kernel_rfl) rfl (fun K' hK' => ?_)
      go_simp
      have hnew := new_any A3 c3 pubs35 y2.w hI3 (by rw [hp3]; omega)
      rw [hp3] at hnew
      refine hnew.mono ?_
      clear hnew
      rintro e w' ⟨k1, rfl, hks1, hkl1, hKk, hq⟩
      have hI3 := hI3.q hq
      have hbg := hbg.q hq
      obtain ⟨y3, rfl⟩ := Wd.next y2 hq
      refine hK' _ _ ⟨y3, rfl⟩ ?_
      clear hK' K' hq
      try simp only [Act.put, List.setIfInBounds_toArray, List.set_cons_succ, List.set_cons_zero]
      refine held_one 3 rfl (by kernel_rfl) rfl (fun K' hK' => ?_)
      go_simp
      refine (sS_any y3.w (hT1 y3)).mono ?_
      rintro e w' ⟨TA, tc, rfl, hIS, hq⟩
      have hI3 := hI3.q hq
      have hKk := hKk.q hq
      have hbg := hbg.q hq
      obtain ⟨y4, rfl⟩ := Wd.next y3 hq
      refine hK' _ _ ⟨y4, rfl⟩ ?_
      clear hK' K' hq
      try simp only [Act.put, List.setIfInBounds_toArray, List.set_cons_succ, List.set_cons_zero]
      refine held_one 4 rfl (by kernel_rfl) rfl (fun K' hK' => ?_)
      go_simp
      refine (add1_any k1 TA tc y4.w (hT1 y4) hKk hIS hks1 hkl1).mono ?_
      rintro e w' ⟨k2, rfl, hks2, hkl2, hKk2, hq⟩
      have hI3 := hI3.q hq
      have hKk := hKk.q hq
      have hIS := hIS.q hq
      have hbg := hbg.q hq
      obtain ⟨y5, rfl⟩ := Wd.next y4 hq
      refine hK' _ _ ⟨y5, rfl⟩ ?_
      clear hK' K' hq
      try simp only [Act.put, List.setIfInBounds_toArray, List.set_cons_succ, List.set_cons_zero]
      refine held_pure 5 (v := .tuple #[.agg (knA k2), .bool true]) rfl (by kernel_rfl) (by kernel_rfl) (by kernel_rfl) (by intro c a d v w h; cases d <;> exact h) rfl ⟨_, rfl⟩ (fun w => by rfl) ?_
      try simp only [Act.put, List.setIfInBounds_toArray, List.set_cons_succ, List.set_cons_zero]
      refine held_pure 6 (v := .agg (knA k2)) rfl (by kernel_rfl) (by kernel_rfl) (by kernel_rfl) (by intro c a d v w h; cases d <;> exact h) rfl ⟨_, rfl⟩ (fun w => by rfl) ?_
      try simp only [Act.put, List.setIfInBounds_toArray, List.set_cons_succ, List.set_cons_zero]
      refine held_pure 7 (v := .bool true) rfl (by kernel_rfl) (by kernel_rfl) (by kernel_rfl) (by intro c a d v w h; cases d <;> exact h) rfl ⟨_, rfl⟩ (fun w => by rfl) ?_
      try simp only [Act.put, List.setIfInBounds_toArray, List.set_cons_succ, List.set_cons_zero]
      refine held_one 9 rfl (by kernel_rfl) rfl (fun K' hK' => ?_)
      refine wp_store_mid 31 (.tmp 2) (.tmp 17) rfl g 0 (knA k2) rfl rfl (show y5.w.there g 0 2 by simpa using hbg.there (n := 2) (Nat.le_refl 2)) (by kernel_rfl) (kn_all _) ?_
      have hqs : Q W1 (y5.w.setCells g 0 k2.cells) := below_setCells hgn k2.cells 0 W1 y5.w y5.q
      have hsc : Blk (y5.w.setCells g 0 k2.cells) g 31 k2.cells.toArray := by
        have := Blk.setCells k2.cells 0 _ y5.w hbg (Nat.le_refl 2)
        rwa [splice_all _ _ (by rfl)] at this
      refine hK' _ _ ⟨⟨_, hqs⟩, rfl⟩ ?_
      clear hK' K'
      try simp only [Act.put, List.setIfInBounds_toArray, List.set_cons_succ, List.set_cons_zero]
      have hfar := fun b (hne : b ≠ g) => setCells_far (g := g) hne k2.cells 0 y5.w
      have hside : _root_.Go.Proofs.YtflgkplneekpfaaGreatDoor.Known.Aside y5.w (y5.w.setCells g 0 k2.cells) g := ⟨known_only35 hbg, hfar, (below_setCells (Nat.le_refl _) k2.cells 0 y5.w y5.w (Below.refl g y5.w)).size⟩
      have hK3 := hside.known hKk2
      refine held_pure 10 (v := .bool true) rfl (by kernel_rfl) (by kernel_rfl) (by kernel_rfl) (by intro c a d v w h; cases d <;> exact h) rfl ⟨⟨_, hqs⟩, rfl⟩ (fun w => by rfl) ?_
      try simp only [Act.put, List.setIfInBounds_toArray, List.set_cons_succ, List.set_cons_zero]
      refine wpAnyH_done (by kernel_rfl) ?_ _
      exact REST2 g k2 TA tc _ _ _ _ hqs hgn hsc hK3 hks2 hkl2
  · refine wp_alloc_run 31 _ rfl (alloc_known35 _) ?_
    have hbg := Blk.new y0.w 31 (knA known0)
    have hgn := y0.q.size
    obtain ⟨y1, hy2⟩ := Wd.next y0 (q_new y0.w (knA known0) 31)
    rw [hy2] at hbg
    rw [hy2]
    obtain ⟨g, hg⟩ : ∃ g, y0.w.heap.size = g := ⟨_, rfl⟩
    rw [hg] at hbg hgn
    refine hK' _ _ ⟨y1, rfl⟩ ?_
    clear hK' K' hy2
    try simp only [Act.put, List.setIfInBounds_toArray, List.set_cons_succ, List.set_cons_zero]
    rw [hg]
    clear hg
    refine held_one 0 rfl (by kernel_rfl) rfl (fun K' hK' => ?_)
    go_simp
    refine (pubs35_any y1.w (hT1 y1)).mono ?_
    rintro e w' ⟨A3, c3, rfl, hI3, hq⟩
    have hbg := hbg.q hq
    obtain ⟨y2, rfl⟩ := Wd.next y1 hq
    refine hK' _ _ ⟨y2, rfl⟩ ?_
    clear hK' K' hq
    try simp only [Act.put, List.setIfInBounds_toArray, List.set_cons_succ, List.set_cons_zero]
    refine held_one 1 rfl (by kernel_rfl) rfl (fun K' hK' => ?_)
    go_simp
    have hnew := new_any A3 c3 pubs35 y2.w hI3 (by rw [hp3]; omega)
    rw [hp3] at hnew
    refine hnew.mono ?_
    clear hnew
    rintro e w' ⟨k1, rfl, hks1, hkl1, hKk, hq⟩
    have hI3 := hI3.q hq
    have hbg := hbg.q hq
    obtain ⟨y3, rfl⟩ := Wd.next y2 hq
    refine hK' _ _ ⟨y3, rfl⟩ ?_
    clear hK' K' hq
    try simp only [Act.put, List.setIfInBounds_toArray, List.set_cons_succ, List.set_cons_zero]
    refine held_one 3 rfl (by kernel_rfl) rfl (fun K' hK' => ?_)
    go_simp
    refine (sS_any y3.w (hT1 y3)).mono ?_
    rintro e w' ⟨TA, tc, rfl, hIS, hq⟩
    have hI3 := hI3.q hq
    have hKk := hKk.q hq
    have hbg := hbg.q hq
    obtain ⟨y4, rfl⟩ := Wd.next y3 hq
    refine hK' _ _ ⟨y4, rfl⟩ ?_
    clear hK' K' hq
    try simp only [Act.put, List.setIfInBounds_toArray, List.set_cons_succ, List.set_cons_zero]
    refine held_one 4 rfl (by kernel_rfl) rfl (fun K' hK' => ?_)
    go_simp
    refine (add1_any k1 TA tc y4.w (hT1 y4) hKk hIS hks1 hkl1).mono ?_
    rintro e w' ⟨k2, rfl, hks2, hkl2, hKk2, hq⟩
    have hI3 := hI3.q hq
    have hKk := hKk.q hq
    have hIS := hIS.q hq
    have hbg := hbg.q hq
    obtain ⟨y5, rfl⟩ := Wd.next y4 hq
    refine hK' _ _ ⟨y5, rfl⟩ ?_
    clear hK' K' hq
    try simp only [Act.put, List.setIfInBounds_toArray, List.set_cons_succ, List.set_cons_zero]
    refine held_pure 5 (v := .tuple #[.agg (knA k2), .bool true]) rfl (by kernel_rfl) (by kernel_rfl) (by kernel_rfl) (by intro c a d v w h; cases d <;> exact h) rfl ⟨_, rfl⟩ (fun w => by rfl) ?_
    try simp only [Act.put, List.setIfInBounds_toArray, List.set_cons_succ, List.set_cons_zero]
    refine held_pure 6 (v := .agg (knA k2)) rfl (by kernel_rfl) (by kernel_rfl) (by kernel_rfl) (by intro c a d v w h; cases d <;> exact h) rfl ⟨_, rfl⟩ (fun w => by rfl) ?_
    try simp only [Act.put, List.setIfInBounds_toArray, List.set_cons_succ, List.set_cons_zero]
    refine held_pure 7 (v := .bool true) rfl (by kernel_rfl) (by kernel_rfl) (by kernel_rfl) (by intro c a d v w h; cases d <;> exact h) rfl ⟨_, rfl⟩ (fun w => by rfl) ?_
    try simp only [Act.put, List.setIfInBounds_toArray, List.set_cons_succ, List.set_cons_zero]
    refine held_one 9 rfl (by kernel_rfl) rfl (fun K' hK' => ?_)
    refine wp_store_mid 31 (.tmp 2) (.tmp 17) rfl g 0 (knA k2) rfl rfl (show y5.w.there g 0 2 by simpa using hbg.there (n := 2) (Nat.le_refl 2)) (by kernel_rfl) (kn_all _) ?_
    have hqs : Q W1 (y5.w.setCells g 0 k2.cells) := below_setCells hgn k2.cells 0 W1 y5.w y5.q
    have hsc : Blk (y5.w.setCells g 0 k2.cells) g 31 k2.cells.toArray := by
      have := Blk.setCells k2.cells 0 _ y5.w hbg (Nat.le_refl 2)
      rwa [splice_all _ _ (by rfl)] at this
    refine hK' _ _ ⟨⟨_, hqs⟩, rfl⟩ ?_
    clear hK' K'
    try simp only [Act.put, List.setIfInBounds_toArray, List.set_cons_succ, List.set_cons_zero]
    have hfar := fun b (hne : b ≠ g) => setCells_far (g := g) hne k2.cells 0 y5.w
    have hside : _root_.Go.Proofs.YtflgkplneekpfaaGreatDoor.Known.Aside y5.w (y5.w.setCells g 0 k2.cells) g := ⟨known_only35 hbg, hfar, (below_setCells (Nat.le_refl _) k2.cells 0 y5.w y5.w (Below.refl g y5.w)).size⟩
    have hK3 := hside.known hKk2
    refine held_pure 10 (v := .bool true) rfl (by kernel_rfl) (by kernel_rfl) (by kernel_rfl) (by intro c a d v w h; cases d <;> exact h) rfl ⟨⟨_, hqs⟩, rfl⟩ (fun w => by rfl) ?_
    try simp only [Act.put, List.setIfInBounds_toArray, List.set_cons_succ, List.set_cons_zero]
    refine wpAnyH_done (by kernel_rfl) ?_ _
    exact REST2 g k2 TA tc _ _ _ _ hqs hgn hsc hK3 hks2 hkl2
end Go.Proofs.YtflgkplneekpfaaGreatDoor.Dec

namespace Go.Proofs.YtflgkplneekpfaaGreatDoor.Dec
open Go.RowKit Grp Mem _root_.Go.Proofs.YtflgkplneekpfaaGreatDoor.Code Sha Sign _root_.Go.Proofs.YtflgkplneekpfaaGreatDoor.Item _root_.Go.Proofs.YtflgkplneekpfaaGreatDoor.Known

theorem few_of {l : List DecR} (h : fewL l = true) : l.length ≤ 14 ∧ ∀ d ∈ l, fewD d = true := by
  unfold fewL at h
  rw [Bool.and_eq_true, decide_eq_true_eq, List.all_eq_true] at h
  exact h
def seenN (n : Int) (l : List DecR) : Bool := l.any fun d => decide (d.number = n)
theorem seenN_step (n : Int) (l : List DecR) (j : Nat) (h : j < l.length) : seenN n (l.take (j + 1)) = (seenN n (l.take j) || decide (l[j].number = n)) := by
  unfold seenN
  rw [List.take_succ_eq_append_getElem h, List.any_append]
  simp
set_option maxRecDepth 100000 in
set_option maxHeartbeats 16000000 in
theorem num_any (A : Option Addr) (c : Nat) (l : List DecR) (s : Int) (w : World) (hT : Tab w) (hR : RowsAt w A 12 DecR.cells l) (hb : ∀ d ∈ l, d.actor.size ≤ 140737488355328 ∧ d.object.size ≤ 140737488355328) (hI : ∀ d ∈ l, DecIn w d) (hFt : ∀ d ∈ l, fewD d = true → Fit d) (hs : -9223372036854775808 ≤ s ∧ s ≤ 9223372036854775807) (hlm : l.length ≤ maxLen) :
    Calls Tryz.prog 5 #[.slice A l.length c, .int .i64 s] w fun e w' => e = .returned (.bool true) ∧ Q w w' := by
  have hSm := fun y : Wd w => small35_any y.w (hT.q y.q)
  have hFw := fun y : Wd w => few35_any A c l y.w (hR.q y.q) hb hlm
  have hPk := fun y : Wd w => pick3_any s y.w hs
  have hmx : maxLen = 9223372036854775807 := by decide
  obtain ⟨x, hx⟩ := Wd.first w
  refine (show Calls Tryz.prog 5 #[.slice A l.length c, .int .i64 s] x.w _ → _ from fun h => by rwa [← hx] at h) ?_
  clear hx
  cases hfw : fewL l
  · rw [hfw] at hFw
    generalize l.length = nl at *
    clear hPk
    go_enter Tryz.func5, Tryz.ntmps5
    go_wp2_with (first | (go_at_call 18; refine (hSm _).mono ?_; rintro e w' ⟨rfl, hq2⟩; obtain ⟨y, rfl⟩ := Wd.next _ hq2; clear hq2) | (go_at_call 19; refine (hFw _).mono ?_; rintro e w' ⟨rfl, hq2⟩; obtain ⟨y, rfl⟩ := Wd.next _ hq2; clear hq2))
    go_ret
    exact ⟨rfl, y.q⟩
  rw [hfw] at hFw
  obtain ⟨h14, hfd⟩ := few_of hfw
  have hSet := fun y : Wd w => set35_any A c l y.w (hT.q y.q) (hR.q y.q) (fun d hd => (hI d hd).q y.q) (fun d hd => hFt d hd (hfd d hd)) h14
  clear hR hb hI hFt hfd hfw
  generalize l.length = nl at *
  generalize s % 3 = n3 at *
  go_enter Tryz.func5, Tryz.ntmps5
  go_upto_region 7 with (first | (go_at_call 18; refine (hSm _).mono ?_; rintro e w' ⟨rfl, hq2⟩; obtain ⟨y, rfl⟩ := Wd.next _ hq2; clear hq2) | (go_at_call 19; refine (hFw _).mono ?_; rintro e w' ⟨rfl, hq2⟩; obtain ⟨y, rfl⟩ := Wd.next _ hq2; clear hq2) | (go_at_call 20; refine (hPk _).mono ?_; rintro e w' ⟨rfl, hq2⟩; obtain ⟨y, rfl⟩ := Wd.next _ hq2; clear hq2) | (go_at_call 21; refine (hSet _).mono ?_; rintro e w' ⟨k, rfl, hks, hkF, hkl, hkK, hq2⟩; obtain ⟨y9, rfl⟩ := Wd.next _ hq2; clear hq2) | (refine wpList_store_blk (Blk.new y9.w 31 known0.cells.toArray) rfl 31 (.tmp 7) (.tmp 26) k.cells rfl rfl rfl (by kernel_rfl) (kn_all _) (Nat.le_refl 2) ?_))
  intro W hW hbel
  rw [splice_all _ _ (by rfl)] at hW
  have hqW : Q w W := hbel _ _ y9.q.size (Q.trans y9.q (q_new _ _ _))
  have hkW : KIn W k := hkK.q (hbel _ _ (Nat.le_refl _) (q_new _ _ _))
  have hTW : ∀ z : Wd W, Tab z.w := fun z => hT.q (Q.trans hqW z.q)
  have hLk : ∀ z : Wd W, (Instr.loadAt 31 (.pointer (some ⟨y9.w.heap.size, 0, none⟩))).run Tryz.prog z.w = .ok (.agg (knA k)) z.w := Wd.load hW.lt (Blk.range hW) Tryz.underlying31 rfl (by kernel_rfl)
  have hVa := fun z : Wd W => valid35_any k n3 z.w (hTW z) (hkW.q z.q) (by omega)
  have hDe := fun z : Wd W => allDe_any k n3 z.w (hTW z) (hkW.q z.q) (by omega)
  have hto : ∀ d ∈ listDe n3 k.l, d.to.length ≤ 1000000 := fun d hd => (listDe_in hkW hd).2
  have HQW := Lib.hid hqW
  have hgW := hW.lt
  rw [hks] at hVa
  clear hbel hW hkK hSm hFw hPk hSet hqW
  generalize y9.w.heap.size = gk at *
  clear y9
  obtain ⟨u, hu⟩ := Wd.first W
  rw [hu]
  clear hu
  unfold ValidAre at hVa
  go_wp2_with (first | (refine wpList_load_run 31 (.tmp 7) (.pointer (some ⟨gk, 0, none⟩)) (.agg (knA k)) ?_ ?_ ?_ ?_ ?_; rfl; rfl; rfl; exact hLk _) | (go_at_call 22; refine (hVa _).mono ?_; rintro e w' ⟨VA, vc, vl, rfl, hv1, hv2, hvE, hvR, hvO, hq2⟩; obtain ⟨y, rfl⟩ := Wd.next _ hq2; clear hq2))
  have hNF := numF_of (s := n3) hkF hvE
  have hvt : ∀ d ∈ vl, d.to.length ≤ 1000000 := by
    intro d hd
    have hm : bare d ∈ validK pubs35 (listDe n3 k.l) := hvE ▸ List.mem_map.2 ⟨d, hd, rfl⟩
    rcases valid_of pubs35 (listDe n3 k.l) [] (bare d) hm with h | ⟨e, he, h1, _⟩
    · simp at h
    · have h2 := hto e he
      have h3 : (bare d).to = (bare e).to := by rw [h1]
      have h4 : d.to = e.to := h3
      rw [h4]
      exact h2
  have hvn : vl.length ≤ 20 := by
    have h1 := congrArg List.length hvE
    rw [List.length_map] at h1
    have h2 := valid_le pubs35 (listDe n3 k.l) (listDe n3 k.l).length
    rw [List.take_length] at h2
    have h3 := listDe_le n3 k.l
    omega
  obtain ⟨V, hV⟩ : ∃ V, y.w = V := ⟨_, rfl⟩
  have hqV : Q W V := hV ▸ y.q
  rw [hV] at hvR hvO
  rw [hV]
  clear hV y u hVa hvE hto hv1 hv2
  have hLkV : ∀ z : Wd V, (Instr.loadAt 31 (.pointer (some ⟨gk, 0, none⟩))).run Tryz.prog z.w = .ok (.agg (knA k)) z.w := fun z => hLk ⟨z.w, Q.trans hqV z.q⟩
  have hTV : ∀ z : Wd V, Tab z.w := fun z => hTW ⟨z.w, Q.trans hqV z.q⟩
  have hkV : KIn V k := hkW.q hqV
  have hDeV : ∀ z : Wd V, Calls Tryz.prog 28 #[.agg (knA k), .int .i64 n3] z.w (ListDeAre (listDe n3 k.l) z.w) := fun z => hDe ⟨z.w, Q.trans hqV z.q⟩
  have HQV := Lib.hid (Q.trans HQW.out hqV)
  clear hLk hTW hkW hDe hqV
  generalize hnv : vl.length = nv at *
  go_loopw [9] (fun i wr => ∃ (j : Nat) (z : Wd V), i = .int .i64 j ∧ wr = z.w ∧ j ≤ nv) (fun i _ => nv - (intOf i).toNat)
  case atStart => exact ⟨0, ⟨V, Q.refl V⟩, rfl, rfl, Nat.zero_le _⟩
  case round =>
    obtain ⟨j, z, rfl, rfl, hj⟩ := hrel
    by_cases hlt : j < nv
    · have hltL : j < vl.length := by omega
      have hltI : (j : Int) < (nv : Int) := by omega
      have hjI : (0 : Int) ≤ (j : Int) := by omega
      obtain ⟨b, o, eA, hb0, hcs⟩ := hvR (by omega)
      have hcj := hcs j hltL
      have hLd : ∀ z : Wd V, (Instr.loadAt 48 (.pointer (some ⟨b, o + j * 12, none⟩))).run Tryz.prog z.w = .ok (.agg (decA vl[j])) z.w := Wd.load hb0 hcj Tryz.underlying48 rfl (by kernel_rfl)
      have hOf := fun z : Wd V => ofDec_from vl[j] z.w ((hvO _ (List.getElem_mem hltL)).inn.q z.q) (hvt _ (List.getElem_mem hltL))
      have cS := Wd.get hb0 hcj 0 (v := .int .i64 n3) (by rw [← hNF.srv j hltL]; rfl)
      have cN := Wd.get hb0 hcj 1 (v := .int .i64 vl[j].number) rfl
      have hhas := hNF.has j hltL
      have hsig := hNF.sig j hltL
      have hprev : j = 0 ∨ ∃ m : Nat, (j : Int) - 1 = (m : Int) ∧ (m : Int) < (nv : Int) ∧ (0 : Int) ≤ (m : Int) ∧ decide ((0 : Int) < (j : Int)) = true ∧ m < nv ∧ ∃ nm : Int, (∀ z : Wd V, z.w.cell? ⟨b, o + m * 12 + 1, none⟩ = some (.int .i64 nm)) ∧ decide (vl[j].number ≤ nm) = false := by
        rcases Nat.eq_zero_or_pos j with h | h
        · exact .inl h
        · have h2 : (j - 1) + 1 < vl.length := by omega
          have h3 := hNF.asc (j - 1) h2
          have h4 : vl[j - 1 + 1] = vl[j] := by congr 1; omega
          rw [h4] at h3
          exact .inr ⟨j - 1, by omega, by omega, by omega, decide_eq_true (by omega), by omega, vl[j - 1].number, fun z => Wd.get hb0 (hcs (j - 1) (by omega)) 1 (v := .int .i64 vl[j - 1].number) rfl z, decide_eq_false (by omega)⟩
      subst eA
      clear hcs hcj hNF hvt hvO hvR hDeV
      generalize vl[j] = d at *
      go_upto_region 12 with (first | (refine wpList_load_run 48 (.tmp 38) (.pointer (some ⟨b, o + j * 12, none⟩)) (.agg (decA d)) ?_ ?_ ?_ ?_ ?_; rfl; rfl; rfl; exact hLd _) | (go_at_call 23; refine (hOf _).mono ?_; rintro e w' ⟨TA, tc, rfl, htR, ht1, ht2, hq2⟩; obtain ⟨y2, rfl⟩ := Wd.next _ hq2; clear hq2) | (refine wpList_store_blk (Blk.new y2.w 50 item0.cells.toArray) rfl 50 (.tmp 10) (.tmp 40) (itDec (DecR.to' d TA tc)).cells rfl rfl rfl (by kernel_rfl) (it_all _) (Nat.le_refl 49) ?_))
      intro W2 hW2 hbel2
      rw [splice_all _ _ (by rfl)] at hW2
      have hq2 : Q V W2 := hbel2 _ _ y2.q.size (Q.trans y2.q (q_new _ _ _))
      have hqy : Q y2.w W2 := hbel2 _ _ (Nat.le_refl _) (q_new _ _ _)
      have hdi : DecIn W2 (DecR.to' d TA tc) := (dec_in htR ht1 ht2).q hqy
      have hI2 : ∀ z : Wd W2, ItemIn z.w (itDec (DecR.to' d TA tc)) := fun z => ⟨act0_in z.w, hdi.q z.q⟩
      have hT2 : ∀ z : Wd W2, Tab z.w := fun z => hTV ⟨z.w, Q.trans hq2 z.q⟩
      have hLi : ∀ z : Wd W2, (Instr.loadAt 50 (.pointer (some ⟨y2.w.heap.size, 0, none⟩))).run Tryz.prog z.w = .ok (.agg (itA (itDec (DecR.to' d TA tc)))) z.w := Wd.load hW2.lt (Blk.range hW2) Tryz.underlying50 rfl (by kernel_rfl)
      have hLk2 : ∀ z : Wd W2, (Instr.loadAt 31 (.pointer (some ⟨gk, 0, none⟩))).run Tryz.prog z.w = .ok (.agg (knA k)) z.w := fun z => hLkV ⟨z.w, Q.trans hq2 z.q⟩
      have hDg : ∀ z : Wd W2, Calls Tryz.prog 25 #[.agg (itA (itDec (DecR.to' d TA tc)))] z.w fun e w' => e = .returned (.string (digOf (itDec d))) ∧ Q z.w w' := fun z => digest_any (itDec (DecR.to' d TA tc)) z.w (hT2 z) (hI2 z)
      have hHs : ∀ z : Wd W2, Calls Tryz.prog 24 #[.agg (knA k), .string (digOf (itDec d))] z.w fun e w' => e = .returned (.bool true) ∧ Q z.w w' := fun z => by
        have h := has_any k (digOf (itDec d)) z.w (hT2 z) (hkV.q (Q.trans hq2 z.q))
        rwa [hhas] at h
      have hPu := fun z : Wd W2 => pubs35_any z.w (hT2 z)
      have hSi : ∀ (z : Wd W2) (A3 : Option Addr) (c3 : Nat), Ints z.w A3 pubs35 → Calls Tryz.prog 26 #[.slice A3 3 c3, .agg (itA (itDec (DecR.to' d TA tc)))] z.w fun e w' => e = .returned (.bool true) ∧ Q z.w w' := fun z A3 c3 h3 => by
        have h := signed_any A3 c3 pubs35 (itDec (DecR.to' d TA tc)) z.w (hT2 z) (hI2 z) h3 (by decide)
        rwa [show signedB pubs35 (itDec (DecR.to' d TA tc)) = true from hsig] at h
      have cS2 : ∀ z : Wd W2, z.w.cell? ⟨b, o + j * 12, none⟩ = some (.int .i64 n3) := fun z => cS ⟨z.w, Q.trans hq2 z.q⟩
      have cN2 : ∀ z : Wd W2, z.w.cell? ⟨b, o + j * 12 + 1, none⟩ = some (.int .i64 d.number) := fun z => cN ⟨z.w, Q.trans hq2 z.q⟩
      have cP2 : j = 0 ∨ ∃ m : Nat, (j : Int) - 1 = (m : Int) ∧ (m : Int) < (nv : Int) ∧ (0 : Int) ≤ (m : Int) ∧ decide ((0 : Int) < (j : Int)) = true ∧ m < nv ∧ ∃ nm : Int, (∀ z : Wd W2, z.w.cell? ⟨b, o + m * 12 + 1, none⟩ = some (.int .i64 nm)) ∧ decide (d.number ≤ nm) = false := by
        rcases hprev with h | ⟨m, h1, h2, h3, h4, h5, nm, h6, h7⟩
        · exact .inl h
        · exact .inr ⟨m, h1, h2, h3, h4, h5, nm, fun z => h6 ⟨z.w, Q.trans hq2 z.q⟩, h7⟩
      have HQ2 := Lib.hid hq2
      clear hbel2 hW2 hOf hLd cS cN hprev hhas hsig hdi htR hqy hq2 hLkV hkV
      generalize digOf (itDec d) = dg at *
      generalize d.number = nj at *
      generalize y2.w.heap.size = gi at *
      generalize itDec (DecR.to' d TA tc) = it at *
      clear y2
      obtain ⟨v, hv⟩ := Wd.first W2
      rw [hv]
      clear hv
      go_upto_region 12 with (fail)
      refine wp_region_wd v (by kernel_rfl) (by kernel_rfl) ?_
      repeat (first | (refine wpQuiet_load_run 31 (.tmp 7) (.pointer (some ⟨gk, 0, none⟩)) (.agg (knA k)) ?_ ?_ ?_ ?_ ?_; rfl; rfl; rfl; exact hLk2; dsimp only [Act.put]; simp only [List.setIfInBounds_toArray, List.set_cons_succ, List.set_cons_zero]) | (refine wpQuiet_load_run 50 (.tmp 10) (.pointer (some ⟨gi, 0, none⟩)) (.agg (itA it)) ?_ ?_ ?_ ?_ ?_; rfl; rfl; rfl; exact hLi; dsimp only [Act.put]; simp only [List.setIfInBounds_toArray, List.set_cons_succ, List.set_cons_zero]) | go_big_quiet_step (first | (go_at_call 25; exact Wd.call _ (hDg _)) | (go_at_call 24; exact Wd.call _ (hHs _))))
      refine wpQuiet_nil ?_
      rintro w3 ⟨y3, rfl⟩
      go_upto_region 13 with (fail)
      refine wp_region_S (fun z => ∃ y : Wd W2, z = y.w) (by kernel_rfl) ⟨⟨_, y3.q.drew⟩, rfl⟩ ?_
      rintro _ ⟨y4, rfl⟩
      refine held_read 1 (v := .agg (itA it)) rfl (by kernel_rfl) (by kernel_rfl) (by kernel_rfl) (by intro c a d v w h; cases d <;> exact h) rfl ⟨_, rfl⟩ (fun z hz => exec_load 50 (.tmp 10) _ _ rfl rfl (by obtain ⟨y, rfl⟩ := hz; exact hLi y)) ?_
      try simp only [Act.put, List.setIfInBounds_toArray, List.set_cons_succ, List.set_cons_zero]
      refine held_one 0 rfl (by kernel_rfl) rfl (fun K' hK' => ?_)
      go_simp
      refine (hPu y4).mono ?_
      rintro e w' ⟨A3, c3, rfl, hI3, hq3⟩
      obtain ⟨y5, rfl⟩ := Wd.next _ hq3
      refine hK' _ _ ⟨y5, rfl⟩ ?_
      clear hK' K' hq3
      try simp only [Act.put, List.setIfInBounds_toArray, List.set_cons_succ, List.set_cons_zero]
      refine held_one 2 rfl (by kernel_rfl) rfl (fun K' hK' => ?_)
      go_simp
      refine (hSi y5 A3 c3 hI3).mono ?_
      rintro e w' ⟨rfl, hq3⟩
      obtain ⟨y6, rfl⟩ := Wd.next _ hq3
      refine hK' _ _ ⟨y6, rfl⟩ ?_
      clear hK' K' hq3 hI3
      try simp only [Act.put, List.setIfInBounds_toArray, List.set_cons_succ, List.set_cons_zero]
      refine held_pure 3 (v := .bool true) rfl (by kernel_rfl) (by kernel_rfl) (by kernel_rfl) (by intro c a d v w h; cases d <;> exact h) rfl ⟨_, rfl⟩ (fun w => by rfl) ?_
      try simp only [Act.put, List.setIfInBounds_toArray, List.set_cons_succ, List.set_cons_zero]
      refine wpAnyH_done (by kernel_rfl) ?_ _
      clear hDg hHs hPu hSi hLi hLk2
      have hnn : (n3 == n3) = true := by simp
      rcases cP2 with rfl | ⟨m, hm1, hm2, hm3, hm4, hm5, nm, cM, hm6⟩
      · go_upto_region 14 with (fail)
        have cS0 : ∀ z : Wd W2, z.w.cell? ⟨b, o, none⟩ = some (.int .i64 n3) := cS2
        refine wp_region_wd y6 (by kernel_rfl) (by kernel_rfl) ?_
        iterate 18 (go_big_quiet_step (fail))
        with_reducible refine dmove (.tmp 65) (.bool false) (by kernel_rfl) (by kernel_rfl) (by kernel_rfl) ?_
        dsimp only [Act.put]
        simp only [List.setIfInBounds_toArray, List.set_cons_succ, List.set_cons_zero]
        iterate 12 (with_reducible refine dskip (by kernel_rfl) ?_; dsimp only [Act.put]; simp only [List.setIfInBounds_toArray, List.set_cons_succ, List.set_cons_zero])
        repeat (go_big_quiet_step (fail))
        refine wpQuiet_nil ?_
        rintro w'' ⟨y7, rfl⟩
        go_wp2_with fail
        exact ⟨⟨0 + 1, ⟨y7.w, Q.trans HQ2.out y7.q⟩, by go_num, rfl, by omega⟩, by simp only [intOf]; omega⟩
      · go_upto_region 14 with (fail)
        have hj0 : 0 < j := by have := of_decide_eq_true hm4; omega
        have hj1 : decide (0 < j) = true := decide_eq_true hj0
        refine wp_region_wd y6 (by kernel_rfl) (by kernel_rfl) ?_
        repeat (go_big_quiet_step (fail))
        refine wpQuiet_nil ?_
        rintro w'' ⟨y7, rfl⟩
        go_wp2_with fail
        exact ⟨⟨j + 1, ⟨y7.w, Q.trans HQ2.out y7.q⟩, by go_num, rfl, by omega⟩, by simp only [intOf]; omega⟩
    · obtain rfl : j = nv := by omega
      have hnl2 : ¬ ((j : Int) < (j : Int)) := by omega
      have hall := hNF.all
      unfold ListDeAre at hDeV
      have hAl := listDe_le n3 k.l
      generalize listDe n3 k.l = al at *
      clear hNF hvt hvO hlt hj
      go_wp2_with (first | (refine wpList_load_run 31 (.tmp 7) (.pointer (some ⟨gk, 0, none⟩)) (.agg (knA k)) ?_ ?_ ?_ ?_ ?_; rfl; rfl; rfl; exact hLkV _) | (go_at_call 28; refine (hDeV _).mono ?_; rintro e w' ⟨AA, ac, rfl, ha1, ha2, haR, hq2⟩; obtain ⟨y, rfl⟩ := Wd.next _ hq2; clear hq2))
      have hvR2 := hvR.q y.q
      obtain ⟨V2, hV2⟩ : ∃ V2, y.w = V2 := ⟨_, rfl⟩
      have hqV2 : Q V V2 := hV2 ▸ y.q
      rw [hV2] at haR hvR2
      rw [hV2]
      have HQ2 := Lib.hid (Q.trans HQV.out hqV2)
      clear hV2 y z hvR hLkV hDeV hTV hkV hqV2
      generalize hna : al.length = na at *
      go_loopw [14] (fun i wr => ∃ (e : Nat) (z : Wd V2), i = .int .i64 e ∧ wr = z.w ∧ e ≤ na) (fun i _ => na - (intOf i).toNat)
      case atStart => exact ⟨0, ⟨V2, Q.refl V2⟩, rfl, rfl, Nat.zero_le _⟩
      case round =>
        obtain ⟨e, z, rfl, rfl, he⟩ := hrel
        by_cases hlt : e < na
        · have hltL : e < al.length := by omega
          have heI : (e : Int) < (na : Int) := by omega
          have heI0 : (0 : Int) ≤ (e : Int) := by omega
          obtain ⟨b2, o2, eA, hb2, hcs2⟩ := haR (by omega)
          have cA := Wd.get hb2 (hcs2 e hltL) 1 (v := .int .i64 al[e].number) rfl
          have hsee : Hid (seenN al[e].number vl = true) := Lib.hid (by
            obtain ⟨t, ht, hn⟩ := hall _ (List.getElem_mem hltL)
            unfold seenN
            rw [List.any_eq_true]
            exact ⟨vl[t], List.getElem_mem ht, by simpa using hn⟩)
          subst eA
          clear hcs2 haR hall
          generalize al[e].number = n at *
          go_wp2_with fail
          go_loopw [15, 16] (fun f i wr => ∃ (t : Nat) (z : Wd V2), f = .bool (seenN n (vl.take t)) ∧ i = .int .i64 t ∧ wr = z.w ∧ t ≤ j) (fun _ i _ => j - (intOf i).toNat)
          case atStart => exact ⟨0, z, rfl, rfl, rfl, Nat.zero_le _⟩
          case round =>
            obtain ⟨t, z, rfl, rfl, rfl, ht⟩ := hrel
            by_cases htl : t < j
            · have htL : t < vl.length := by omega
              have htI : (t : Int) < (j : Int) := by omega
              have htI0 : (0 : Int) ≤ (t : Int) := by omega
              obtain ⟨b, o, eA, hb0, hcs⟩ := hvR2 (by omega)
              have cT := Wd.get hb0 (hcs t htL) 1 (v := .int .i64 vl[t].number) rfl
              have hstep := Lib.hid (seenN_step n vl t htL)
              subst eA
              clear hcs hvR2 hsee
              generalize hNx : seenN n (List.take (t + 1) vl) = nx at *
              generalize seenN n (List.take t vl) = sb at *
              generalize vl[t].number = m at *
              cases sb
              · by_cases hmn : m = n
                · have he1 : (m == n) = true := by simpa using hmn
                  have HN : Hid (nx = true) := Lib.hid (by rw [hstep.out, hmn]; simp)
                  clear hstep
                  go_upto_region 24 with (fail)
                  refine wp_region_wd z (by kernel_rfl) (by kernel_rfl) ?_
                  repeat (go_big_quiet_step (fail))
                  refine wpQuiet_nil ?_
                  rintro w'' ⟨y7, rfl⟩
                  go_wp2_with fail
                  exact ⟨⟨t + 1, y7, by rw [hNx, HN.out], by go_num, rfl, by omega⟩, by simp only [intOf]; omega⟩
                · have he1 : (m == n) = false := by simpa using hmn
                  have HN : Hid (nx = false) := Lib.hid (by rw [hstep.out]; simpa using hmn)
                  clear hstep
                  go_upto_region 24 with (fail)
                  refine wp_region_wd z (by kernel_rfl) (by kernel_rfl) ?_
                  repeat (go_big_quiet_step (fail))
                  refine wpQuiet_nil ?_
                  rintro w'' ⟨y7, rfl⟩
                  go_wp2_with fail
                  exact ⟨⟨t + 1, y7, by rw [hNx, HN.out], by go_num, rfl, by omega⟩, by simp only [intOf]; omega⟩
              · have HN : Hid (nx = true) := Lib.hid (by rw [hstep.out]; simp)
                clear hstep
                go_upto_region 24 with (fail)
                refine wp_region_wd z (by kernel_rfl) (by kernel_rfl) ?_
                iterate 1 (go_big_quiet_step (fail))
                with_reducible refine dmove (.tmp 96) (.bool true) (by kernel_rfl) (by kernel_rfl) (by kernel_rfl) ?_
                dsimp only [Act.put]
                simp only [List.setIfInBounds_toArray, List.set_cons_succ, List.set_cons_zero]
                iterate 11 (with_reducible refine dskip (by kernel_rfl) ?_; dsimp only [Act.put]; simp only [List.setIfInBounds_toArray, List.set_cons_succ, List.set_cons_zero])
                repeat (go_big_quiet_step (fail))
                refine wpQuiet_nil ?_
                rintro w'' ⟨y7, rfl⟩
                go_wp2_with fail
                exact ⟨⟨t + 1, y7, by rw [hNx, HN.out], by go_num, rfl, by omega⟩, by simp only [intOf]; omega⟩
            · obtain rfl : t = j := by omega
              have hsn : seenN n (vl.take t) = true := by rw [List.take_of_length_le (by omega)]; exact hsee.out
              have htn : ¬ ((t : Int) < (t : Int)) := by omega
              rw [hsn]
              clear hvR2 hsee
              go_wp2_with fail
              exact ⟨⟨e + 1, z, by go_num, rfl, by omega⟩, by simp only [intOf]; omega⟩
        · obtain rfl : e = na := by omega
          have hen : ¬ ((e : Int) < (e : Int)) := by omega
          clear haR hall hvR2
          go_wp2_with fail
          go_ret
          exact ⟨rfl, Q.trans HQ2.out z.q⟩
theorem flat_le : ∀ l : List ByteArray, (∀ s ∈ l, s.size ≤ 1048576) → (l.flatMap textL).length ≤ l.length * 1048586
  | [], _ => by simp
  | a :: l, h => by
    have h1 := textL_length a
    have h2 := h a (List.mem_cons_self ..)
    have h3 := flat_le l fun s hs => h s (List.mem_cons_of_mem _ hs)
    rw [List.flatMap_cons, List.length_append, List.length_cons]
    omega
theorem list_le (l : List ByteArray) (h : ∀ s ∈ l, s.size ≤ 1048576) : (listL l).length ≤ 10 + l.length * 1048586 := by
  unfold listL
  have h1 := varint_length l.length
  have h2 := flat_le l h
  rw [List.length_append]
  omega
theorem fit_of (d : DecR) (hf : fewD d = true) (hn : NOk [d.server, d.number, d.kind, d.n, d.start, d.stop, d.e, d.s]) (ht : ∀ s ∈ d.to, s.size ≤ 1048576) : Fit d := by
  unfold fewD at hf
  simp only [Bool.and_eq_true, decide_eq_true_eq] at hf
  obtain ⟨h1, h2, h3⟩ := hf
  have h4 := list_le d.to ht
  have h5 : d.to.length * 1048586 ≤ 10 * 1048586 := Nat.mul_le_mul_right _ h1
  have hs := hn d.server (by simp)
  refine ⟨⟨fun h => (by cases (show (3 : Int) = 1 from h)), fun h => (by cases (show (3 : Int) = 2 from h)), fun _ _ => ⟨?_, ?_, ?_, fun n hm => ?_, ?_, ?_⟩⟩, h1, hs⟩
  · show d.actor.size ≤ 1000000; omega
  · show d.object.size ≤ 1000000; omega
  · show d.text.size ≤ 1000000; omega
  · have hm' : n ∈ [d.server, d.number, d.kind, d.n, d.start, d.stop] := hm
    refine (hn n ?_).2
    simp only [List.mem_cons, List.not_mem_nil, or_false] at hm' ⊢
    rcases hm' with h | h | h | h | h | h <;> simp [h]
  · show (listL d.to).length ≤ 100000000; omega
  · show d.to.length ≤ 1000000; omega
theorem num_call (A : Option Addr) (c : Nat) (l : List DecR) (s : Int) (w : World) (hT : Tab w) (hR : RowsAt w A 12 DecR.cells l) (hd : ∀ d ∈ l, (DecIn w d ∧ NOk [d.server, d.number, d.kind, d.n, d.start, d.stop, d.e, d.s]) ∧ d.actor.size ≤ 1048576 ∧ d.object.size ≤ 1048576 ∧ ∀ s ∈ d.to, s.size ≤ 1048576) (hs : I64 s) (hcm : c ≤ maxLen) (hlc : l.length ≤ c) :
    Calls Tryz.prog 5 #[.slice A l.length c, .int .i64 s] w fun e w' => e = .returned (.bool true) ∧ Q w w' :=
  num_any A c l s w hT hR (fun d h => ⟨by have := (hd d h).2.1; omega, by have := (hd d h).2.2.1; omega⟩) (fun d h => (hd d h).1.1) (fun d h hf => fit_of d hf (hd d h).1.2 (hd d h).2.2.2) hs (Nat.le_trans hlc hcm)
end Go.Proofs.YtflgkplneekpfaaGreatDoor.Dec

namespace Go.Proofs.YtflgkplneekpfaaGreatDoor.Mem
open Go.RowKit Go.ChangeShapes Go.WideShapes Go.Deep Grp _root_.Go.Proofs.YtflgkplneekpfaaGreatDoor.Code Sha Sign

theorem mem_weightsAll {H : Type} {P : Program} {e : TypeId} {n : Nat} : ∀ {l : List (DataW H)} {d : DataW H}, d ∈ l → n ∈ d.weights P e → n ∈ DataW.weightsAll P e l
  | a :: l, d, hd, hn => by
    simp only [DataW.weightsAll, List.mem_append]
    rcases List.mem_cons.1 hd with rfl | hd
    · exact .inl hn
    · exact .inr (mem_weightsAll hd hn)
section
variable {H : Type} {enc : TypeId × Value → H} {P : Program} {W : World} {base : Nat} {spare : Nat → Bool} {held : Bool}
/-- Whatever reads at type t, with weights in reach, is f of something good. -/
def OpensW {α : Type} (enc : TypeId × Value → H) (P : Program) (W : World) (base : Nat) (spare : Nat → Bool) (held : Bool) (t : TypeId) (f : α → List Value) (G : α → Prop) : Prop :=
  ∀ (fuel : Nat) (cs : List Value) (x : DataW H × List MemPlace), DataW.trod enc P W base spare held fuel t cs = some x → (∀ n ∈ x.1.weights P t, n ≤ reachBytes) → ∃ a, cs = f a ∧ G a
theorem Opens.wide {α : Type} {t : TypeId} {f : α → List Value} {G : α → Prop} (h : Opens enc P W base spare held t f G) : OpensW enc P W base spare held t f G := fun fuel cs x hx _ => h fuel cs x hx
theorem opensW_str {t : TypeId} (ht : P.underlying t = some .string) : OpensW enc P W base spare held t (fun s : ByteArray => [.string s]) fun s => s.size ≤ reachBytes := fun fuel cs x h hw => by
  obtain ⟨s, rfl, rfl, hs⟩ := DataW.trod_string ht h
  refine ⟨s, rfl, ?_⟩
  have := hw s.data.toList.length (by simp [DataW.weights])
  rwa [ba_length] at this
theorem opensW_slice {α : Type} [Inhabited α] {t e : TypeId} {k : Nat} {f : α → List Value} {G : α → Prop} (ht : P.underlying t = some (.slice e)) (hk : P.cellsOf e = k) (h0 : 0 < k) (hO : OpensW enc P W base spare held e f G) :
    OpensW enc P W base spare held t SliceR.cells (SliceR.Good W k f G) := fun fuel cs x h hw => by
  rcases DataW.trod_slice ht h with ⟨rfl, -⟩ | ⟨a, len, cap, elems, rest, n, -, rfl, hx, hb, hl, hm, hel, hx1, -, -⟩
  · exact ⟨⟨none, [], 0⟩, rfl, ⟨Nat.le_refl _, Nat.zero_le _, by simp, RowsAt.nil _ _ _ _⟩⟩
  have each : ∀ i, i < len → ∃ y : α, G y ∧ W.cells? base (a.add (i * k)) k = some (f y) := by
    intro i hi
    have h1 := hx1 i hi
    rw [hk, List.getElem?_eq_getElem (show i < elems.length by omega)] at h1
    obtain ⟨cs', h2, h3⟩ := Option.bind_eq_some_iff.1 h1
    obtain ⟨y, rfl, hy⟩ := hO _ _ _ h3 (fun m hm => hw m (by
      rw [hx]
      simp only [DataW.weights, ht, List.mem_cons, List.mem_append]
      exact .inr (.inl (mem_weightsAll (List.mem_map.2 ⟨_, List.getElem_mem _, rfl⟩) hm))))
    exact ⟨y, hy, h2⟩
  obtain ⟨g, hg⟩ := choose_lt each
  have hlen : ((List.range len).map g).length = len := by simp
  refine ⟨⟨some a, (List.range len).map g, cap⟩, by unfold SliceR.cells; rw [hlen], ⟨by rw [hlen]; exact hl, hm, fun y hy => ?_, fun h1 => ?_⟩⟩
  · obtain ⟨i, hi, rfl⟩ := List.mem_map.1 hy
    exact (hg i (List.mem_range.1 hi)).1
  · dsimp only at h1
    rw [hlen] at h1
    have hc := fun i hi => World.cells?_some (hg i hi).2
    obtain ⟨b, o, s⟩ := a
    have hs : s = none ∧ b < W.heap.size := by
      obtain ⟨_, hl0, hc0⟩ := hc 0 h1
      have h2 := hc0 0 h0
      rw [List.getElem?_eq_getElem (show 0 < (f (g 0)).length by omega)] at h2
      simp only [Nat.zero_mul, Addr.add] at h2
      unfold World.cell? at h2
      simp only [if_true] at h2
      split at h2
      · rename_i hh
        cases s with
        | none => exact ⟨rfl, (Array.getElem?_eq_some_iff.1 hh).1⟩
        | some x => simp at h2
      · cases h2
    obtain ⟨rfl, hbl⟩ := hs
    refine ⟨b, o, rfl, hbl, fun j hj i v hv => ?_⟩
    have hj' : j < len := by dsimp only at hj; rwa [hlen] at hj
    obtain ⟨_, hl1, hc1⟩ := hc j hj'
    dsimp only at hv
    rw [List.getElem_map, List.getElem_range] at hv
    have hik : i < k := by rw [← hl1]; exact (List.getElem?_eq_some_iff.1 hv).1
    have := hc1 i hik
    rw [hv, add_add, Addr.add_mid] at this
    rw [Nat.add_assoc]
    exact this
/-- A field of a struct, with its weights. -/
theorem fieldW_opens {α : Type} {n i off k : Nat} {xs : List (DataW H × List MemPlace)} {x : DataW H × List MemPlace} {cs : List Value} {t u : TypeId} {fs : Array Field} {F : Field} {ps : List MemPlace} {f : α → List Value} {G : α → Prop}
    (ht : P.underlying t = some (.struct fs)) (hx : x = (.agg (xs.map (·.1)), ps)) (hw : ∀ n ∈ x.1.weights P t, n ≤ reachBytes) (hF : fs[i]? = some F) (hu : F.type = u)
    (hf : DataW.trod enc P W base spare held n u ((cs.drop off).take (P.cellsOf u)) = xs[i]?) (hi : i < xs.length) (hk : P.cellsOf u = k) (hO : OpensW enc P W base spare held u f G) : ∃ a, (cs.drop off).take k = f a ∧ G a := by
  rw [hk, List.getElem?_eq_getElem hi] at hf
  refine hO _ _ _ hf fun m hm => hw m ?_
  rw [hx]
  simp only [DataW.weights, ht]
  refine DataW.weights_mem_each (j := i) (t := u) (d := xs[i].1) ?_ ?_ m hm
  · rw [List.getElem?_map, Array.getElem?_toList, hF, ← hu]
    rfl
  · rw [List.getElem?_map, List.getElem?_eq_getElem hi]
    rfl
end
end Go.Proofs.YtflgkplneekpfaaGreatDoor.Mem

namespace Go.Proofs.YtflgkplneekpfaaGreatDoor.Mem
open Go.RowKit Go.ChangeShapes Go.WideShapes Go.Deep Grp _root_.Go.Proofs.YtflgkplneekpfaaGreatDoor.Code Sha Sign

theorem bulk_part {H : Type} {d : DataW H} {l : List (DataW H)} (h : d ∈ l) : Rows.uptoBulk d ≤ Rows.uptoBulkAll l := by
  induction l with
  | nil => cases h
  | cons x r ih =>
    simp only [Rows.uptoBulkAll]
    cases List.mem_cons.1 h with
    | inl e => subst e; omega
    | inr e => have := ih e; omega
section
variable {H : Type} {enc : TypeId × Value → H} {P : Program} {W : World} {base : Nat} {spare : Nat → Bool} {held : Bool}
/-- Whatever reads at type t, of bulk within the bound, is f of something good. -/
def OpensB {α : Type} (enc : TypeId × Value → H) (P : Program) (W : World) (base : Nat) (spare : Nat → Bool) (held : Bool) (t : TypeId) (f : α → List Value) (G : α → Prop) : Prop :=
  ∀ (fuel : Nat) (cs : List Value) (x : DataW H × List MemPlace), DataW.trod enc P W base spare held fuel t cs = some x → Rows.uptoBulk x.1 ≤ 1048576 → ∃ a, cs = f a ∧ G a
theorem opensB_str {t : TypeId} (ht : P.underlying t = some .string) : OpensB enc P W base spare held t (fun s : ByteArray => [.string s]) fun s => s.size ≤ 1048576 := fun fuel cs x h hw => by
  obtain ⟨s, rfl, rfl, hs⟩ := DataW.trod_string ht h
  refine ⟨s, rfl, ?_⟩
  simp only [Rows.uptoBulk] at hw
  rw [ba_length] at hw
  omega
theorem opensB_slice {α : Type} [Inhabited α] {t e : TypeId} {k : Nat} {f : α → List Value} {G : α → Prop} (ht : P.underlying t = some (.slice e)) (hk : P.cellsOf e = k) (h0 : 0 < k) (hO : OpensB enc P W base spare held e f G) :
    OpensB enc P W base spare held t SliceR.cells (SliceR.Good W k f G) := fun fuel cs x h hw => by
  rcases DataW.trod_slice ht h with ⟨rfl, -⟩ | ⟨a, len, cap, elems, rest, n, -, rfl, hx, hb, hl, hm, hel, hx1, -, -⟩
  · exact ⟨⟨none, [], 0⟩, rfl, ⟨Nat.le_refl _, Nat.zero_le _, by simp, RowsAt.nil _ _ _ _⟩⟩
  have each : ∀ i, i < len → ∃ y : α, G y ∧ W.cells? base (a.add (i * k)) k = some (f y) := by
    intro i hi
    have h1 := hx1 i hi
    rw [hk, List.getElem?_eq_getElem (show i < elems.length by omega)] at h1
    obtain ⟨cs', h2, h3⟩ := Option.bind_eq_some_iff.1 h1
    obtain ⟨y, rfl, hy⟩ := hO _ _ _ h3 (by
      rw [hx] at hw
      simp only [Rows.uptoBulk] at hw
      have := bulk_part (List.mem_map.2 ⟨elems[i]'(by omega), List.getElem_mem _, rfl⟩ : elems[i].1 ∈ elems.map (·.1))
      omega)
    exact ⟨y, hy, h2⟩
  obtain ⟨g, hg⟩ := choose_lt each
  have hlen : ((List.range len).map g).length = len := by simp
  refine ⟨⟨some a, (List.range len).map g, cap⟩, by unfold SliceR.cells; rw [hlen], ⟨by rw [hlen]; exact hl, hm, fun y hy => ?_, fun h1 => ?_⟩⟩
  · obtain ⟨i, hi, rfl⟩ := List.mem_map.1 hy
    exact (hg i (List.mem_range.1 hi)).1
  · dsimp only at h1
    rw [hlen] at h1
    have hc := fun i hi => World.cells?_some (hg i hi).2
    obtain ⟨b, o, s⟩ := a
    have hs : s = none ∧ b < W.heap.size := by
      obtain ⟨_, hl0, hc0⟩ := hc 0 h1
      have h2 := hc0 0 h0
      rw [List.getElem?_eq_getElem (show 0 < (f (g 0)).length by omega)] at h2
      simp only [Nat.zero_mul, Addr.add] at h2
      unfold World.cell? at h2
      simp only [if_true] at h2
      split at h2
      · rename_i hh
        cases s with
        | none => exact ⟨rfl, (Array.getElem?_eq_some_iff.1 hh).1⟩
        | some x => simp at h2
      · cases h2
    obtain ⟨rfl, hbl⟩ := hs
    refine ⟨b, o, rfl, hbl, fun j hj i v hv => ?_⟩
    have hj' : j < len := by dsimp only at hj; rwa [hlen] at hj
    obtain ⟨_, hl1, hc1⟩ := hc j hj'
    dsimp only at hv
    rw [List.getElem_map, List.getElem_range] at hv
    have hik : i < k := by rw [← hl1]; exact (List.getElem?_eq_some_iff.1 hv).1
    have := hc1 i hik
    rw [hv, add_add, Addr.add_mid] at this
    rw [Nat.add_assoc]
    exact this
/-- A field of a struct, with its bulk. -/
theorem fieldB_opens {α : Type} {n i off k : Nat} {xs : List (DataW H × List MemPlace)} {x : DataW H × List MemPlace} {cs : List Value} {u : TypeId} {ps : List MemPlace} {f : α → List Value} {G : α → Prop}
    (hx : x = (.agg (xs.map (·.1)), ps)) (hw : Rows.uptoBulk x.1 ≤ 1048576)
    (hf : DataW.trod enc P W base spare held n u ((cs.drop off).take (P.cellsOf u)) = xs[i]?) (hi : i < xs.length) (hk : P.cellsOf u = k) (hO : OpensB enc P W base spare held u f G) : ∃ a, (cs.drop off).take k = f a ∧ G a := by
  rw [hk, List.getElem?_eq_getElem hi] at hf
  refine hO _ _ _ hf ?_
  rw [hx] at hw
  simp only [Rows.uptoBulk] at hw
  have := bulk_part (List.mem_map.2 ⟨xs[i], List.getElem_mem _, rfl⟩ : xs[i].1 ∈ xs.map (·.1))
  omega
end
end Go.Proofs.YtflgkplneekpfaaGreatDoor.Mem

namespace Go.Proofs.YtflgkplneekpfaaGreatDoor.Dec
open Go.RowKit Go.ChangeShapes Go.WideShapes Go.Deep Grp Mem _root_.Go.Proofs.YtflgkplneekpfaaGreatDoor.Code Sha Sign _root_.Go.Proofs.YtflgkplneekpfaaGreatDoor.Item _root_.Go.Proofs.YtflgkplneekpfaaGreatDoor.Known
section
variable {H : Type} {enc : TypeId × Value → H} {W : World} {base : Nat} {spare : Nat → Bool} {held : Bool}
theorem b_strs : OpensB enc Tryz.prog W base spare held 39 SliceR.cells (SliceR.Good W 1 (fun s : ByteArray => [.string s]) fun s => s.size ≤ 1048576) := opensB_slice Tryz.underlying39 k_str (by decide) (opensB_str Tryz.underlying9)
set_option maxRecDepth 100000 in
set_option maxHeartbeats 1000000 in
theorem b_dec : OpensB enc Tryz.prog W base spare held 48 DecR.cells (fun d => (DecIn W d ∧ NOk [d.server, d.number, d.kind, d.n, d.start, d.stop, d.e, d.s]) ∧ d.actor.size ≤ 1048576 ∧ d.object.size ≤ 1048576 ∧ ∀ s ∈ d.to, s.size ≤ 1048576) := fun fuel cs x h hw => by
  obtain ⟨xs, n, -, hx, hcl, hxl, hf⟩ := DataW.trod_struct Tryz.underlying48 h
  rw [k_dec] at hcl
  have hxl : xs.length = 11 := hxl
  obtain ⟨server, e0, g0⟩ := field_opens (off := 0) (show DataW.trod enc Tryz.prog W base spare held n 3 ((cs.drop 0).take (Tryz.prog.cellsOf 3)) = xs[0]? from hf 0 _ rfl) (by omega) k_int o_int
  obtain ⟨number, e1, g1⟩ := field_opens (off := 1) (show DataW.trod enc Tryz.prog W base spare held n 3 ((cs.drop 1).take (Tryz.prog.cellsOf 3)) = xs[1]? from hf 1 _ rfl) (by omega) k_int o_int
  obtain ⟨kind, e2, g2⟩ := field_opens (off := 2) (show DataW.trod enc Tryz.prog W base spare held n 3 ((cs.drop 2).take (Tryz.prog.cellsOf 3)) = xs[2]? from hf 2 _ rfl) (by omega) k_int o_int
  obtain ⟨actor, e3, g3⟩ := fieldB_opens (i := 3) (off := 3) hx hw (show DataW.trod enc Tryz.prog W base spare held n 9 ((cs.drop 3).take (Tryz.prog.cellsOf 9)) = xs[3]? from hf 3 _ rfl) (by omega) k_str (opensB_str Tryz.underlying9)
  obtain ⟨object, e4, g4⟩ := fieldB_opens (i := 4) (off := 4) hx hw (show DataW.trod enc Tryz.prog W base spare held n 9 ((cs.drop 4).take (Tryz.prog.cellsOf 9)) = xs[4]? from hf 4 _ rfl) (by omega) k_str (opensB_str Tryz.underlying9)
  obtain ⟨text, e5, g5⟩ := field_opens (off := 5) (show DataW.trod enc Tryz.prog W base spare held n 9 ((cs.drop 5).take (Tryz.prog.cellsOf 9)) = xs[5]? from hf 5 _ rfl) (by omega) k_str o_str
  obtain ⟨to, e6, g6⟩ := fieldB_opens (i := 6) (off := 6) hx hw (show DataW.trod enc Tryz.prog W base spare held n 39 ((cs.drop 6).take (Tryz.prog.cellsOf 39)) = xs[6]? from hf 6 _ rfl) (by omega) k_strs b_strs
  obtain ⟨n1, e7, g7⟩ := field_opens (off := 7) (show DataW.trod enc Tryz.prog W base spare held n 3 ((cs.drop 7).take (Tryz.prog.cellsOf 3)) = xs[7]? from hf 7 _ rfl) (by omega) k_int o_int
  obtain ⟨start, e8, g8⟩ := field_opens (off := 8) (show DataW.trod enc Tryz.prog W base spare held n 3 ((cs.drop 8).take (Tryz.prog.cellsOf 3)) = xs[8]? from hf 8 _ rfl) (by omega) k_int o_int
  obtain ⟨stop, e9, g9⟩ := field_opens (off := 9) (show DataW.trod enc Tryz.prog W base spare held n 3 ((cs.drop 9).take (Tryz.prog.cellsOf 3)) = xs[9]? from hf 9 _ rfl) (by omega) k_int o_int
  obtain ⟨sg, e10, g10⟩ := field_opens (off := 10) (show DataW.trod enc Tryz.prog W base spare held n 35 ((cs.drop 10).take (Tryz.prog.cellsOf 35)) = xs[10]? from hf 10 _ rfl) (by omega) k_sig o_sig
  have t11 : cs.drop 12 = [] := List.drop_eq_nil_of_le (by omega)
  have t10 := drop_step e10
  simp only [Nat.reduceAdd] at t10
  rw [t11] at t10
  have t9 := drop_step e9
  simp only [Nat.reduceAdd] at t9
  rw [t10] at t9
  have t8 := drop_step e8
  simp only [Nat.reduceAdd] at t8
  rw [t9] at t8
  have t7 := drop_step e7
  simp only [Nat.reduceAdd] at t7
  rw [t8] at t7
  have t6 := drop_step e6
  simp only [Nat.reduceAdd] at t6
  rw [t7] at t6
  have t5 := drop_step e5
  simp only [Nat.reduceAdd] at t5
  rw [t6] at t5
  have t4 := drop_step e4
  simp only [Nat.reduceAdd] at t4
  rw [t5] at t4
  have t3 := drop_step e3
  simp only [Nat.reduceAdd] at t3
  rw [t4] at t3
  have t2 := drop_step e2
  simp only [Nat.reduceAdd] at t2
  rw [t3] at t2
  have t1 := drop_step e1
  simp only [Nat.reduceAdd] at t1
  rw [t2] at t1
  have t0 := drop_step e0
  simp only [Nat.reduceAdd] at t0
  rw [t1] at t0
  rw [List.drop_zero] at t0
  refine ⟨⟨server, number, kind, actor, object, text, to.l, to.A, to.c, n1, start, stop, sg.1, sg.2⟩, by rw [t0]; rfl, ?_⟩
  refine ⟨⟨⟨strs_of g6.rows, g6.le, g6.cap⟩, ?_⟩, g3, g4, g6.all⟩
  have s1 := g10 sg.1 (by simp)
  have s2 := g10 sg.2 (by simp)
  simp only [NOk, List.mem_cons, List.not_mem_nil, or_false]
  rintro s (rfl | rfl | rfl | rfl | rfl | rfl | rfl | rfl) <;> assumption

instance : Inhabited DecR := ⟨dec0⟩
theorem b_decs : OpensB enc Tryz.prog W base spare held 58 SliceR.cells (SliceR.Good W 12 DecR.cells fun d => (DecIn W d ∧ NOk [d.server, d.number, d.kind, d.n, d.start, d.stop, d.e, d.s]) ∧ d.actor.size ≤ 1048576 ∧ d.object.size ≤ 1048576 ∧ ∀ s ∈ d.to, s.size ≤ 1048576) := opensB_slice Tryz.underlying58 k_dec (by decide) b_dec
set_option maxRecDepth 100000 in
theorem open_decs {r : Reach} {b0 : Nat} {v : Value} {ds : List (DataW H)} {d : DataW H} {p : List MemPlace} (hz : Rows.uptoBulkAll ds ≤ 1048576) (hd : d ∈ ds)
    (hval : Value.okWide Tryz.prog W r b0 58 v) (h : DataW.Trod enc Tryz.prog W base spare held 58 v d p) :
    ∃ (A : Option Addr) (c : Nat) (l : List DecR), v = .slice A l.length c ∧ l.length ≤ c ∧ c ≤ maxLen ∧ RowsAt W A 12 DecR.cells l ∧ ∀ d ∈ l, (DecIn W d ∧ NOk [d.server, d.number, d.kind, d.n, d.start, d.stop, d.e, d.s]) ∧ d.actor.size ≤ 1048576 ∧ d.object.size ≤ 1048576 ∧ ∀ s ∈ d.to, s.size ≤ 1048576 := by
  obtain ⟨A, n, c, rfl⟩ := okWide_slice Tryz.underlying58 hval
  obtain ⟨fuel, hf⟩ := h
  obtain ⟨s, hs, hg⟩ := b_decs fuel _ _ hf (Nat.le_trans (bulk_part hd) hz)
  simp [Value.cells, SliceR.cells] at hs
  obtain ⟨rfl, rfl, rfl⟩ := hs
  exact ⟨s.A, s.c, s.l, rfl, hg.le, hg.cap, hg.rows, hg.all⟩
end
end Go.Proofs.YtflgkplneekpfaaGreatDoor.Dec

namespace Go.Proofs.YtflgkplneekpfaaGreatDoor.Laid

theorem cell_int {P : Program} {W : World} {r : Reach} {base : Nat} {i : TypeId} {v : Value} (hi : P.underlying i = some (.int .i64)) (h : Cell.okWide P W r base i v) :
    ∃ a : Int, v = .int .i64 a ∧ -9223372036854775808 ≤ a ∧ a ≤ 9223372036854775807 := by
  simp only [Cell.okWide, hi] at h
  cases v with
  | int k n =>
    simp only [Cell.ok, hi] at h
    obtain ⟨rfl, h1, h2⟩ := h
    exact ⟨n, rfl, h1, h2⟩
  | _ => simp [Cell.ok, hi] at h
theorem open_pair {P : Program} {W : World} {r : Reach} {base : Nat} {v : Value} {t i : TypeId} {fs : Array Field} (hu : P.underlying t = some (.struct fs)) (hct : P.cellTypes P.depth t = some [i, i]) (hc : P.cellsOf t = 2) (hi : P.underlying i = some (.int .i64))
    (h : Value.okWide P W r base t v) : ∃ a b : Int, v = .agg #[.int .i64 a, .int .i64 b] ∧ (-9223372036854775808 ≤ a ∧ a ≤ 9223372036854775807) ∧ -9223372036854775808 ≤ b ∧ b ≤ 9223372036854775807 := by
  simp only [Value.okWide, hu] at h
  obtain ⟨cs, rfl, hsz, ts, hts, -, hcell⟩ := h
  rw [hct] at hts
  obtain rfl := Option.some.inj hts
  rw [hc] at hsz
  obtain ⟨l⟩ := cs
  match l, hsz with
  | [c0, c1], _ =>
    obtain ⟨u0, h0, k0⟩ := hcell 0 c0 rfl
    obtain ⟨u1, h1, k1⟩ := hcell 1 c1 rfl
    obtain rfl := Option.some.inj h0
    obtain rfl := Option.some.inj h1
    obtain ⟨a, rfl, ha⟩ := cell_int hi k0
    obtain ⟨b, rfl, hb⟩ := cell_int hi k1
    exact ⟨a, b, rfl, ha, hb⟩
theorem open_i64 {P : Program} {W : World} {r : Reach} {base : Nat} {i : TypeId} {v : Value} (hi : P.underlying i = some (.int .i64)) (h : Value.okWide P W r base i v) :
    ∃ a : Int, v = .int .i64 a ∧ -9223372036854775808 ≤ a ∧ a ≤ 9223372036854775807 := by
  simp only [Value.okWide, hi] at h
  exact cell_int hi h
end Go.Proofs.YtflgkplneekpfaaGreatDoor.Laid

namespace Go.Proofs.YtflgkplneekpfaaGreatDoor.Post
open Go.ChangeShapes Go.WideShapes Go.ChangeAt Go.RowKit

theorem trodAll_below {H : Type} {enc : TypeId × Value → H} {P : Program} (hl : laidOutB P = true) {W W' : World} (hb : Below W.heap.size W W') :
    ∀ {ts : List TypeId} {vs : List Value} {ds : List (DataW H)} {ps : List MemPlace}, ts.all (fun t => P.readableRec t && decide (t < P.types.size)) = true → (∀ x ∈ ps, x.block < W.heap.size) →
      DataW.TrodAll enc P W 0 (fun _ => true) true ts vs ds ps → DataW.TrodAll enc P W' 0 (fun b => decide (b < W.heap.size)) true ts vs ds ps := by
  intro ts
  induction ts with
  | nil =>
    intro vs ds ps _ _ h
    obtain ⟨rfl, rfl, rfl⟩ := trodAll_nil h
    exact trodAll_mk0
  | cons t ts ih =>
    intro vs ds ps hr hlt h
    obtain ⟨v, vs', d, ds', p, q, rfl, rfl, rfl, h1, h2⟩ := trodAll_cons h
    simp only [List.all_cons, Bool.and_eq_true, decide_eq_true_eq] at hr
    exact trodAll_cons_mk (Below.trod hl hr.1.1 hr.1.2 h1 hb (fun x hx => hlt x (List.mem_append_left _ hx))) (ih (by simpa using hr.2) (fun x hx => hlt x (List.mem_append_right _ hx)) h2)

theorem law_post {H : Type} {enc : TypeId × Value → H} {P : Program} {f : Func} {s : ChangeSpec} {apart : Bool} {W W' : World} {args : Array Value} {ds gs : List (DataW H)} {before : List MemPlace} {tb : TypeId}
    (hl : laidOutB P = true) (hts : f.params.toList.all (fun t => P.readableRec t && decide (t < P.types.size)) = true) (hvs : varsRowed P s.vars = true)
    (hrt : f.resultTypes.toList = [tb]) (hn : f.resultTypes.size = 1) (hub : P.underlying tb = some .bool)
    (hW : DataW.Whole enc P f.params.toList s.vars apart W args.toList ds gs before)
    (hr : (s.fn H (ds ++ gs)).results = [.lit (.bool true)]) (ha : (s.fn H (ds ++ gs)).args = ds) (hv : (s.fn H (ds ++ gs)).vars = gs)
    (hb : Below W.heap.size W W') :
    s.post enc P f apart true false false W args (.bool true) W' := by
  have hW' := hW
  have hlt := hW.lt
  obtain ⟨p, q, hA, hV, rfl, hfz, hnd⟩ := hW
  refine ⟨ds, gs, p ++ q, [], p, q, hW', ?_, ?_, ?_, hb.frame _, fun h => by cases h⟩
  · rw [hr, hrt, hn]
    exact trodAll_mk1 (shut_bool hub true)
  · rw [ha]
    exact trodAll_below hl hb hts (fun x hx => hlt x (List.mem_append_left _ hx)) hA
  · rw [hv]
    exact Below.trodVars hl hb hvs hV

end Go.Proofs.YtflgkplneekpfaaGreatDoor.Post

namespace Go.Proofs.YtflgkplneekpfaaGreatDoor.Laid
open Go.ChangeShapes Go.WideShapes Go.ChangeAt Go.RowKit

theorem own : ownKnob Tryz.prog.godebug = none := by kernel_rfl
theorem laidOut : laidOutB Tryz.prog = true := by kernel_rfl
theorem gCon : Tryz.prog.globalNamed "agora/sum.constants" = some 1 := by kernel_rfl
theorem gIni : Tryz.prog.globalNamed "agora/sum.initial" = some 0 := by kernel_rfl
theorem gConType : (Tryz.prog.globals[(1 : Nat)]?).map (·.type) = some 212 := by kernel_rfl
theorem gIniType : (Tryz.prog.globals[(0 : Nat)]?).map (·.type) = some 161 := by kernel_rfl
theorem cells64 : Tryz.prog.cellsOf 212 = 64 := by kernel_rfl
theorem cells8 : Tryz.prog.cellsOf 161 = 8 := by kernel_rfl
theorem cells1 : Tryz.prog.cellsOf 160 = 1 := by kernel_rfl

theorem laidMet_rest {P : Program} {W : World} {x : String × DataW Unit} {name : String} {k : IntKind} {zs : List Int} {g : Nat} {t e : TypeId} {n : Nat}
    (hg : P.globalNamed name = some g) (hty : (P.globals[g]?).map (·.type) = some t) (ht : P.underlying t = some (.array n e)) (he : P.underlying e = some (.int k)) (hce : P.cellsOf e = 1) (hct : P.cellsOf t = n)
    (h : laidMet P [x, (name, Lib.tabData k zs)] W) : Lib.TabIs P W name k zs := by
  obtain ⟨ps, ⟨g', t', cs, fuel, p, q, hg', ht', hvar, hd, ⟨g2, t2, cs2, fuel2, p2, q2, hg2, ht2, hvar2, hd2, _, _⟩, _⟩, _⟩ := h
  obtain rfl := Option.some.inj (hg.symm.trans hg2)
  obtain rfl := Option.some.inj (hty.symm.trans ht2)
  unfold Lib.TabIs
  rw [hvar2, ← Lib.cells_of_tab ht he hce hct hd2]

theorem block_of {P : Program} {W : World} {name : String} {cs : Array Value} {g : Nat} (hg : P.globalNamed name = some g) (h : W.var? P name = some cs) : ∃ t fr, W.heap[g]? = some (.cells cs t fr) := by
  simp only [World.var?, hg, Option.bind_some] at h
  split at h
  · rename_i cs' t fr hh
    obtain rfl := Option.some.inj h
    exact ⟨t, fr, hh⟩
  · cases h
theorem lt_of {W : World} {g : Nat} {o : Obj} (h : W.heap[g]? = some o) : g < W.heap.size := (Array.getElem?_eq_some_iff.mp h).1

theorem tab {W : World} (h : laidMetH Tryz.prog [("agora/sum.constants", Rows.laid_agora_sum_constants), ("agora/sum.initial", Rows.laid_agora_sum_initial)] W) : Sha.Tab W := by
  have hc : Lib.TabIs Tryz.prog W "agora/sum.constants" .u32 Sha.KL := Lib.tabIs_of_head (rest := [("agora/sum.initial", Rows.laid_agora_sum_initial)]) gCon gConType Tryz.underlying212 Tryz.underlying160 cells1 cells64 h
  have hi : Lib.TabIs Tryz.prog W "agora/sum.initial" .u32 Sha.HL := laidMet_rest (x := ("agora/sum.constants", Rows.laid_agora_sum_constants)) gIni gIniType Tryz.underlying161 Tryz.underlying160 cells1 cells8 h
  obtain ⟨t1, f1, h1⟩ := block_of gCon hc
  obtain ⟨t2, f2, h2⟩ := block_of gIni hi
  exact ⟨⟨t2, f2, h2⟩, fun i hi => hc.cell gCon i hi, lt_of h2, lt_of h1⟩

/- A world for the witness: the settled one, the tables holding what the text lays. -/
def put (cs : Array Value) : Obj → Obj
  | .cells _ t frozen => .cells cs t frozen
  | o => o
noncomputable def laidWorld (os : Os) (args : Array Value) : World :=
  { World.holding Tryz.prog os ⟨#[], args, []⟩ with heap := ((World.holding Tryz.prog os ⟨#[], args, []⟩).heap.modify 1 (put (Sha.KL.map fun z => Value.int .u32 z).toArray)).modify 0 (put (Sha.HL.map fun z => Value.int .u32 z).toArray) }
end Go.Proofs.YtflgkplneekpfaaGreatDoor.Laid

namespace Go.Proofs.YtflgkplneekpfaaGreatDoor.decideNumbers
open Go.ChangeShapes Go.WideShapes Go.ChangeAt Go.RowKit
open Go.ChangeMaps (open_string)

theorem open_sl {α : Type} {H : Type} {enc : TypeId × Value → H} {P : Program} {W : World} {r : Reach} {b0 base : Nat} {held : Bool} {t e : TypeId} {k : Nat} {f : α → List Value} {G : α → Prop} {v : Value} {d : DataW H} {p : List MemPlace}
    (ht : P.underlying t = some (.slice e)) (hO : Mem.Opens enc P W base (fun _ => true) held t Mem.SliceR.cells (Mem.SliceR.Good W k f G)) (hval : Value.okWide P W r b0 t v) (h : DataW.Trod enc P W base (fun _ => true) held t v d p) :
    ∃ (A : Option Addr) (c : Nat) (l : List α), v = .slice A l.length c ∧ l.length ≤ c ∧ c ≤ maxLen ∧ Mem.RowsAt W A k f l ∧ ∀ a ∈ l, G a := by
  obtain ⟨A, n, c, rfl⟩ := okWide_slice ht hval
  obtain ⟨fuel, hf⟩ := h
  obtain ⟨s, hs, hg⟩ := hO fuel _ _ hf
  simp [Value.cells, Mem.SliceR.cells] at hs
  obtain ⟨rfl, rfl, rfl⟩ := hs
  exact ⟨s.A, s.c, s.l, rfl, hg.le, hg.cap, hg.rows, hg.all⟩

theorem laid_met (os : Os) : laidMet Tryz.prog Rows.decideNumbersUptoRow.laid ((Laid.laidWorld os #[.slice none 0 0, .int .i64 0]).forCall (fun _ _ => 0) ⟨#[], #[.slice none 0 0, .int .i64 0], []⟩).memory :=
  laidMet_of_run' 8 (by kernel_rfl) (by kernel_rfl)
theorem reads (os : Os) {H : Type} (enc : TypeId × Value → H) : ∃ places, DataW.whole enc Tryz.prog ((Laid.laidWorld os #[.slice none 0 0, .int .i64 0]).forCall (fun _ _ => 0) ⟨#[], #[.slice none 0 0, .int .i64 0], []⟩).memory Tryz.f5.params.toList Rows.decideNumbersSpec.vars false #[Value.slice none 0 0, .int .i64 0].toList 8 = some ([.nil, .lit (.int .i64 0)], [], places) :=
  ⟨[], by kernel_rfl⟩

set_option maxRecDepth 100000 in
theorem contract (H : Type) (enc : TypeId × Value → H) (W : World) (base : Nat) (args : Array Value) (ds gs : List (DataW H)) (before : List MemPlace)
    (hval : ∀ (j : Nat) t v, Tryz.f5.params[j]? = some t → args[j]? = some v → Value.okWide Tryz.prog W .any base t v)
    (hW : DataW.Whole enc Tryz.prog Tryz.f5.params.toList Rows.decideNumbersSpec.vars false W args.toList ds gs before) (hz : Rows.uptoBulkAll (ds ++ gs) ≤ 1048576) (hL : laidMetH Tryz.prog Rows.decideNumbersUptoRow.laid W) :
    Calls Tryz.prog 5 args W fun e W' => ∃ v, e = .returned v ∧ Rows.decideNumbersSpec.post enc Tryz.prog Tryz.f5 false true false false W args v W' := by
  have hW' := hW
  obtain ⟨p, q, hA0, hV, rfl, hfz, hnd⟩ := hW
  have hA : DataW.TrodAll enc Tryz.prog W 0 (fun _ => true) true Tryz.f5.params.toList args.toList ds p := hA0
  rw [Tryz.params5] at hA hval
  obtain ⟨v0, vs0, d0, ds0, p0, q0, hargs, rfl, rfl, h0, r0⟩ := trodAll_cons hA
  obtain ⟨v1, vs1, d1, ds1, p1, q1, rfl, rfl, rfl, h1, r1⟩ := trodAll_cons r0
  obtain ⟨rfl, rfl, rfl⟩ := trodAll_nil r1
  obtain rfl : args = #[v0, v1] := by cases args; simp_all
  obtain ⟨rfl, rfl⟩ := trodVars_none hV
  obtain ⟨A0, c0, l0, rfl, lc0, cm0, S0, b0⟩ := Dec.open_decs (ds := _) hz (by simp) (hval 0 58 v0 rfl rfl) h0
  obtain ⟨a1, rfl, w1⟩ := Laid.open_i64 Tryz.underlying3 (hval 1 3 v1 rfl rfl)
  clear hA0 hz
  refine (Dec.num_call A0 c0 l0 a1 W (Laid.tab hL) S0 b0 w1 cm0 lc0).mono fun e W' ⟨he, hg⟩ => ?_
  subst he
  exact ⟨_, rfl, Post.law_post (tb := 4) Laid.laidOut (by kernel_rfl) (by kernel_rfl) (by kernel_rfl) (by kernel_rfl) Tryz.underlying4 hW' rfl rfl rfl hg⟩

set_option maxRecDepth 100000 in
theorem lifted (os : Os) (started : os.Started) (H : Type) (enc : TypeId × Value → H) (F : Stop.Interp) :
    ReturnsInHanded {} Tryz.checked os 5 .any ((Rows.OpenSpec.upto Rows.decideNumbersSpec).preRow enc Tryz.prog Tryz.f5 Rows.decideNumbersUptoRow.domain false Rows.decideNumbersUptoRow.laid) (((Rows.OpenSpec.upto Rows.decideNumbersSpec).at F).post enc Tryz.prog Tryz.f5 false true false false) := by
  obtain ⟨places, hx⟩ := reads os enc
  refine returnsInHanded_of_row (C := Tryz.checked) (s := Rows.OpenSpec.upto Rows.decideNumbersSpec) Laid.own started (by kernel_rfl) Tryz.func5
    (witness_row_at (enc := enc) (C := Tryz.checked) false (Laid.laidWorld os #[.slice none 0 0, .int .i64 0]) #[.slice none 0 0, .int .i64 0] rfl (by kernel_rfl) (by kernel_rfl) (by kernel_rfl)
      (OpenSpec.preRow_of_cond 8 hx (by kernel_rfl) (fun k hk => by cases hk; kernel_rfl) (by kernel_rfl) (laid_met os))) ?_
  intro W base args ds gs before hval hW _ hcond _ hL _ _
  have hz : Rows.uptoBulkAll (ds ++ gs) ≤ 1048576 := of_decide_eq_true (hcond _ rfl)
  exact contract H enc W base args ds gs before hval hW hz hL

theorem c10 : (Rows.decideNumbersUptoRow.inPlace == Tryz.prog.inPlace 5) = true := by kernel_rfl
theorem c11 : (Rows.decideNumbersUptoRow.unfollowed == Tryz.prog.unfollowed 5) = true := by kernel_rfl
theorem c12 : (Rows.decideNumbersUptoRow.recurses == Tryz.prog.recurses 5) = true := by kernel_rfl
theorem c13 : (Rows.decideNumbersUptoRow.named == Tryz.prog.varsNamed 5) = true := by kernel_rfl
theorem closed : joinedFacts Tryz.prog 5 Tryz.f5 (Rows.OpenSpec.upto Rows.decideNumbersSpec).bare Rows.decideNumbersUptoRow = true := by
  unfold joinedFacts
  rw [c10, c11, c12, c13]
  kernel_rfl
set_option maxRecDepth 100000 in
theorem said : Rows.DecideNumbersUptoSaid :=
  OpenClaim.holds_of_cond 5 Tryz.f5 rfl rfl rfl rfl rfl rfl rfl ⟨rfl, rfl, rfl, rfl, rfl⟩ rfl rfl rfl rfl rfl (by kernel_rfl) Tryz.func5 closed
    (of_decide_eq_true (by kernel_rfl)) (by unfold Func.isWrapper; first | (rw [if_pos (by decide +kernel)]; kernel_rfl) | (rw [if_neg (by decide +kernel)]; exact ⟨rfl, rfl⟩))
    (fun os started H enc _ F => by rw [OpenClaim.pre_eq_preRow]; exact lifted os started H enc F)

theorem plain (f : FuncId) (fn : Func) (hf : Tryz.pinned.checked.prog.funcNamed "agora/agoralaw35.DecideNumbers" = some f) (hfn : Tryz.pinned.checked.prog.funcs[f]? = some fn) :
    false = Tryz.pinned.checked.prog.looks [] ∧ ∀ (j : Nat) t, fn.params[j]? = some t → Tryz.pinned.checked.prog.wantsStandIn t = false := by
  obtain rfl : f = 5 := Option.some.inj ((show Tryz.prog.funcNamed "agora/agoralaw35.DecideNumbers" = some 5 by kernel_rfl).symm.trans hf) |>.symm
  obtain rfl : fn = Tryz.f5 := (Option.some.inj (Tryz.func5.symm.trans hfn)).symm
  refine ⟨by kernel_rfl, fun j t ht => ?_⟩
  rw [Tryz.params5] at ht
  have hm := Array.mem_of_getElem? ht
  have hall : (#[58, 3] : Array TypeId).all (fun t => !Tryz.prog.wantsStandIn t) = true := by kernel_rfl
  have hb := (Array.all_eq_true_iff_forall_mem.mp hall) t hm
  show Tryz.prog.wantsStandIn t = false
  simpa using hb

theorem proved : Rows.DecideNumbersUptoCardSaid :=
  Claim7.holds_tied_plain_at .later [] _ _ _ _ said (fun _ h => by cases h) (by kernel_rfl) (fun _ h => by cases h) decideNumbersUpto_row_tie rfl ⟨rfl, rfl⟩ (by kernel_rfl) rfl plain (by kernel_rfl)
#print axioms proved
end Go.Proofs.YtflgkplneekpfaaGreatDoor.decideNumbers
