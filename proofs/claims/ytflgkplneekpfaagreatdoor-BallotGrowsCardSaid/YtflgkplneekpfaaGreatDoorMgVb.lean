/-
  agoralaw18.cast.
  agoralaw18.valid.
  agoralaw18.made: the known set of a poll.
  The fixed example of agoralaw18 as plain data (printed by gen_votsmall.py). No walk in this text.
  Drawn regions, class in hand: what alone may come up, its run known.
  agoralaw18.small, walked.
  Plain laws about voters: overlap of two quorums, growing sets. No walk in this text.
-/
import Derived.Test.YtflgkplneekpfaaGreatDoorMgVa
import Derived.Test.YtflgkplneekpfaaGreatDoorBld2
set_option linter.unusedVariables false
set_option linter.unusedSimpArgs false
namespace Go.Proofs.YtflgkplneekpfaaGreatDoor.Vot
open Go.RowKit Grp Mem _root_.Go.Proofs.YtflgkplneekpfaaGreatDoor.Code Sha Sign _root_.Go.Proofs.YtflgkplneekpfaaGreatDoor.Item _root_.Go.Proofs.YtflgkplneekpfaaGreatDoor.Known Rng

/-- The ballot of a vote for a claim, signed. -/
def castB (seed : ByteArray) (s : Int) (c : ClaimV) : BallotV := signBallot (keyP seed s.toNat) ⟨s, c.actor, c.gen, digC c, 0, 0, 0⟩
def claimAt (l : List ClaimV) (n : Int) : ClaimV := l.getD n.toNat claim0
def castI (seed : ByteArray) (l : List ClaimV) (v : Int × Int) : ItemR := itBallot (castB seed v.1 (claimAt l v.2))
theorem digC_size (c : ClaimV) : (digC c).size ≤ 32 := by
  unfold digC digOf
  split
  · rw [sha_size]
    exact Nat.le_refl _
  · decide
theorem keyP_bd (seed : ByteArray) (s : Nat) : (keyP seed s).1 ≤ 9223372036854775807 ∧ (keyP seed s).2 ≤ 9223372036854775807 := by
  unfold keyP _root_.Go.Proofs.YtflgkplneekpfaaGreatDoor.Sign.keyOf
  split
  · decide
  · rename_i h
    have hx : seedKey (seedAt seed s) ≤ 2305843009213693949 := by omega
    have := gpub (seedKey (seedAt seed s)) (by omega)
    exact ⟨by dsimp only; omega, by dsimp only; omega⟩
theorem build_ballot4 (s : Int) (a : ByteArray) (g : Int) (d : ByteArray) (w : World) : (Instr.build 46 #[(0, .int .i64 s), (1, .string a), (2, .int .i64 g), (3, .string d)]).run Tryz.prog w = .ok (.agg (ballotA ⟨s, a, g, d, 0, 0, 0⟩)) w := by kernel_rfl

set_option maxRecDepth 100000 in
set_option maxHeartbeats 4000000 in
theorem cast_any (p : PollR) (v : Int × Int) (w : World) (hT : Tab w) (hP : PollIn w p) (h0 : 0 ≤ v.1) (h1 : v.1 < 256) (h2 : 0 ≤ v.2) (h3 : v.2 < p.claims.length) (hz : p.seed.size ≤ 1000) (hb : ∀ c ∈ p.claims, c.actor.size ≤ 140737488351232 ∧ c.gen ≤ 9223372036854775807) :
    Calls Tryz.prog 44 #[.agg (pollA p), .agg (voteC v).toArray] w fun e w' => e = .returned (.agg (itA (castI p.seed p.claims v))) ∧ Q w w' := by
  obtain ⟨s, n⟩ := v
  dsimp only at h0 h1 h2 h3
  obtain ⟨s, rfl⟩ := Int.eq_ofNat_of_zero_le h0
  obtain ⟨n, rfl⟩ := Int.eq_ofNat_of_zero_le h2
  have hnl : n < p.claims.length := by omega
  have hnI : (n : Int) < (p.claims.length : Int) := by omega
  have hsl : s < 256 := by omega
  have hbx := hb _ (List.getElem_mem hnl)
  have hca : claimAt p.claims (n : Int) = p.claims[n] := by
    unfold claimAt
    rw [show ((n : Int)).toNat = n from rfl, List.getD_eq_getElem?_getD, List.getElem?_eq_getElem hnl]
    rfl
  have b1 := Blk.new w 25 (pollA p)
  have q1 := q_new w (pollA p) 25
  have b2 := Blk.new' (g := w.heap.size + 1) (w.alloc (.cells (pollA p) 25)) 84 (voteC ((s : Int), (n : Int))).toArray (by simp)
  have q2 := q_new (w.alloc (.cells (pollA p) 25)) (voteC ((s : Int), (n : Int))).toArray 84
  have b3 := Blk.new' (g := w.heap.size + 1 + 1) ((w.alloc (.cells (pollA p) 25)).alloc (.cells (voteC ((s : Int), (n : Int))).toArray 84)) 50 (itA item0) (by simp)
  have q3 := q_new ((w.alloc (.cells (pollA p) 25)).alloc (.cells (voteC ((s : Int), (n : Int))).toArray 84)) (itA item0) 50
  have b1 := (b1.q q2).q q3
  have b2 := b2.q q3
  have hq := Q.trans (Q.trans q1 q2) q3
  obtain ⟨w3, hw3⟩ : ∃ w3, w3 = ((w.alloc (.cells (pollA p) 25)).alloc (.cells (voteC ((s : Int), (n : Int))).toArray 84)).alloc (.cells (itA item0) 50) := ⟨_, rfl⟩
  rw [← hw3] at b1 b2 b3 hq
  have hLp : ∀ y : Wd w3, (Instr.loadAt 25 (.pointer (some ⟨w.heap.size, 0, none⟩))).run Tryz.prog y.w = .ok (.agg (pollA p)) y.w := Wd.load b1.lt (Blk.range b1) Tryz.underlying25 rfl (by kernel_rfl)
  have c2 : ∀ y : Wd w3, y.w.cell? ⟨w.heap.size, 2, none⟩ = some (.slice p.clA p.claims.length p.clC) := fun y => (y.blk b1).cell 2
  have v0 : ∀ y : Wd w3, y.w.cell? ⟨w.heap.size + 1, 0, none⟩ = some (.int .i64 (s : Int)) := fun y => (y.blk b2).cell 0
  have v1 : ∀ y : Wd w3, y.w.cell? ⟨w.heap.size + 1, 1, none⟩ = some (.int .i64 (n : Int)) := fun y => (y.blk b2).cell 1
  have hBr : ∀ y : Wd w3, Blk y.w (w.heap.size + 1 + 1) 50 item0.cells.toArray := fun y => y.blk b3
  obtain ⟨b, o, eA, hb0, hcs⟩ := (hP.cl.q hq) (by omega)
  have hld : ∀ y : Wd w3, (Instr.loadAt 37 (.pointer (some ⟨b, o + n * 9, none⟩))).run Tryz.prog y.w = .ok (.agg (claimA p.claims[n])) y.w := Wd.load hb0 (hcs n hnl) Tryz.underlying37 rfl (by kernel_rfl)
  have hTy : ∀ y : Wd w3, Tab y.w := fun y => hT.q (Q.trans hq y.q)
  have hKe : ∀ y : Wd w3, Calls Tryz.prog 43 #[.agg (pollA p), .int .i64 (s : Int)] y.w fun e w' => e = .returned (keyV (keyP p.seed s)) ∧ Q y.w w' := fun y => keyOf_any p s y.w (hTy y) hsl hz
  have HC := Lib.hid (show castI p.seed p.claims ((s : Int), (n : Int)) = itBallot (signBallot (keyP p.seed s) ⟨(s : Int), p.claims[n].actor, p.claims[n].gen, digC p.claims[n], 0, 0, 0⟩) by unfold castI castB; dsimp only; rw [hca]; rfl)
  have hkb : (keyP p.seed s).1 ≤ 9223372036854775807 ∧ (keyP p.seed s).2 ≤ 9223372036854775807 := keyP_bd _ _
  have HQ := Lib.hid hq
  obtain ⟨u, hu⟩ : ∃ u : Wd w3, u.w = w3 := ⟨⟨w3, Q.refl _⟩, rfl⟩
  have HX := Lib.hid (hu.trans hw3)
  have hlt3 := b3.lt
  rw [eA] at c2
  clear hu hw3 b1 b2 b3 q1 q2 q3 hq hca hcs eA hb
  generalize p.claims[n] = c at *
  generalize castI p.seed p.claims ((s : Int), (n : Int)) = IT at *
  generalize keyP p.seed s = kp at *
  have hBB : BigB ⟨(s : Int), c.actor, c.gen, digC c, 0, 0, 0⟩ := ⟨hbx.1, by have := digC_size c; dsimp only; omega, by intro m hm; simp at hm; rcases hm with rfl | rfl | rfl <;> omega⟩
  generalize p.claims.length = cl at *
  generalize hd : digC c = d at *
  go_enter Tryz.func44, Tryz.ntmps44
  go_upto_region 1 with (fail)
  refine (show Code.wp _ _ _ _ u.w → Code.wp _ _ _ _ _ from fun h => by rw [HX.out] at h; exact h) ?_
  go_wp2_with (first | (refine wpList_load_run 37 (.tmp 10) (.pointer (some ⟨b, o + n * 9, none⟩)) (.agg (claimA c)) ?_ ?_ ?_ ?_ ?_; rfl; rfl; rfl; exact hld _) | (refine wpList_store_blk (Blk.new u.w 37 claim0.cells.toArray) rfl 37 (.tmp 5) (.tmp 11) c.cells rfl rfl rfl (by kernel_rfl) (claim_all _) (Nat.le_refl 9) ?_))
  intro W hW hbel
  rw [splice_all _ _ (by rfl)] at hW
  have hqz : Q u.w W := hbel _ _ (Nat.le_refl _) (q_new _ _ _)
  have hq3 : Q w3 W := Q.trans u.q hqz
  have hgc : u.w.heap.size < W.heap.size := hW.lt
  have hLc : ∀ y : Wd W, (Instr.loadAt 37 (.pointer (some ⟨u.w.heap.size, 0, none⟩))).run Tryz.prog y.w = .ok (.agg (claimA c)) y.w := Wd.load hW.lt (Blk.range hW) Tryz.underlying37 rfl (by kernel_rfl)
  have hc0 : ∀ y : Wd W, y.w.cell? ⟨u.w.heap.size, 0, none⟩ = some (.string c.actor) := fun y => (y.blk hW).cell 0
  have hc3 : ∀ y : Wd W, y.w.cell? ⟨u.w.heap.size, 3, none⟩ = some (.int .i64 c.gen) := fun y => (y.blk hW).cell 3
  have hv0 : ∀ y : Wd W, y.w.cell? ⟨w.heap.size + 1, 0, none⟩ = some (.int .i64 (s : Int)) := fun y => v0 ⟨y.w, Q.trans hq3 y.q⟩
  have hLp' : ∀ y : Wd W, (Instr.loadAt 25 (.pointer (some ⟨w.heap.size, 0, none⟩))).run Tryz.prog y.w = .ok (.agg (pollA p)) y.w := fun y => hLp ⟨y.w, Q.trans hq3 y.q⟩
  have hBr' : ∀ y : Wd W, Blk y.w (w.heap.size + 1 + 1) 50 item0.cells.toArray := fun y => hBr ⟨y.w, Q.trans hq3 y.q⟩
  have hKe' : ∀ y : Wd W, Calls Tryz.prog 43 #[.agg (pollA p), .int .i64 (s : Int)] y.w fun e w' => e = .returned (keyV kp) ∧ Q y.w w' := fun y => hKe ⟨y.w, Q.trans hq3 y.q⟩
  have hT' : ∀ y : Wd W, Tab y.w := fun y => hTy ⟨y.w, Q.trans hq3 y.q⟩
  have hdg : ∀ y : Wd W, Calls Tryz.prog 15 #[.agg (claimA c)] y.w fun e w' => e = .returned (.string d) ∧ Q y.w w' := fun y => hd ▸ digestC_any c y.w (hT' y)
  have HQ3 := Lib.hid hq3
  obtain ⟨x, hx⟩ := Wd.first W
  rw [hx]
  clear hbel hx hW hq3 hqz hLp v0 v1 c2 hld hBr hKe hTy hd
  generalize u.w.heap.size = gc at *
  go_upto_region 2 with (fail)
  refine wp_region_wd_parts x 0 15 (by kernel_rfl) (by kernel_rfl) (by intro c d v a w h; cases d <;> exact h) ?_
  simp only [List.take_succ_cons, List.take_zero, List.drop_succ_cons, List.drop_zero]
  refine wpPure_nil ?_
  repeat (first | (refine wpQuiet_load_run 25 (.tmp 2) (.pointer (some ⟨w.heap.size, 0, none⟩)) (.agg (pollA p)) ?_ ?_ ?_ ?_ ?_; rfl; rfl; rfl; exact hLp'; dsimp only [Act.put]; simp only [List.setIfInBounds_toArray, List.set_cons_succ, List.set_cons_zero]) | (refine wpQuiet_load_run 37 (.tmp 5) (.pointer (some ⟨gc, 0, none⟩)) (.agg (claimA c)) ?_ ?_ ?_ ?_ ?_; rfl; rfl; rfl; exact hLc; dsimp only [Act.put]; simp only [List.setIfInBounds_toArray, List.set_cons_succ, List.set_cons_zero]) | (refine wpQuiet_build_run 46 _ #[(0, .int .i64 (s : Int)), (1, .string c.actor), (2, .int .i64 c.gen), (3, .string d)] _ rfl rfl (by simp only [List.map_toArray, List.map_cons, List.map_nil]; rfl) (build_ballot4 (s : Int) c.actor c.gen d) ?_; dsimp only [Act.put]; simp only [List.setIfInBounds_toArray, List.set_cons_succ, List.set_cons_zero]) | go_big_quiet_step (first | (go_at_call 43; exact Wd.call _ (hKe' _)) | (go_at_call 15; exact Wd.call _ (hdg _)) | (go_at_call 87; exact Wd.call _ (signBallot_big kp _ _ (hT' _) hkb.1 hkb.2 hBB)) | (go_at_call 86; exact Wd.call _ (ofBallot_any _ _))))
  refine wpQuiet_nil ?_
  rintro w'' ⟨y, rfl⟩
  rw [← HC.out]
  go_wp2_with (refine wpList_store_far (hBr' y) rfl 50 (.tmp 4) (.tmp 26) IT.cells rfl rfl rfl (by kernel_rfl) (it_all _) (Nat.le_refl 49) ?_)
  intro W2 hW2 hbel2 hfar2
  rw [splice_all _ _ (by rfl)] at hW2
  have hz := HQ3.out.size
  have hqW : Q w W2 := hbel2 _ _ (by omega) (Q.trans (Q.trans HQ.out HQ3.out) y.q)
  clear hbel2 hfar2
  go_wp2_with fail
  exact bodyPost_ret (results_cell_row rfl _ _ (w.heap.size + 1 + 1) 50 (itA IT) (0, 0) _ rfl hW2 Tryz.underlying50 rfl (by kernel_rfl)) rfl ⟨rfl, hqW⟩
end Go.Proofs.YtflgkplneekpfaaGreatDoor.Vot

namespace Go.Proofs.YtflgkplneekpfaaGreatDoor.Vot
open Go.RowKit Grp Mem _root_.Go.Proofs.YtflgkplneekpfaaGreatDoor.Code Sha Sign _root_.Go.Proofs.YtflgkplneekpfaaGreatDoor.Item _root_.Go.Proofs.YtflgkplneekpfaaGreatDoor.Known Rng

def voteOk (m : Int) (n : Nat) (v : Int × Int) : Prop := 0 ≤ v.1 ∧ v.1 < m ∧ 0 ≤ v.2 ∧ v.2 < n
def VotesOk (m : Int) (n : Nat) (l : List (Int × Int)) : Prop := ∀ v ∈ l, voteOk m n v
structure Valid (p : PollR) : Prop where
  m1 : 1 ≤ p.many
  m7 : p.many ≤ 7
  c5 : p.claims.length ≤ 5
  v24 : p.votes.length ≤ 24
  s100 : p.seed.size ≤ 100
  ok : VotesOk p.many p.claims.length p.votes

/-- What valid hands back. -/
def ValidIs (p : PollR) (w : World) (e : Ending) (w' : World) : Prop := ((e = .returned (.bool true) ∧ Valid p) ∨ (e = .returned (.bool false) ∧ ¬ Valid p)) ∧ Q w w'
theorem vote_all (v : Int × Int) : (voteC v).toArray.all (·.oneCell') = true := by simp [voteC, Value.oneCell']

set_option maxRecDepth 100000 in
set_option maxHeartbeats 4000000 in
theorem valid_any (p : PollR) (w : World) (hP : PollIn w p) :
    Calls Tryz.prog 9 #[.agg (pollA p)] w (ValidIs p w) := by
  have b1 := Blk.new w 25 (pollA p)
  have hq := q_new w (pollA p) 25
  obtain ⟨w3, hw3⟩ : ∃ w3, w3 = w.alloc (.cells (pollA p) 25) := ⟨_, rfl⟩
  rw [← hw3] at b1 hq
  have c0 : ∀ y : Wd w3, y.w.cell? ⟨w.heap.size, 0, none⟩ = some (.string p.seed) := fun y => (y.blk b1).cell 0
  have c1 : ∀ y : Wd w3, y.w.cell? ⟨w.heap.size, 1, none⟩ = some (.int .i64 p.many) := fun y => (y.blk b1).cell 1
  have c2 : ∀ y : Wd w3, y.w.cell? ⟨w.heap.size, 2, none⟩ = some (.slice p.clA p.claims.length p.clC) := fun y => (y.blk b1).cell 2
  have c3 : ∀ y : Wd w3, y.w.cell? ⟨w.heap.size, 3, none⟩ = some (.slice p.vA p.votes.length p.vC) := fun y => (y.blk b1).cell 3
  have hVo : ∀ y : Wd w3, RowsAt y.w p.vA 2 voteC p.votes := fun y => hP.vo.q (Q.trans hq y.q)
  have HQ := Lib.hid hq
  obtain ⟨u, hu⟩ : ∃ u : Wd w3, u.w = w3 := ⟨⟨w3, Q.refl _⟩, rfl⟩
  have HX := Lib.hid (hu.trans hw3)
  clear hu hw3 b1 hq hP
  have HNO : Hid (¬ Valid p → ∀ w', Q w3 w' → ValidIs p w (.returned (.bool false)) w') := Lib.hid fun hn w' h => ⟨.inr ⟨rfl, hn⟩, Q.trans HQ.out h⟩
  have hways : p.many < 1 ∨ (¬ p.many < 1 ∧ p.many > 7) ∨ (¬ p.many < 1 ∧ ¬ p.many > 7 ∧ (p.claims.length : Int) > 5) ∨ (¬ p.many < 1 ∧ ¬ p.many > 7 ∧ ¬ (p.claims.length : Int) > 5 ∧ (p.votes.length : Int) > 24) ∨ (¬ p.many < 1 ∧ ¬ p.many > 7 ∧ ¬ (p.claims.length : Int) > 5 ∧ ¬ (p.votes.length : Int) > 24 ∧ (p.seed.size : Int) > 100) ∨ (¬ p.many < 1 ∧ ¬ p.many > 7 ∧ ¬ (p.claims.length : Int) > 5 ∧ ¬ (p.votes.length : Int) > 24 ∧ ¬ (p.seed.size : Int) > 100) := by omega
  rcases hways with h | ⟨h1, h⟩ | ⟨h1, h2, h⟩ | ⟨h1, h2, h3, h⟩ | ⟨h1, h2, h3, h4, h⟩ | ⟨h1, h2, h3, h4, h5⟩
  rotate_left 5
  · have HV := Lib.hid (fun ok => Valid.mk (p := p) (by omega) (by omega) (by omega) (by omega) (by omega) ok)
    have hm7 : p.many ≤ 7 ∧ 1 ≤ p.many := by omega
    have hl24 : p.votes.length ≤ 24 := by omega
    have hl5 : p.claims.length ≤ 5 := by omega
    go_enter Tryz.func9, Tryz.ntmps9
    go_upto_region 1 with (fail)
    refine (show Code.wp _ _ _ _ u.w → Code.wp _ _ _ _ _ from fun h => by rw [HX.out] at h; exact h) ?_
    go_wp2_with fail
    clear h1 h2 h3 h4 h5 c0
    go_loopw [3] (fun i wr => ∃ (j : Nat) (z : Wd w3), i = .int .i64 j ∧ wr = z.w ∧ j ≤ p.votes.length ∧ Hid (VotesOk p.many p.claims.length (p.votes.take j))) (fun i _ => p.votes.length - (intOf i).toNat)
    case atStart => exact ⟨0, u, rfl, rfl, Nat.zero_le _, Lib.hid (by intro v hv; simp at hv)⟩
    case round =>
      obtain ⟨j, z, rfl, rfl, hj, hok⟩ := hrel
      by_cases hlt : j < p.votes.length
      · obtain ⟨b, o, eA, hb, hcs⟩ := hVo z (by omega)
        have hld : ∀ y : Wd z.w, (Instr.loadAt 84 (.pointer (some ⟨b, o + j * 2, none⟩))).run Tryz.prog y.w = .ok (.agg (voteC p.votes[j]).toArray) y.w := Wd.load hb (hcs j hlt) Tryz.underlying84 rfl (by kernel_rfl)
        have HS := Lib.hid (fun (h : voteOk p.many p.claims.length p.votes[j]) => (show VotesOk p.many p.claims.length (p.votes.take (j + 1)) from fun v hv => by
          rw [List.take_succ_eq_append_getElem hlt, List.mem_append, List.mem_singleton] at hv
          rcases hv with hv | rfl
          · exact hok.out v hv
          · exact h))
        have hzs := z.q.size
        have HME := Lib.hid (List.getElem_mem hlt)
        have c3' : z.w.cell? ⟨w.heap.size, 3, none⟩ = some (.slice (some ⟨b, o, none⟩) p.votes.length p.vC) := eA ▸ c3 z
        rw [eA]
        have c1z := c1 z
        have c2z := c2 z
        clear hcs hok c3 eA
        generalize p.votes[j] = v at *
        generalize p.votes.length = nv at *
        generalize hcl : p.claims.length = ncl at *
        obtain ⟨s, n⟩ := v
        have hlI : (j : Int) < (nv : Int) := by omega
        have hjI : (0 : Int) ≤ (j : Int) := by omega
        go_wp2_with (first | (refine wpList_load_run 84 (.tmp 41) (.pointer (some ⟨b, o + j * 2, none⟩)) (.agg (voteC (s, n)).toArray) ?_ ?_ ?_ ?_ ?_; rfl; rfl; rfl; exact hld ⟨_, Q.refl _⟩) | (refine wpList_store_blk (Blk.new z.w 84 (voteC (0, 0)).toArray) rfl 84 (.tmp 4) (.tmp 42) (voteC (s, n)) rfl rfl rfl (by kernel_rfl) (vote_all _) (Nat.le_refl 2) ?_))
        intro W hW hbel
        rw [splice_all _ _ (by rfl)] at hW
        have hqz : Q z.w W := hbel _ _ (Nat.le_refl _) (q_new _ _ _)
        have hq3 : Q w3 W := Q.trans z.q hqz
        have v0 : W.cell? ⟨z.w.heap.size, 0, none⟩ = some (.int .i64 s) := hW.cell 0
        have v1 : W.cell? ⟨z.w.heap.size, 1, none⟩ = some (.int .i64 n) := hW.cell 1
        have d1 := c1 ⟨W, hq3⟩
        have d2 := c2 ⟨W, hq3⟩
        dsimp only at d1 d2
        have HQ3 := Lib.hid hq3
        have HVN : Hid (¬ voteOk p.many ncl (s, n) → ¬ Valid p) := Lib.hid fun hn hv => hn (by have := hv.ok _ HME.out; rwa [hcl] at this)
        clear hW hbel hqz hq3 c1 c2 c1z c2z c3' hld hVo HV hcl HME
        generalize z.w.heap.size = gz at *
        have hways : s < 0 ∨ (¬ s < 0 ∧ s ≥ p.many) ∨ (¬ s < 0 ∧ ¬ s ≥ p.many ∧ n < 0) ∨ (¬ s < 0 ∧ ¬ s ≥ p.many ∧ ¬ n < 0 ∧ n ≥ (ncl : Int)) ∨ (¬ s < 0 ∧ ¬ s ≥ p.many ∧ ¬ n < 0 ∧ ¬ n ≥ (ncl : Int)) := by omega
        rcases hways with h | ⟨h1, h⟩ | ⟨h1, h2, h⟩ | ⟨h1, h2, h3, h⟩ | ⟨h1, h2, h3, h4⟩
        rotate_left 4
        · have HO := Lib.hid (HS.out ⟨by dsimp only; omega, by dsimp only; omega, by dsimp only; omega, by dsimp only; omega⟩)
          go_wp2_with fail
          exact ⟨⟨j + 1, ⟨W, HQ3.out⟩, by go_num, rfl, by omega, HO⟩, by simp only [intOf]; omega⟩
        all_goals
          clear HS
          have HNV := Lib.hid (HVN.out (fun hn => by unfold voteOk at hn; dsimp only at hn; omega))
          go_wp2_with fail
          go_ret
          exact HNO.out HNV.out _ HQ3.out
      · have hjn : j = p.votes.length := by omega
        have hall : p.votes.take j = p.votes := List.take_of_length_le (by omega)
        have HV2 := Lib.hid (HV.out (by rw [← hall]; exact hok.out))
        clear hok hall hVo
        have hlI : ¬ ((j : Int) < (p.votes.length : Int)) := by omega
        go_wp2_with fail
        go_ret
        exact ⟨.inl ⟨rfl, HV2.out⟩, Q.trans HQ.out z.q⟩
  all_goals
    have HNV := Lib.hid (show ¬ Valid p from fun hv => by have h1 := hv.m1; have h2 := hv.m7; have h3 := hv.c5; have h4 := hv.v24; have h5 := hv.s100; omega)
    go_enter Tryz.func9, Tryz.ntmps9
    go_upto_region 1 with (fail)
    refine (show Code.wp _ _ _ _ u.w → Code.wp _ _ _ _ _ from fun h => by rw [HX.out] at h; exact h) ?_
    go_wp2_with fail
    go_ret
    exact HNO.out HNV.out _ u.q
theorem valid_yes (p : PollR) (w : World) (hP : PollIn w p) (hv : Valid p) : Calls Tryz.prog 9 #[.agg (pollA p)] w fun e w' => e = .returned (.bool true) ∧ Q w w' :=
  (valid_any p w hP).mono fun e w' ⟨h1, h2⟩ => ⟨h1.elim (fun h => h.1) (fun h => absurd hv h.2), h2⟩
theorem valid_no (p : PollR) (w : World) (hP : PollIn w p) (hv : ¬ Valid p) : Calls Tryz.prog 9 #[.agg (pollA p)] w fun e w' => e = .returned (.bool false) ∧ Q w w' :=
  (valid_any p w hP).mono fun e w' ⟨h1, h2⟩ => ⟨h1.elim (fun h => absurd h.2 hv) (fun h => h.1), h2⟩
end Go.Proofs.YtflgkplneekpfaaGreatDoor.Vot

namespace Go.Proofs.YtflgkplneekpfaaGreatDoor.Vot
open Go.RowKit Grp Mem _root_.Go.Proofs.YtflgkplneekpfaaGreatDoor.Code Sha Sign _root_.Go.Proofs.YtflgkplneekpfaaGreatDoor.Item _root_.Go.Proofs.YtflgkplneekpfaaGreatDoor.Known Rng

/-- The public keys of the first m servers. -/
def pubs (seed : ByteArray) (m : Nat) : List Int := (List.range m).map fun i => (keyP seed i).2
theorem pubs_succ (seed : ByteArray) (m : Nat) : pubs seed (m + 1) = pubs seed m ++ [(keyP seed m).2] := by simp [pubs, List.range_succ]
theorem pubs_len (seed : ByteArray) (m : Nat) : (pubs seed m).length = m := by simp [pubs]
def claimIs (l : List ClaimV) : List ItemR := l.map itClaim
def castIs (seed : ByteArray) (l : List ClaimV) (v : List (Int × Int)) : List ItemR := v.map (castI seed l)
/-- The set after some claims, and after all claims and some votes. -/
def setC (p : PollR) (j : Nat) : List ItemR := fillK (pubs p.seed p.many.toNat) [] (claimIs (p.claims.take j))
def setV (p : PollR) (j : Nat) : List ItemR := fillK (pubs p.seed p.many.toNat) (setC p p.claims.length) (castIs p.seed p.claims (p.votes.take j))
theorem setC_succ (p : PollR) (j : Nat) (h : j < p.claims.length) : setC p (j + 1) = addK (pubs p.seed p.many.toNat) (setC p j) (itClaim p.claims[j]) := by
  unfold setC claimIs
  rw [List.take_succ_eq_append_getElem h, List.map_append, List.map_cons, List.map_nil, fillK_snoc]
theorem setV_succ (p : PollR) (j : Nat) (h : j < p.votes.length) : setV p (j + 1) = addK (pubs p.seed p.many.toNat) (setV p j) (castI p.seed p.claims p.votes[j]) := by
  unfold setV castIs
  rw [List.take_succ_eq_append_getElem h, List.map_append, List.map_cons, List.map_nil, fillK_snoc]
theorem setV_zero (p : PollR) : setV p 0 = setC p p.claims.length := rfl
theorem setC_len (p : PollR) (j : Nat) : (setC p j).length ≤ p.claims.length := by
  unfold setC claimIs
  have := fillK_length (pubs p.seed p.many.toNat) ((p.claims.take j).map itClaim) []
  rw [List.length_map, List.length_take, List.length_nil] at this
  omega
theorem setV_len (p : PollR) (j : Nat) : (setV p j).length ≤ p.claims.length + p.votes.length := by
  unfold setV castIs
  have := fillK_length (pubs p.seed p.many.toNat) ((p.votes.take j).map (castI p.seed p.claims)) (setC p p.claims.length)
  rw [List.length_map, List.length_take] at this
  have := setC_len p p.claims.length
  omega

/-- The set so far lies in its block. -/
structure MSt (W2 : World) (gk : Nat) (sv : List Int) (l : List ItemR) (wr : World) (k : KR) : Prop where
  q : Below gk W2 wr
  blk : Blk wr gk 31 k.cells.toArray
  inn : KIn wr k
  hsv : k.sv = sv
  hl : k.l = l
theorem known_only {w : World} {g : Nat} {k : KR} (h : Blk w g 31 k.cells.toArray) : ∀ o' v, w.cell? ⟨g, o', none⟩ = some v → ∃ A n c, v = .slice A n c := by
  intro o' v hv
  rw [h.cell] at hv
  rcases o' with _ | _ | n
  · exact ⟨_, _, _, (Option.some.inj hv).symm⟩
  · exact ⟨_, _, _, (Option.some.inj hv).symm⟩
  · simp [KR.cells] at hv
theorem MSt.step {W2 : World} {gk : Nat} {sv : List Int} {l l' : List ItemR} {wr w2 : World} {k k' : KR} (h : MSt W2 gk sv l wr k) (hq : Q wr w2) (hk : KIn w2 k') (hsv : k'.sv = sv) (hl : k'.l = l') : MSt W2 gk sv l' (w2.setCells gk 0 k'.cells) k' := by
  have hb2 := h.blk.q hq
  have hgk := h.blk.lt
  have hbel : Below gk W2 w2 := h.q.trans (hq.mono (Nat.le_of_lt hgk))
  have hsc : Blk (w2.setCells gk 0 k'.cells) gk 31 k'.cells.toArray := by
    have := Blk.setCells k'.cells 0 _ w2 hb2 (Nat.le_refl 2)
    rwa [splice_all _ _ (by rfl)] at this
  have hfar := fun b (hne : b ≠ gk) => setCells_far (g := gk) hne k'.cells 0 w2
  have hside : _root_.Go.Proofs.YtflgkplneekpfaaGreatDoor.Known.Aside w2 (w2.setCells gk 0 k'.cells) gk := ⟨known_only hb2, hfar, (below_setCells (Nat.le_refl _) k'.cells 0 w2 w2 (Below.refl gk w2)).size⟩
  exact ⟨below_setCells (Nat.le_refl _) k'.cells 0 W2 w2 hbel, hsc, hside.known hk, hsv, hl⟩

theorem key_field (k : Int × Int) (w : World) : (Instr.field 86 (keyV k) 1).run Tryz.prog w = .ok (.int .i64 k.2) w := by kernel_rfl

set_option maxRecDepth 100000 in
set_option maxHeartbeats 4000000 in
theorem made_any (p : PollR) (n : Int) (w : World) (hT : Tab w) (hP : PollIn w p) (hv : Valid p) (hn0 : 0 ≤ n) (hn : n ≤ 9223372036854775807) (hb : ∀ c ∈ p.claims, c.actor.size ≤ 140737488351232 ∧ c.gen ≤ 9223372036854775807) :
    Calls Tryz.prog 10 #[.agg (pollA p), .int .i64 n] w (KnownIs (pubs p.seed p.many.toNat) (setV p n.toNat) w) := by
  obtain ⟨m, hm⟩ := Int.eq_ofNat_of_zero_le (show 0 ≤ p.many by have := hv.m1; omega)
  have hm7 : m ≤ 7 := by have := hv.m7; omega
  have hc5 := hv.c5
  have hv24 := hv.v24
  have hz := hv.s100
  have hokv := Lib.hid hv.ok
  rw [hm] at hokv
  rw [show p.many.toNat = m by omega]
  have b1 := Blk.new w 25 (pollA p)
  have q1 := q_new w (pollA p) 25
  have b2 := Blk.new' (g := w.heap.size + 1) (w.alloc (.cells (pollA p) 25)) 31 (knA known0) (by simp)
  have q2 := q_new (w.alloc (.cells (pollA p) 25)) (knA known0) 31
  have b1 := b1.q q2
  have hq := Q.trans q1 q2
  obtain ⟨w3, hw3⟩ : ∃ w3, w3 = (w.alloc (.cells (pollA p) 25)).alloc (.cells (knA known0) 31) := ⟨_, rfl⟩
  rw [← hw3] at b1 b2 hq
  have hLp : ∀ y : Wd w3, (Instr.loadAt 25 (.pointer (some ⟨w.heap.size, 0, none⟩))).run Tryz.prog y.w = .ok (.agg (pollA p)) y.w := Wd.load b1.lt (Blk.range b1) Tryz.underlying25 rfl (by kernel_rfl)
  have hBp : ∀ y : Wd w3, Blk y.w w.heap.size 25 (pollA p) := fun y => y.blk b1
  have c1 : ∀ y : Wd w3, y.w.cell? ⟨w.heap.size, 1, none⟩ = some (.int .i64 (m : Int)) := fun y => by
    have := (y.blk b1).cell 1
    rw [this]
    show some (Value.int .i64 p.many) = _
    rw [hm]
  have c2 : ∀ y : Wd w3, y.w.cell? ⟨w.heap.size, 2, none⟩ = some (.slice p.clA p.claims.length p.clC) := fun y => (y.blk b1).cell 2
  have c3 : ∀ y : Wd w3, y.w.cell? ⟨w.heap.size, 3, none⟩ = some (.slice p.vA p.votes.length p.vC) := fun y => (y.blk b1).cell 3
  have hBr : ∀ y : Wd w3, Blk y.w (w.heap.size + 1) 31 known0.cells.toArray := fun y => y.blk b2
  have hPy : ∀ y : Wd w3, PollIn y.w p := fun y => hP.q (Q.trans hq y.q)
  have hTy : ∀ y : Wd w3, Tab y.w := fun y => hT.q (Q.trans hq y.q)
  have hKe : ∀ (i : Nat), i < 256 → ∀ y : Wd w3, Calls Tryz.prog 43 #[.agg (pollA p), .int .i64 (i : Int)] y.w fun e w' => e = .returned (keyV (keyP p.seed i)) ∧ Q y.w w' := fun i hi y => keyOf_any p i y.w (hTy y) hi (by omega)
  obtain ⟨i0, hi, hi0, hi1, hi2⟩ := info_parts int_info
  have HQ := Lib.hid hq
  obtain ⟨u, hu⟩ : ∃ u : Wd w3, u.w = w3 := ⟨⟨w3, Q.refl _⟩, rfl⟩
  have HX := Lib.hid (hu.trans hw3)
  have hlt3 := b2.lt
  have HBB := Lib.hid hb
  have HM := Lib.hid hm
  clear hu hw3 b1 b2 q1 q2 hq hv hm hb
  go_enter Tryz.func10, Tryz.ntmps10
  go_upto_region 1 with (fail)
  refine (show Code.wp _ _ _ _ u.w → Code.wp _ _ _ _ _ from fun h => by rw [HX.out] at h; exact h) ?_
  go_wp2_with fail
  go_loopw [5, 6] (fun a i wr => ∃ (j c : Nat) (A : Option Addr) (z : Wd w3), a = .slice A j c ∧ i = .int .i64 j ∧ wr = z.w ∧ j ≤ m ∧ j ≤ c ∧ c ≤ maxLen ∧ Owns z.w w3.heap.size 3 1 (.slice A j c) j ((pubs p.seed j).flatMap intC)) (fun _ i _ => m - (intOf i).toNat)
  case atStart => exact ⟨0, 0, none, u, rfl, rfl, rfl, Nat.zero_le _, Nat.zero_le _, Nat.zero_le _, Owns.nil_ _ _ _ _⟩
  case round =>
    obtain ⟨j, c, A, z, rfl, rfl, rfl, hj, hjc, hcm, hown⟩ := hrel
    by_cases hlt : j < m
    · have hlI : (j : Int) < (m : Int) := by omega
      have hke := hKe j (by omega)
      have hkf := fun w => key_field (keyP p.seed j) w
      have HP := Lib.hid (pubs_succ p.seed j)
      have hpl := pubs_len p.seed j
      have hzs := z.q.size
      generalize keyP p.seed j = kp at *
      clear c2 c3 hKe
      go_wp2_with (first | (refine wpList_load_run 25 (.tmp 2) (.pointer (some ⟨w.heap.size, 0, none⟩)) (.agg (pollA p)) ?_ ?_ ?_ ?_ ?_; rfl; rfl; rfl; exact hLp _) | (go_at_call 43; refine (hke _).mono ?_; rintro e w' ⟨rfl, hq2⟩; have hown2 := hown.q hq2; obtain ⟨y, rfl⟩ := Wd.next _ hq2; clear hq2; have hys := y.q.size) | (at_builtin; refine wpList_append_rows (f := intC) (k := 1) (fun _ => rfl) intC_one rfl (.tmp 16) (.tmp 21) 28 3 i0 _ 8 rfl Tryz.underlying28 hi hi0 hi1 hi2 rfl (by decide) (by decide) w3.heap.size (.slice A j c) j (pubs p.seed j) rfl (hown2.alloc (.cells #[.int .i64 kp.2] 3)) (some ⟨y.w.heap.size, 0, none⟩) 1 1 [kp.2] rfl (RowsAt.one y.w 3 kp.2 _ rfl) rfl (by omega) (by simp; omega) ?_))
      intro A5 c5 w5 hc5 hm5 hown5 hg5
      have hq5 : Q w3 w5 := q_grown (Q.trans y.q (q_new _ _ _)) (Nat.le_refl _) (hown2.alloc _) hg5
      have eF : (pubs p.seed j).flatMap intC ++ intC kp.2 = (pubs p.seed (j + 1)).flatMap intC := by rw [HP.out, List.flatMap_append]; rfl
      rw [eF] at hown5
      clear hown2 hg5 eF hown
      go_wp2_with fail
      exact ⟨⟨j + 1, c5, A5, ⟨w5, hq5⟩, rfl, by go_num, rfl, by omega, hc5, hm5, hown5⟩, by simp only [intOf]; omega⟩
    · obtain rfl : j = m := by omega
      have hnl : ¬ ((j : Int) < (j : Int)) := by omega
      have hI : Ints z.w A (pubs p.seed j) := ints_of (Owns.rows (fun _ => rfl) hown (pubs_len p.seed j).symm)
      have hnew := new_any A c (pubs p.seed j) z.w hI (by rw [pubs_len]; omega)
      rw [pubs_len] at hnew
      have hzs := z.q.size
      clear hown hI hKe hi hi0 hi1 hi2
      go_wp2_with (first | (go_at_call 36; refine hnew.mono ?_; rintro e w' ⟨kn, rfl, hks, hkl, hkK, hq2⟩; obtain ⟨y, rfl⟩ := Wd.next _ hq2; clear hq2) | (refine wpList_store_blk (Blk.new y.w 31 known0.cells.toArray) rfl 31 (.tmp 7) (.tmp 24) kn.cells rfl rfl rfl (by kernel_rfl) (kn_all _) (Nat.le_refl 2) ?_))
      intro W2 hB2 hbel2
      rw [splice_all _ _ (by rfl)] at hB2
      have hq32 : Q w3 W2 := hbel2 _ _ y.q.size (Q.trans y.q (q_new _ _ _))
      have hgk : w3.heap.size ≤ y.w.heap.size := y.q.size
      have hst0 : MSt W2 y.w.heap.size (pubs p.seed j) (setC p 0) W2 kn := ⟨Below.refl _ _, hB2, hkK.q (hbel2 _ _ (Nat.le_refl _) (q_new _ _ _)), hks, hkl⟩
      have hgW : y.w.heap.size < W2.heap.size := hB2.lt
      generalize y.w.heap.size = gk at *
      have HST0 := Lib.hid hst0
      have HPW := Lib.hid (hPy ⟨W2, hq32⟩)
      have HTW := Lib.hid (hTy ⟨W2, hq32⟩)
      have HRW := Lib.hid (hBr ⟨W2, hq32⟩)
      have HBp := Lib.hid (hBp ⟨W2, hq32⟩)
      have d2 := c2 ⟨W2, hq32⟩
      have d3 := c3 ⟨W2, hq32⟩
      have HQ2 := Lib.hid hq32
      dsimp only at d2 d3
      clear hst0 hB2 hbel2 hkK hks hkl hnew hPy hTy hBr hBp c1 c2 c3
      go_wp2_with fail
      go_loopw [8] (fun i wr => ∃ (t : Nat) (k : KR), i = .int .i64 t ∧ t ≤ p.claims.length ∧ MSt W2 gk (pubs p.seed j) (setC p t) wr k) (fun i _ => p.claims.length - (intOf i).toNat)
      case atStart => exact ⟨0, kn, rfl, Nat.zero_le _, HST0.out⟩
      case round =>
        obtain ⟨t, k, rfl, ht, hst⟩ := hrel
        have hqr : Q w wr := Below.trans (Q.trans HQ.out HQ2.out) (hst.q.mono (by omega))
        have hPr := hP.q hqr
        have hTr := hT.q hqr
        have e2 : wr.cell? ⟨w.heap.size, 2, none⟩ = some (.slice p.clA p.claims.length p.clC) := (hst.q.cell (p := ⟨w.heap.size, 2, none⟩) (show w.heap.size < gk by omega)).trans d2
        have e3 : wr.cell? ⟨w.heap.size, 3, none⟩ = some (.slice p.vA p.votes.length p.vC) := (hst.q.cell (p := ⟨w.heap.size, 3, none⟩) (show w.heap.size < gk by omega)).trans d3
        have hLk : ∀ y : Wd wr, (Instr.loadAt 31 (.pointer (some ⟨gk, 0, none⟩))).run Tryz.prog y.w = .ok (.agg (knA k)) y.w := Wd.load hst.blk.lt (Blk.range hst.blk) Tryz.underlying31 rfl (by kernel_rfl)
        by_cases hlt : t < p.claims.length
        · obtain ⟨b, o, eA, hb0, hcs⟩ := hPr.cl (by omega)
          have hld : ∀ y : Wd wr, (Instr.loadAt 37 (.pointer (some ⟨b, o + t * 9, none⟩))).run Tryz.prog y.w = .ok (.agg (claimA p.claims[t])) y.w := Wd.load hb0 (hcs t hlt) Tryz.underlying37 rfl (by kernel_rfl)
          have HF := Lib.hid (setC_succ p t hlt)
          rw [HM.out, show ((j : Int)).toNat = j from rfl] at HF
          have hlI : (t : Int) < (p.claims.length : Int) := by omega
          have htI : (0 : Int) ≤ (t : Int) := by omega
          have hlen : k.l.length ≤ 100000 := by
            rw [hst.hl]
            have := setC_len p t
            omega
          rw [eA] at e2
          have e2y : ∀ y : Wd wr, y.w.cell? ⟨w.heap.size, 2, none⟩ = some (.slice (some ⟨b, o, none⟩) p.claims.length p.clC) := fun y => (y.cell (by have := hst.q.size; omega)).trans e2
          clear hcs eA d2 d3 e3
          generalize p.claims[t] = c at *
          generalize p.claims.length = cl at *
          go_wp2_with fail
          refine wp_region_open (C := fun w' => ∃ y : Wd wr, w' = y.w) 7 (by kernel_rfl) (by kernel_rfl) ((Wd.mk wr (Q.refl _)).next (Q.refl _).drew) ?_
          simp only [List.take_succ_cons, List.take_zero]
          repeat (first | (refine wpQuiet_load_run 31 (.tmp 7) (.pointer (some ⟨gk, 0, none⟩)) (.agg (knA k)) ?_ ?_ ?_ ?_ ?_; rfl; rfl; rfl; exact hLk; dsimp only [Act.put]; simp only [List.setIfInBounds_toArray, List.set_cons_succ, List.set_cons_zero]) | (refine wpQuiet_load_run 37 (.tmp 37) (.pointer (some ⟨b, o + t * 9, none⟩)) (.agg (claimA c)) ?_ ?_ ?_ ?_ ?_; rfl; rfl; rfl; exact hld; dsimp only [Act.put]; simp only [List.setIfInBounds_toArray, List.set_cons_succ, List.set_cons_zero]) | go_big_quiet_step (first | (go_at_call 13; exact Wd.call _ (ofClaim_any _ _))))
          refine wpQuiet_nil ?_
          rintro w' ⟨y, rfl⟩
          refine any_one 7 rfl (by kernel_rfl) rfl (fun K' hK' => ?_)
          go_simp
          refine (add_any k (itClaim c) y.w (hTr.q y.q) (hst.inn.q y.q) (itClaim_in c y.w) hlen).mono ?_
          rintro e w2 ⟨k', rfl, hsv, hl, hK2, hq2⟩
          refine hK' _ _ ?_
          clear hK' K'
          try simp only [Act.put, List.setIfInBounds_toArray, List.set_cons_succ, List.set_cons_zero]
          refine any_pure 8 (v := .tuple #[.agg (knA k'), .bool (addOk k.sv k.l (itClaim c))]) rfl (by kernel_rfl) (by kernel_rfl) (by kernel_rfl) (by intro c d v a w h; cases d <;> exact h) rfl (fun w => by rfl) ?_
          try simp only [Act.put, List.setIfInBounds_toArray, List.set_cons_succ, List.set_cons_zero]
          refine any_pure 9 (v := .agg (knA k')) rfl (by kernel_rfl) (by kernel_rfl) (by kernel_rfl) (by intro c d v a w h; cases d <;> exact h) rfl (fun w => by rfl) ?_
          try simp only [Act.put, List.setIfInBounds_toArray, List.set_cons_succ, List.set_cons_zero]
          refine any_pure 10 (v := .bool (addOk k.sv k.l (itClaim c))) rfl (by kernel_rfl) (by kernel_rfl) (by kernel_rfl) (by intro c d v a w h; cases d <;> exact h) rfl (fun w => by rfl) ?_
          try simp only [Act.put, List.setIfInBounds_toArray, List.set_cons_succ, List.set_cons_zero]
          have hqr2 : Q wr w2 := Q.trans y.q hq2
          have hb2 := hst.blk.q hqr2
          refine any_one 11 rfl (by kernel_rfl) rfl (fun K' hK' => ?_)
          refine wp_store_mid 31 (.tmp 7) (.tmp 41) rfl gk 0 k'.cells.toArray rfl rfl (by simpa using hb2.there (Nat.le_refl 2)) (by kernel_rfl) (kn_all _) ?_
          refine hK' _ _ ?_
          clear hK' K'
          refine any_done (by kernel_rfl) ?_ _
          have HST2 := Lib.hid (hst.step hqr2 hK2 (hsv.trans hst.hsv) (l' := setC p (t + 1)) (by rw [hl, hst.hsv, hst.hl, HF.out]))
          go_wp2_with fail
          exact ⟨⟨t + 1, k', by go_num, by omega, HST2.out⟩, by simp only [intOf]; omega⟩
        · have htn : t = p.claims.length := by omega
          have HC0 := Lib.hid (show setC p t = setV p 0 by rw [htn, setV_zero])
          have HST1 := Lib.hid hst
          have hlI : ¬ ((t : Int) < (p.claims.length : Int)) := by omega
          clear hst hqr hPr hTr e3 hLk d2
          go_wp2_with fail
          clear e2
          go_loopw [9] (fun i wr => ∃ (t : Nat) (k : KR), i = .int .i64 t ∧ t ≤ p.votes.length ∧ (t : Int) ≤ n ∧ MSt W2 gk (pubs p.seed j) (setV p t) wr k) (fun i _ => p.votes.length - (intOf i).toNat)
          case atStart => exact ⟨0, k, rfl, Nat.zero_le _, hn0, by rw [← HC0.out]; exact HST1.out⟩
          case round =>
            clear HST1 HC0 htn hlI hlt ht
            obtain ⟨r, k, rfl, hr, hrn, hst⟩ := hrel
            have hqr : Q w wr := Below.trans (Q.trans HQ.out HQ2.out) (hst.q.mono (by omega))
            have hPr := hP.q hqr
            have hTr := hT.q hqr
            have e3 : wr.cell? ⟨w.heap.size, 3, none⟩ = some (.slice p.vA p.votes.length p.vC) := (hst.q.cell (p := ⟨w.heap.size, 3, none⟩) (show w.heap.size < gk by omega)).trans d3
            have hLk : ∀ y : Wd wr, (Instr.loadAt 31 (.pointer (some ⟨gk, 0, none⟩))).run Tryz.prog y.w = .ok (.agg (knA k)) y.w := Wd.load hst.blk.lt (Blk.range hst.blk) Tryz.underlying31 rfl (by kernel_rfl)
            have hwz := hqr.size
            have hgr := hst.blk.lt
            by_cases hlt : r < p.votes.length ∧ (r : Int) < n
            · obtain ⟨hlt, hltn⟩ := hlt
              obtain ⟨b, o, eA, hb0, hcs⟩ := hPr.vo (by omega)
              have hBp2 : Blk wr w.heap.size 25 (pollA p) := (hst.q.block w.heap.size (by omega)).trans HBp.out
              have hLq : ∀ y : Wd wr, (Instr.loadAt 25 (.pointer (some ⟨w.heap.size, 0, none⟩))).run Tryz.prog y.w = .ok (.agg (pollA p)) y.w := Wd.load hBp2.lt (Blk.range hBp2) Tryz.underlying25 rfl (by kernel_rfl)
              have hld : ∀ y : Wd wr, (Instr.loadAt 84 (.pointer (some ⟨b, o + r * 2, none⟩))).run Tryz.prog y.w = .ok (.agg (voteC p.votes[r]).toArray) y.w := Wd.load hb0 (hcs r hlt) Tryz.underlying84 rfl (by kernel_rfl)
              have HF := Lib.hid (setV_succ p r hlt)
              rw [HM.out, show ((j : Int)).toNat = j from rfl] at HF
              have hvo := hokv.out _ (List.getElem_mem hlt)
              unfold voteOk at hvo
              have hcast : ∀ y : Wd wr, Calls Tryz.prog 44 #[.agg (pollA p), .agg (voteC p.votes[r]).toArray] y.w fun e w' => e = .returned (.agg (itA (castI p.seed p.claims p.votes[r]))) ∧ Q y.w w' := fun y => cast_any p p.votes[r] y.w (hTr.q y.q) (hPr.q y.q) hvo.1 (by omega) hvo.2.2.1 hvo.2.2.2 (by omega) HBB.out
              have HIT : Hid (∀ w, ItemIn w (castI p.seed p.claims p.votes[r])) := Lib.hid fun w => itBallot_in _ w
              have hlI : (r : Int) < (p.votes.length : Int) := by omega
              have hrI : (0 : Int) ≤ (r : Int) := by omega
              have hlen : k.l.length ≤ 100000 := by
                rw [hst.hl]
                have := setV_len p r
                omega
              rw [eA] at e3
              have e3y : ∀ y : Wd wr, y.w.cell? ⟨w.heap.size, 3, none⟩ = some (.slice (some ⟨b, o, none⟩) p.votes.length p.vC) := fun y => (y.cell (by omega)).trans e3
              clear hcs eA d3 hvo hBp2
              generalize castI p.seed p.claims p.votes[r] = IT at *
              generalize p.votes[r] = v at *
              generalize p.votes.length = cl at *
              go_wp2_with fail
              refine wp_region_open (C := fun w' => ∃ y : Wd wr, w' = y.w) 8 (by kernel_rfl) (by kernel_rfl) ((Wd.mk wr (Q.refl _)).next (Q.refl _).drew) ?_
              simp only [List.take_succ_cons, List.take_zero]
              repeat (first | (refine wpQuiet_load_run 31 (.tmp 7) (.pointer (some ⟨gk, 0, none⟩)) (.agg (knA k)) ?_ ?_ ?_ ?_ ?_; rfl; rfl; rfl; exact hLk; dsimp only [Act.put]; simp only [List.setIfInBounds_toArray, List.set_cons_succ, List.set_cons_zero]) | (refine wpQuiet_load_run 25 (.tmp 2) (.pointer (some ⟨w.heap.size, 0, none⟩)) (.agg (pollA p)) ?_ ?_ ?_ ?_ ?_; rfl; rfl; rfl; exact hLq; dsimp only [Act.put]; simp only [List.setIfInBounds_toArray, List.set_cons_succ, List.set_cons_zero]) | (refine wpQuiet_load_run 84 (.tmp 61) (.pointer (some ⟨b, o + r * 2, none⟩)) (.agg (voteC v).toArray) ?_ ?_ ?_ ?_ ?_; rfl; rfl; rfl; exact hld; dsimp only [Act.put]; simp only [List.setIfInBounds_toArray, List.set_cons_succ, List.set_cons_zero]) | go_big_quiet_step (first | (go_at_call 44; exact Wd.call _ (hcast _))))
              refine wpQuiet_nil ?_
              rintro w' ⟨y, rfl⟩
              refine any_one 8 rfl (by kernel_rfl) rfl (fun K' hK' => ?_)
              go_simp
              refine (add_any k IT y.w (hTr.q y.q) (hst.inn.q y.q) (HIT.out y.w) hlen).mono ?_
              rintro e w2 ⟨k', rfl, hsv, hl, hK2, hq2⟩
              refine hK' _ _ ?_
              clear hK' K'
              try simp only [Act.put, List.setIfInBounds_toArray, List.set_cons_succ, List.set_cons_zero]
              refine any_pure 9 (v := .tuple #[.agg (knA k'), .bool (addOk k.sv k.l IT)]) rfl (by kernel_rfl) (by kernel_rfl) (by kernel_rfl) (by intro c d v a w h; cases d <;> exact h) rfl (fun w => by rfl) ?_
              try simp only [Act.put, List.setIfInBounds_toArray, List.set_cons_succ, List.set_cons_zero]
              refine any_pure 10 (v := .agg (knA k')) rfl (by kernel_rfl) (by kernel_rfl) (by kernel_rfl) (by intro c d v a w h; cases d <;> exact h) rfl (fun w => by rfl) ?_
              try simp only [Act.put, List.setIfInBounds_toArray, List.set_cons_succ, List.set_cons_zero]
              refine any_pure 11 (v := .bool (addOk k.sv k.l IT)) rfl (by kernel_rfl) (by kernel_rfl) (by kernel_rfl) (by intro c d v a w h; cases d <;> exact h) rfl (fun w => by rfl) ?_
              try simp only [Act.put, List.setIfInBounds_toArray, List.set_cons_succ, List.set_cons_zero]
              have hqr2 : Q wr w2 := Q.trans y.q hq2
              have hb2 := hst.blk.q hqr2
              refine any_one 12 rfl (by kernel_rfl) rfl (fun K' hK' => ?_)
              refine wp_store_mid 31 (.tmp 7) (.tmp 65) rfl gk 0 k'.cells.toArray rfl rfl (by simpa using hb2.there (Nat.le_refl 2)) (by kernel_rfl) (kn_all _) ?_
              refine hK' _ _ ?_
              clear hK' K'
              refine any_done (by kernel_rfl) ?_ _
              have HST2 := Lib.hid (hst.step hqr2 hK2 (hsv.trans hst.hsv) (l' := setV p (r + 1)) (by rw [hl, hst.hsv, hst.hl, HF.out]))
              go_wp2_with fail
              exact ⟨⟨r + 1, k', by go_num, by omega, by omega, HST2.out⟩, by simp only [intOf]; omega⟩
            · have HV := Lib.hid (show setV p r = setV p n.toNat by
                rcases Nat.lt_or_ge r p.votes.length with h1 | h1
                · rw [show n.toNat = r by omega]
                · unfold setV
                  rw [List.take_of_length_le h1, List.take_of_length_le (show p.votes.length ≤ n.toNat by omega)])
              have hways : ¬ (r : Int) < n ∨ ((r : Int) < n ∧ ¬ (r : Int) < (p.votes.length : Int)) := by omega
              have hBr2 : Blk wr (w.heap.size + 1) 31 known0.cells.toArray := (hst.q.block (w.heap.size + 1) (by omega)).trans HRW.out
              have HST := Lib.hid hst
              clear hst d3 hPr hTr
              rcases hways with h1 | ⟨h1, h2⟩
              all_goals
                go_wp2_with (first | (refine wpList_load_run 31 (.tmp 7) (.pointer (some ⟨gk, 0, none⟩)) (.agg (knA k)) ?_ ?_ ?_ ?_ ?_; rfl; rfl; rfl; exact hLk ⟨wr, Q.refl _⟩) | (refine wpList_store_far hBr2 rfl 31 (.tmp 4) (.tmp 67) k.cells rfl rfl rfl (by kernel_rfl) (kn_all _) (Nat.le_refl 2) ?_))
                intro W hW hbel hfar
                rw [splice_all _ _ (by rfl)] at hW
                have hst := HST.out
                have hside : _root_.Go.Proofs.YtflgkplneekpfaaGreatDoor.Known.Aside wr W (w.heap.size + 1) := ⟨known_only hBr2, hfar, (hbel (w.heap.size + 1) wr (Nat.le_refl _) (Below.refl _ wr)).size⟩
                have hqW : Q w W := hbel _ _ (Nat.le_succ _) hqr
                have hkW : KIn W k := hside.known hst.inn
                have h3 : k.sv = pubs p.seed j := hst.hsv
                have h4 : k.l = setV p n.toNat := by rw [hst.hl, HV.out]
                clear hst
                go_wp2_with fail
                exact bodyPost_ret (results_cell_row rfl _ _ (w.heap.size + 1) 31 (knA k) (0, 0) _ rfl hW Tryz.underlying31 rfl (by kernel_rfl)) rfl ⟨_, rfl, h3, h4, hkW, hqW⟩
end Go.Proofs.YtflgkplneekpfaaGreatDoor.Vot

namespace Go.Proofs.YtflgkplneekpfaaGreatDoor.Vot
open Go.RowKit Grp Mem _root_.Go.Proofs.YtflgkplneekpfaaGreatDoor.Code Sha Sign _root_.Go.Proofs.YtflgkplneekpfaaGreatDoor.Item _root_.Go.Proofs.YtflgkplneekpfaaGreatDoor.Known Rng

def smA : ByteArray := ⟨#[48, 48, 48, 48, 48, 48, 48, 48, 48, 48, 48, 48, 48, 48, 97, 49]⟩
def smPr : ByteArray := ⟨#[48, 49, 50, 51, 52, 53, 54, 55, 56, 57, 97, 98, 99, 100, 101, 102, 48, 49, 50, 51, 52, 53, 54, 55, 56, 57, 97, 98, 99, 100, 101, 102]⟩
def smSeed : ByteArray := ⟨#[115]⟩
def smC : ClaimV := ⟨smA, 1, smPr, 0, 0, 37, 0, 0, 0⟩
def smVotes : List (Int × Int) := [(3, 0), (0, 0), (2, 0)]
def smP (A1 : Option Addr) (c1 : Nat) (A2 : Option Addr) (c2 : Nat) : PollR := ⟨smSeed, 4, [smC], A1, c1, smVotes, A2, c2⟩
def smD : ByteArray := ⟨#[119, 7, 230, 48, 79, 3, 10, 222, 123, 212, 174, 157, 248, 82, 17, 44, 156, 222, 230, 72, 107, 132, 152, 94, 206, 247, 20, 34, 81, 97, 90, 164]⟩
def smD0 : ByteArray := ⟨#[105, 192, 214, 49, 124, 92, 79, 252, 195, 168, 54, 235, 75, 169, 201, 163, 94, 97, 196, 150, 40, 121, 126, 237, 68, 185, 97, 171, 200, 143, 239, 120]⟩
def smB0 : BallotV := ⟨3, smA, 0, smD, 0, 2031286010294514331, 267022116298758693⟩
def smD1 : ByteArray := ⟨#[196, 35, 153, 183, 204, 18, 71, 4, 109, 208, 99, 131, 120, 241, 71, 228, 221, 67, 203, 80, 224, 32, 89, 94, 189, 154, 139, 17, 140, 159, 248, 117]⟩
def smB1 : BallotV := ⟨0, smA, 0, smD, 0, 569865455568627628, 1007561883739844594⟩
def smD2 : ByteArray := ⟨#[238, 43, 46, 126, 59, 193, 113, 113, 102, 167, 2, 96, 10, 13, 73, 23, 58, 175, 233, 82, 156, 42, 200, 132, 81, 51, 173, 180, 4, 186, 214, 39]⟩
def smB2 : BallotV := ⟨2, smA, 0, smD, 0, 1945413608298588137, 1541086457852228763⟩
theorem sm_dC : digC smC = smD := by decide +kernel
theorem sm_k0 : keyP smSeed 0 = (201576895867722005, 368323679197964784) := by decide +kernel
theorem sm_k1 : keyP smSeed 1 = (200033809931774192, 1736231029517862051) := by decide +kernel
theorem sm_k2 : keyP smSeed 2 = (1829549726076230926, 1332748958076624905) := by decide +kernel
theorem sm_k3 : keyP smSeed 3 = (146142744092064610, 1042082317385557421) := by decide +kernel
def smSv : List Int := [368323679197964784, 1736231029517862051, 1332748958076624905, 1042082317385557421]
theorem sm_pubs : pubs smSeed 4 = smSv := by
  unfold pubs
  rw [show List.range 4 = [0, 1, 2, 3] from rfl]
  simp only [List.map_cons, List.map_nil, sm_k0, sm_k1, sm_k2, sm_k3]
  rfl
theorem sm_s0 : sigOf (146142744092064610, 1042082317385557421) (messageB (itBallot ⟨3, smA, 0, smD, 0, 0, 0⟩)) = (2031286010294514331, 267022116298758693) := by decide +kernel
theorem sm_b0 : castB smSeed 3 smC = smB0 := by
  unfold castB
  rw [sm_dC, show ((3 : Int)).toNat = 3 from rfl, sm_k3]
  unfold signBallot
  rw [show smC.actor = smA from rfl, show smC.gen = 0 from rfl, sm_s0]
  rfl
theorem sm_d0 : digOf (itBallot smB0) = smD0 := by decide +kernel
theorem sm_g0 : signedB smSv (itBallot smB0) = true := by decide +kernel
theorem sm_s1 : sigOf (201576895867722005, 368323679197964784) (messageB (itBallot ⟨0, smA, 0, smD, 0, 0, 0⟩)) = (569865455568627628, 1007561883739844594) := by decide +kernel
theorem sm_b1 : castB smSeed 0 smC = smB1 := by
  unfold castB
  rw [sm_dC, show ((0 : Int)).toNat = 0 from rfl, sm_k0]
  unfold signBallot
  rw [show smC.actor = smA from rfl, show smC.gen = 0 from rfl, sm_s1]
  rfl
theorem sm_d1 : digOf (itBallot smB1) = smD1 := by decide +kernel
theorem sm_g1 : signedB smSv (itBallot smB1) = true := by decide +kernel
theorem sm_s2 : sigOf (1829549726076230926, 1332748958076624905) (messageB (itBallot ⟨2, smA, 0, smD, 0, 0, 0⟩)) = (1945413608298588137, 1541086457852228763) := by decide +kernel
theorem sm_b2 : castB smSeed 2 smC = smB2 := by
  unfold castB
  rw [sm_dC, show ((2 : Int)).toNat = 2 from rfl, sm_k2]
  unfold signBallot
  rw [show smC.actor = smA from rfl, show smC.gen = 0 from rfl, sm_s2]
  rfl
theorem sm_d2 : digOf (itBallot smB2) = smD2 := by decide +kernel
theorem sm_g2 : signedB smSv (itBallot smB2) = true := by decide +kernel
theorem sm_g : signedB smSv (itClaim smC) = true := by decide +kernel
theorem sm_dig : digOf (itClaim smC) = smD := sm_dC
theorem right_of_signed {sv : List Int} {x : ItemR} (h : signedB sv x = true) : itemRight x = true := by
  unfold signedB at h
  rw [Bool.and_eq_true] at h
  exact h.1
theorem addK_ok {sv : List Int} {l : List ItemR} {x : ItemR} (h1 : signedB sv x = true) (h2 : hasD l (digOf x) = false) : addK sv l x = insK l x := by
  unfold addK addOk
  rw [h1, h2]
  rfl
theorem sm_cast (i : Nat) (s : Int) (b : BallotV) (h : castB smSeed s smC = b) : castI smSeed [smC] (s, 0) = itBallot b := by
  unfold castI
  rw [show claimAt [smC] ((s, (0 : Int)).2) = smC from rfl, h]
theorem sm_set0 : fillK smSv [] (claimIs [smC]) = [itClaim smC] := by
  unfold claimIs
  show addK smSv [] (itClaim smC) = _
  rw [addK_ok sm_g rfl]
  rfl
theorem ins_one (l : List ItemR) (x : ItemR) (d : ByteArray) (ds : List ByteArray) (n : Nat) (hd : digOf x = d) (hl : digs l = ds) (hc : cutK d ds = n) : insK l x = l.take n ++ x :: l.drop n := by
  unfold insK
  rw [hd, hl, hc]
theorem has_no (l : List ItemR) (x : ItemR) (d : ByteArray) (ds : List ByteArray) (hd : digOf x = d) (hl : digs l = ds) (hc : ds.any (fun o => decide (o = d)) = false) : hasD l (digOf x) = false := by
  unfold hasD
  rw [hd, hl, hc]
def smI0 : List ItemR := [itBallot smB0, itClaim smC]
def smI1 : List ItemR := [itBallot smB0, itClaim smC, itBallot smB1]
def smI2 : List ItemR := [itBallot smB0, itClaim smC, itBallot smB1, itBallot smB2]
theorem sm_l0 : digs smI0 = [smD0, smD] := by unfold digs smI0; simp only [List.map_cons, List.map_nil, sm_d0, sm_dig]
theorem sm_l1 : digs smI1 = [smD0, smD, smD1] := by unfold digs smI1; simp only [List.map_cons, List.map_nil, sm_d0, sm_dig, sm_d1]
theorem sm_a0 : addK smSv [itClaim smC] (itBallot smB0) = smI0 := by
  have hl : digs [itClaim smC] = [smD] := by unfold digs; simp only [List.map_cons, List.map_nil, sm_dig]
  rw [addK_ok sm_g0 (has_no _ _ smD0 [smD] sm_d0 hl (by decide +kernel)), ins_one _ _ smD0 [smD] 0 sm_d0 hl (by decide +kernel)]
  rfl
theorem sm_a1 : addK smSv smI0 (itBallot smB1) = smI1 := by
  rw [addK_ok sm_g1 (has_no _ _ smD1 _ sm_d1 sm_l0 (by decide +kernel)), ins_one _ _ smD1 _ 2 sm_d1 sm_l0 (by decide +kernel)]
  rfl
theorem sm_a2 : addK smSv smI1 (itBallot smB2) = smI2 := by
  rw [addK_ok sm_g2 (has_no _ _ smD2 _ sm_d2 sm_l1 (by decide +kernel)), ins_one _ _ smD2 _ 3 sm_d2 sm_l1 (by decide +kernel)]
  rfl
theorem sm_ci : claimIs ([smC].take [smC].length) = claimIs [smC] := rfl
theorem sm_c2 : castIs smSeed [smC] (smVotes.take 2) = [itBallot smB0, itBallot smB1] := by
  unfold castIs smVotes
  rw [show List.take 2 [((3 : Int), (0 : Int)), (0, 0), (2, 0)] = [(3, 0), (0, 0)] from rfl]
  simp only [List.map_cons, List.map_nil]
  rw [sm_cast 0 3 _ sm_b0, sm_cast 0 0 _ sm_b1]
theorem sm_c3 : castIs smSeed [smC] (smVotes.take 3) = [itBallot smB0, itBallot smB1, itBallot smB2] := by
  unfold castIs smVotes
  rw [show List.take 3 [((3 : Int), (0 : Int)), (0, 0), (2, 0)] = [(3, 0), (0, 0), (2, 0)] from rfl]
  simp only [List.map_cons, List.map_nil]
  rw [sm_cast 0 3 _ sm_b0, sm_cast 0 0 _ sm_b1, sm_cast 0 2 _ sm_b2]
theorem setV_of (p : PollR) (seed : ByteArray) (m : Nat) (cs : List ClaimV) (vs : List (Int × Int)) (j : Nat) (h1 : p.seed = seed) (h2 : p.many.toNat = m) (h3 : p.claims = cs) (h4 : p.votes = vs) : setV p j = fillK (pubs seed m) (fillK (pubs seed m) [] (claimIs (cs.take cs.length))) (castIs seed cs (vs.take j)) := by
  unfold setV setC
  rw [h1, h2, h3, h4]
theorem fill2 (sv : List Int) (l : List ItemR) (x y : ItemR) : fillK sv l [x, y] = addK sv (addK sv l x) y := rfl
theorem fill3 (sv : List Int) (l : List ItemR) (x y z : ItemR) : fillK sv l [x, y, z] = addK sv (addK sv (addK sv l x) y) z := rfl
theorem sm_set2 (A1 : Option Addr) (c1 : Nat) (A2 : Option Addr) (c2 : Nat) : setV (smP A1 c1 A2 c2) 2 = smI1 := by
  rw [setV_of _ smSeed 4 [smC] smVotes 2 rfl rfl rfl rfl, sm_ci, sm_c2, sm_pubs, sm_set0, fill2, sm_a0, sm_a1]
theorem sm_set3 (A1 : Option Addr) (c1 : Nat) (A2 : Option Addr) (c2 : Nat) : setV (smP A1 c1 A2 c2) 3 = smI2 := by
  rw [setV_of _ smSeed 4 [smC] smVotes 3 rfl rfl rfl rfl, sm_ci, sm_c3, sm_pubs, sm_set0, fill3, sm_a0, sm_a1, sm_a2]

/-! ### What Voters, Won and Own answer -/
theorem sm_r0 : itemRight (itBallot smB0) = true := right_of_signed sm_g0
theorem sm_r1 : itemRight (itBallot smB1) = true := right_of_signed sm_g1
theorem sm_r2 : itemRight (itBallot smB2) = true := right_of_signed sm_g2
theorem sm_r : itemRight (itClaim smC) = true := right_of_signed sm_g
theorem sm_bal1 : ballotsS smA 0 smI1 = [smB0, smB1] := by
  unfold ballotsS takeB smI1
  simp only [List.filter, show wantB smA 0 (itBallot smB0) = true from rfl, show wantB smA 0 (itClaim smC) = false from rfl, show wantB smA 0 (itBallot smB1) = true from rfl, sm_r0, sm_r1, Bool.true_and, Bool.false_and]
  rfl
theorem sm_bal2 : ballotsS smA 0 smI2 = [smB0, smB1, smB2] := by
  unfold ballotsS takeB smI2
  simp only [List.filter, show wantB smA 0 (itBallot smB0) = true from rfl, show wantB smA 0 (itClaim smC) = false from rfl, show wantB smA 0 (itBallot smB1) = true from rfl, show wantB smA 0 (itBallot smB2) = true from rfl, sm_r0, sm_r1, sm_r2, Bool.true_and, Bool.false_and]
  rfl
theorem sm_cl1 : claimsS smA smI1 = [smC] := by
  unfold claimsS takeCl smI1
  simp only [List.filter, show wantCl smA (itBallot smB0) = false from rfl, show wantCl smA (itClaim smC) = true from rfl, show wantCl smA (itBallot smB1) = false from rfl, sm_r, Bool.true_and, Bool.false_and]
  rfl
theorem sm_cl2 : claimsS smA smI2 = [smC] := by
  unfold claimsS takeCl smI2
  simp only [List.filter, show wantCl smA (itBallot smB0) = false from rfl, show wantCl smA (itClaim smC) = true from rfl, show wantCl smA (itBallot smB1) = false from rfl, show wantCl smA (itBallot smB2) = false from rfl, sm_r, Bool.true_and, Bool.false_and]
  rfl
theorem sm_v2 : votersK smD [smB0, smB1, smB2] = [0, 2, 3] := by
  refine asc_unique _ _ (voters_asc _ _) (by decide) fun d => ?_
  rw [voters_mem]
  constructor
  · rintro ⟨b, hb, -, rfl⟩
    rcases List.mem_cons.1 hb with rfl | hb
    · decide
    · rcases List.mem_cons.1 hb with rfl | hb
      · decide
      · rw [List.mem_singleton] at hb
        subst hb
        decide
  · intro hd
    rcases List.mem_cons.1 hd with rfl | hd
    · exact ⟨smB1, by simp, rfl, rfl⟩
    · rcases List.mem_cons.1 hd with rfl | hd
      · exact ⟨smB2, by simp, rfl, rfl⟩
      · rw [List.mem_singleton] at hd
        subst hd
        exact ⟨smB0, by simp, rfl, rfl⟩
theorem sm_v1 : (votersK smD [smB0, smB1]).length ≤ 2 := voters_le _ _
theorem sm_won2 : wonR (wonO (quorumK 4) [smB0, smB1, smB2] 0 [smC]) = (smC, true) := by
  have h : winsB (quorumK 4) [smB0, smB1, smB2] 0 smC = true := by
    unfold winsB
    rw [sm_dig, sm_v2]
    decide
  unfold wonO
  rw [List.find?_cons_of_pos h]
  rfl
theorem sm_won1 : (wonR (wonO (quorumK 4) [smB0, smB1] 0 [smC])).2 = false := by
  have h : winsB (quorumK 4) [smB0, smB1] 0 smC = false := by
    unfold winsB
    rw [sm_dig, Bool.and_eq_false_iff]
    refine .inr (decide_eq_false ?_)
    have := sm_v1
    have hq : quorumK 4 = 3 := by decide
    rw [hq]
    omega
  unfold wonO
  rw [List.find?_cons_of_neg (by simp [h])]
  rfl
theorem sm_own3 : ownK 3 [smB0, smB1, smB2] = (smD, true) := rfl
theorem sm_own1 : (ownK 1 [smB0, smB1, smB2]).2 = false := rfl
end Go.Proofs.YtflgkplneekpfaaGreatDoor.Vot

namespace Go.Proofs.YtflgkplneekpfaaGreatDoor.Vot
open Go.RowKit Grp Mem

theorem wp_region_H {P : Program} {id : Nat} {K : Exit → Act → World → Prop} {a : Act} {w : World} {l : List Oper} (S : World → Prop) (hm : P.follows .mixedOrders = true) (h : wpAnyH P .any l.toArray K S l.length (Array.replicate l.length false) a w.drew) : (Code.region id l.toArray true).wp P K a w := by
  refine wp_region_held (S := S) hm ?_
  simpa using h
theorem held_run {P : Program} {md : Region.Mode} {S : World → Prop} {K : Exit → Act → World → Prop} {l : List Oper} (k : Nat) {o : Oper} {f : Nat} {s : Array Bool} {a : Act} {w w' : World} {v : Value} (hi : l[k]? = some o) (hr : Region.ready md l.toArray s = [k]) (hg : o.guard = none)
    (hx : (execOp a.eval o).run P w = .ok (.value v) w') (hS : S w') (h : wpAnyH P md l.toArray K S f (s.setIfInBounds k true) (a.put o.dst v) w') : wpAnyH P md l.toArray K S (f + 1) s a w :=
  held_one k hi hr hg fun K' hK => by
    unfold Oper.wp
    rw [hx]
    exact hK _ _ hS h
theorem exec_read {P : Program} {o : Oper} {a : Act} {w : World} (ty : TypeId) (y : Operand) (p v : Value) (ho : o.op = .load ty y) (hy : a.eval y = p) (hr : (Instr.loadAt ty p).run P w = .ok v w) : (execOp a.eval o).run P w = .ok (.value v) w := by
  unfold execOp
  simp only [ho, hy, Sem.run_bind, hr, Result.andThen_ok, Sem.run_pure]
theorem exec_assignV {P : Program} {o : Oper} {a : Act} {w : World} (x : Operand) (v : Value) (ho : o.op = .assign x) (hx : a.eval x = v) : (execOp a.eval o).run P w = .ok (.value v) w := by
  unfold execOp
  simp only [ho, hx, Sem.run_pure]
end Go.Proofs.YtflgkplneekpfaaGreatDoor.Vot

namespace Go.Proofs.YtflgkplneekpfaaGreatDoor.Vot
open Go.RowKit Grp Mem _root_.Go.Proofs.YtflgkplneekpfaaGreatDoor.Code Sha Sign _root_.Go.Proofs.YtflgkplneekpfaaGreatDoor.Item _root_.Go.Proofs.YtflgkplneekpfaaGreatDoor.Known Rng

/-! ### Sets that were filled -/
theorem setV_filled (p : PollR) (j : Nat) : Filled (pubs p.seed p.many.toNat) (setV p j) := Filled.fill _ (Filled.fill _ (Filled.nil _))
theorem sortB_of {l : List ItemR} (h : Asc (digs l)) (actor : ByteArray) (gen : Int) : SortedF (takeB actor gen l) := sortedF_of foundB (fun _ => rfl) (fun _ => rfl) _ l h
theorem sortCl_of {l : List ItemR} (h : Asc (digs l)) (actor : ByteArray) : SortedF (takeCl actor l) := sortedF_of foundCl (fun _ => rfl) (fun _ => rfl) _ l h

theorem build_smC (w : World) : (Instr.build 37 #[(0, .string ⟨#[48, 48, 48, 48, 48, 48, 48, 48, 48, 48, 48, 48, 48, 48, 97, 49]⟩), (1, .int .i64 1), (2, .string ⟨#[48, 49, 50, 51, 52, 53, 54, 55, 56, 57, 97, 98, 99, 100, 101, 102, 48, 49, 50, 51, 52, 53, 54, 55, 56, 57, 97, 98, 99, 100, 101, 102]⟩), (5, .int .i64 37)]).run Tryz.prog w = .ok (.agg (claimA smC)) w := by kernel_rfl
theorem build_vote (s n : Int) (w : World) : (Instr.build 84 #[(0, .int .i64 s), (1, .int .i64 n)]).run Tryz.prog w = .ok (.agg (voteC (s, n)).toArray) w := by kernel_rfl
theorem bs_votes (w : World) : (Instr.buildSlice 23 3 #[(0, .agg (voteC (3, 0)).toArray), (1, .agg (voteC (0, 0)).toArray), (2, .agg (voteC (2, 0)).toArray)]).run Tryz.prog w = .ok (.slice (some ⟨w.heap.size, 0, none⟩) 3 3) (w.alloc (.cells (smVotes.flatMap voteC).toArray 84)) := by kernel_rfl
theorem build_poll (A1 A2 : Option Addr) (w : World) : (Instr.build 25 #[(0, .string ⟨#[115]⟩), (1, .int .i64 4), (2, .slice A1 1 1), (3, .slice A2 3 3)]).run Tryz.prog w = .ok (.agg (pollA (smP A1 1 A2 3))) w := by kernel_rfl
theorem poll_all (p : PollR) : (pollA p).all (·.oneCell') = true := by simp [pollA, PollR.cells, Value.oneCell']
theorem eql_smC (w : World) : (binOp .eql 37 (.agg (claimA smC)) (.agg (claimA smC))).run Tryz.prog w = .ok (.bool true) w := by kernel_rfl
theorem sm_valid (A1 : Option Addr) (c1 : Nat) (A2 : Option Addr) (c2 : Nat) : Valid (smP A1 c1 A2 c2) where
  m1 := show (1 : Int) ≤ 4 by decide
  m7 := show (4 : Int) ≤ 7 by decide
  c5 := show [smC].length ≤ 5 by simp
  v24 := show smVotes.length ≤ 24 by decide
  s100 := show smSeed.size ≤ 100 by decide
  ok := by
    intro v hv
    have h : v.1 = 3 ∨ v.1 = 0 ∨ v.1 = 2 := by
      rcases List.mem_cons.1 hv with rfl | hv
      · exact .inl rfl
      · rcases List.mem_cons.1 hv with rfl | hv
        · exact .inr (.inl rfl)
        · rw [List.mem_singleton] at hv
          subst hv
          exact .inr (.inr rfl)
    have h2 : v.2 = 0 := by
      rcases List.mem_cons.1 hv with rfl | hv
      · rfl
      · rcases List.mem_cons.1 hv with rfl | hv
        · rfl
        · rw [List.mem_singleton] at hv
          subst hv
          rfl
    refine ⟨by omega, show v.1 < (4 : Int) by omega, by omega, ?_⟩
    rw [h2]
    show (0 : Int) < (1 : Nat)
    decide
theorem votes_rows {w : World} {g : Nat} (h : Blk w g 84 (smVotes.flatMap voteC).toArray) : RowsAt w (some ⟨g, 0, none⟩) 2 voteC smVotes := fun _ => ⟨g, 0, rfl, h.lt, fun j hj => by
  have hr := Blk.range h
  have h0 := range_sub hr 0 2
  have h1 := range_sub hr 2 2
  have h2 := range_sub hr 4 2
  match j, hj with
  | 0, _ => exact h0
  | 1, _ => exact h1
  | 2, _ => exact h2⟩

theorem alloc_claim (w : World) : (Instr.alloc 37 true (.tuple #[])).run Tryz.prog w = .ok (.pointer (some ⟨w.heap.size, 0, none⟩)) (w.alloc (.cells (claimA claim0) 37)) := by kernel_rfl
theorem quorum_at (n r : Int) (w : World) (h : quorumK n = r) (hn : n ≤ 1000000) : Calls Tryz.prog 11 #[.int .i64 n] w fun e w' => e = .returned (.int .i64 r) ∧ Q w w' := h ▸ quorum_any n w hn
theorem load_str {w : World} {g o : Nat} {d : ByteArray} (h : w.cell? ⟨g, o, none⟩ = some (.string d)) : (Instr.loadAt 9 (.pointer (some ⟨g, o, none⟩))).run Tryz.prog w = .ok (.string d) w := by
  have h1 := Tryz.underlying9
  have h2 := Tryz.isAgg9
  unfold Instr.loadAt
  go_simp
theorem load_int {w : World} {g o : Nat} {n : Int} (h : w.cell? ⟨g, o, none⟩ = some (.int .i64 n)) : (Instr.loadAt 3 (.pointer (some ⟨g, o, none⟩))).run Tryz.prog w = .ok (.int .i64 n) w := by
  have h1 := Tryz.underlying3
  have h2 := Tryz.isAgg3
  unfold Instr.loadAt
  go_simp

set_option maxRecDepth 100000 in
set_option maxHeartbeats 8000000 in
theorem small18_any (w : World) (hT : Tab w) : Calls Tryz.prog 8 #[] w fun e w' => e = .returned (.bool true) ∧ Q w w' := by
  go_enter Tryz.func8, Tryz.ntmps8
  go_wp2_with (first | (refine wpList_build_run 37 _ #[(0, .string ⟨#[48, 48, 48, 48, 48, 48, 48, 48, 48, 48, 48, 48, 48, 48, 97, 49]⟩), (1, .int .i64 1), (2, .string ⟨#[48, 49, 50, 51, 52, 53, 54, 55, 56, 57, 97, 98, 99, 100, 101, 102, 48, 49, 50, 51, 52, 53, 54, 55, 56, 57, 97, 98, 99, 100, 101, 102]⟩), (5, .int .i64 37)] (.agg (claimA smC)) rfl rfl (by simp only [List.map_toArray, List.map_cons, List.map_nil]; rfl) (build_smC _) ?_) | (refine wpList_store_blk (Blk.new w 37 claim0.cells.toArray) rfl 37 (.tmp 1) (.tmp 13) smC.cells rfl rfl rfl (by kernel_rfl) (claim_all _) (Nat.le_refl 9) ?_))
  intro W1 hW1 hbel1
  rw [splice_all _ _ (by rfl)] at hW1
  have hq1 : Q w W1 := hbel1 _ _ (Nat.le_refl _) (q_new _ _ _)
  have hgc : w.heap.size < W1.heap.size := hW1.lt
  have hLc : ∀ y : Wd W1, (Instr.loadAt 37 (.pointer (some ⟨w.heap.size, 0, none⟩))).run Tryz.prog y.w = .ok (.agg (claimA smC)) y.w := Wd.load hW1.lt (Blk.range hW1) Tryz.underlying37 rfl (by kernel_rfl)
  have hc0 : ∀ y : Wd W1, y.w.cell? ⟨w.heap.size, 0, none⟩ = some (.string smA) := fun y => (y.blk hW1).cell 0
  have hT1 : ∀ y : Wd W1, Tab y.w := fun y => hT.q (Q.trans hq1 y.q)
  have HQ1 := Lib.hid hq1
  clear hbel1 hW1 hq1
  generalize w.heap.size = gc at *
  obtain ⟨u, hu⟩ := Wd.first W1
  rw [hu]
  clear hu
  go_upto_region 3 with (first | (refine wpList_load_run 37 (.tmp 1) (.pointer (some ⟨gc, 0, none⟩)) (.agg (claimA smC)) ?_ ?_ ?_ ?_ ?_; rfl; rfl; rfl; exact hLc _) | (refine wpList_buildSlice_run 22 1 _ #[(0, .agg (claimA smC))] _ rfl rfl (by simp only [List.map_toArray, List.map_cons, List.map_nil]; rfl) (bsCl_val smC _) ?_) | (refine wpList_build_run 84 _ #[(0, .int .i64 3), (1, .int .i64 0)] (.agg (voteC (3, 0)).toArray) rfl rfl (by simp only [List.map_toArray, List.map_cons, List.map_nil]; rfl) (build_vote _ _ _) ?_) | (refine wpList_build_run 84 _ #[(0, .int .i64 0), (1, .int .i64 0)] (.agg (voteC (0, 0)).toArray) rfl rfl (by simp only [List.map_toArray, List.map_cons, List.map_nil]; rfl) (build_vote _ _ _) ?_) | (refine wpList_build_run 84 _ #[(0, .int .i64 2), (1, .int .i64 0)] (.agg (voteC (2, 0)).toArray) rfl rfl (by simp only [List.map_toArray, List.map_cons, List.map_nil]; rfl) (build_vote _ _ _) ?_) | (refine wpList_buildSlice_run 23 3 _ #[(0, .agg (voteC (3, 0)).toArray), (1, .agg (voteC (0, 0)).toArray), (2, .agg (voteC (2, 0)).toArray)] _ rfl rfl (by simp only [List.map_toArray, List.map_cons, List.map_nil]; rfl) (bs_votes _) ?_))
  have b1 := Blk.new u.w 37 (claimA smC)
  have q1 := q_new u.w (claimA smC) 37
  have b2 := Blk.new' (g := u.w.heap.size + 1) (u.w.alloc (.cells (claimA smC) 37)) 84 (smVotes.flatMap voteC).toArray (by simp)
  have q2 := q_new (u.w.alloc (.cells (claimA smC) 37)) (smVotes.flatMap voteC).toArray 84
  have hr1 := (RowsAt.one (k := 9) (f := ClaimV.cells) u.w 37 smC (claimA smC) rfl).q q2
  obtain ⟨p, hp⟩ : ∃ p, p = smP (some ⟨u.w.heap.size, 0, none⟩) 1 (some ⟨u.w.heap.size + 1, 0, none⟩) 3 := ⟨_, rfl⟩
  have b3 := Blk.new' (g := u.w.heap.size + 1 + 1) ((u.w.alloc (.cells (claimA smC) 37)).alloc (.cells (smVotes.flatMap voteC).toArray 84)) 25 (pollA p) (by simp)
  have q3 := q_new ((u.w.alloc (.cells (claimA smC) 37)).alloc (.cells (smVotes.flatMap voteC).toArray 84)) (pollA p) 25
  obtain ⟨W2, hW2⟩ : ∃ W2, W2 = ((u.w.alloc (.cells (claimA smC) 37)).alloc (.cells (smVotes.flatMap voteC).toArray 84)).alloc (.cells (pollA p) 25) := ⟨_, rfl⟩
  have hq2 := Q.trans u.q (Q.trans (Q.trans q1 q2) q3)
  have hvr := (votes_rows b2).q q3
  have hcr := hr1.q q3
  rw [← hW2] at b3 hq2 hvr hcr
  have hPI : PollIn W2 p := by
    subst hp
    exact ⟨hcr, hvr, ⟨by show (1 : Nat) ≤ 1; decide, by show (1 : Nat) ≤ maxLen; decide⟩, ⟨by show (3 : Nat) ≤ 3; decide, by show (3 : Nat) ≤ maxLen; decide⟩⟩
  have hLp : ∀ y : Wd W2, (Instr.loadAt 25 (.pointer (some ⟨u.w.heap.size + 1 + 1, 0, none⟩))).run Tryz.prog y.w = .ok (.agg (pollA p)) y.w := Wd.load b3.lt (Blk.range b3) Tryz.underlying25 rfl (by kernel_rfl)
  have hT2 : ∀ y : Wd W2, Tab y.w := fun y => hT1 ⟨y.w, Q.trans hq2 y.q⟩
  have hLc2 : ∀ y : Wd W2, (Instr.loadAt 37 (.pointer (some ⟨gc, 0, none⟩))).run Tryz.prog y.w = .ok (.agg (claimA smC)) y.w := fun y => hLc ⟨y.w, Q.trans hq2 y.q⟩
  have hc02 : ∀ y : Wd W2, y.w.cell? ⟨gc, 0, none⟩ = some (.string smA) := fun y => hc0 ⟨y.w, Q.trans hq2 y.q⟩
  have hbb : ∀ c ∈ p.claims, c.actor.size ≤ 140737488351232 ∧ c.gen ≤ 9223372036854775807 := by
    subst hp
    intro c hc
    have : c = smC := by
      have hc' : c ∈ [smC] := hc
      rwa [List.mem_singleton] at hc'
    subst this
    exact ⟨by decide, by decide⟩
  have hsv : pubs p.seed p.many.toNat = smSv := by
    subst hp
    exact sm_pubs
  have hmd : ∀ (n : Nat), n ≤ 3 → ∀ y : Wd W2, Calls Tryz.prog 10 #[.agg (pollA p), .int .i64 (n : Int)] y.w (KnownIs smSv (setV p n) y.w) := fun n hn y => by
    have hva : Valid p := by subst hp; exact sm_valid _ _ _ _
    have := made_any p (n : Int) y.w (hT2 y) (hPI.q y.q) hva (by omega) (by omega) hbb
    rwa [hsv, show ((n : Int)).toNat = n from rfl] at this
  have hm3 := hmd 3 (by decide)
  have hm2 := hmd 2 (by decide)
  rw [hp, sm_set3] at hm3
  rw [hp, sm_set2] at hm2
  rw [← hp] at hm3 hm2
  have hA3 : Asc (digs smI2) := by
    have := (setV_filled (smP none 0 none 0) 3).asc
    rwa [sm_set3] at this
  have hA2 : Asc (digs smI1) := by
    have := (setV_filled (smP none 0 none 0) 2).asc
    rwa [sm_set2] at this
  have hpa : (Value.agg #[.string ⟨#[115]⟩, .int .i64 4, .slice (some ⟨u.w.heap.size, 0, none⟩) 1 1, .slice (some ⟨u.w.heap.size + 1, 0, none⟩) 3 3]) = .agg (pollA p) := by subst hp; rfl
  have hpc : (#[.string ⟨#[115]⟩, .int .i64 4, .slice (some ⟨u.w.heap.size, 0, none⟩) 1 1, .slice (some ⟨u.w.heap.size + 1, 0, none⟩) 3 3] : Array Value) = pollA p := by subst hp; rfl
  rw [hpc, ← hW2]
  have HQ2 := Lib.hid hq2
  have hgp : u.w.heap.size + 1 + 1 < W2.heap.size := b3.lt
  have hg0 : gc < u.w.heap.size := Nat.lt_of_lt_of_le hgc u.q.size
  clear b1 b2 b3 q1 q2 q3 hr1 hW2 hvr hcr hPI hp hbb hsv hmd hpa hpc hLc hc0 hT1 hq2
  generalize u.w.heap.size + 1 + 1 = gp at *
  obtain ⟨v, hv⟩ := Wd.first W2
  rw [hv]
  clear hv
  go_wp2_with (first | (refine wpList_load_run 25 (.tmp 2) (.pointer (some ⟨gp, 0, none⟩)) (.agg (pollA p)) ?_ ?_ ?_ ?_ ?_; rfl; rfl; rfl; exact hLp _) | (go_at_call 10; refine (hm3 _).mono ?_; rintro e w' ⟨k3, rfl, hks, hkl, hkK, hq⟩; have hqk := hq; obtain ⟨v2, rfl⟩ := Wd.next _ hq; clear hq) | (refine wpList_store_blk (Blk.new v2.w 31 known0.cells.toArray) rfl 31 (.tmp 3) (.tmp 22) k3.cells rfl rfl rfl (by kernel_rfl) (kn_all _) (Nat.le_refl 2) ?_))
  intro W3 hW3 hbel3
  rw [splice_all _ _ (by rfl)] at hW3
  have hq3 : Q W2 W3 := hbel3 _ _ v2.q.size (Q.trans v2.q (q_new _ _ _))
  have hK3 : KIn W3 k3 := hkK.q (hbel3 _ _ (Nat.le_refl _) (q_new _ _ _))
  have hLk : ∀ y : Wd W3, (Instr.loadAt 31 (.pointer (some ⟨v2.w.heap.size, 0, none⟩))).run Tryz.prog y.w = .ok (.agg (knA k3)) y.w := Wd.load hW3.lt (Blk.range hW3) Tryz.underlying31 rfl (by kernel_rfl)
  have hgk : v2.w.heap.size < W3.heap.size := hW3.lt
  have hLc3 : ∀ z, Q W3 z → (Instr.loadAt 37 (.pointer (some ⟨gc, 0, none⟩))).run Tryz.prog z = .ok (.agg (claimA smC)) z := fun z hz => hLc2 ⟨z, Q.trans hq3 hz⟩
  have hS3 : ∀ z, Q W3 z → (Instr.loadAt 9 (.pointer (some ⟨gc, 0, none⟩))).run Tryz.prog z = .ok (.string smA) z := fun z hz => load_str (hc02 ⟨z, Q.trans hq3 hz⟩)
  have hc03 : ∀ z, Q W3 z → z.cell? ⟨gc, 0, none⟩ = some (.string smA) := fun z hz => hc02 ⟨z, Q.trans hq3 hz⟩
  have hLp3 : ∀ z, Q W3 z → (Instr.loadAt 25 (.pointer (some ⟨gp, 0, none⟩))).run Tryz.prog z = .ok (.agg (pollA p)) z := fun z hz => hLp ⟨z, Q.trans hq3 hz⟩
  have hLk3 : ∀ z, Q W3 z → (Instr.loadAt 31 (.pointer (some ⟨v2.w.heap.size, 0, none⟩))).run Tryz.prog z = .ok (.agg (knA k3)) z := fun z hz => hLk ⟨z, hz⟩
  have hT3 : ∀ z, Q W3 z → Tab z := fun z hz => hT2 ⟨z, Q.trans hq3 hz⟩
  have hDg : ∀ z, Q W3 z → Calls Tryz.prog 15 #[.agg (claimA smC)] z fun e w' => e = .returned (.string smD) ∧ Q z w' := fun z hz => by
    have := digestC_any smC z (hT3 z hz)
    rwa [sm_dC] at this
  have hlk : k3.l.length ≤ 1000 := by rw [hkl]; decide
  have hA3' : Asc (digs k3.l) := by rw [hkl]; exact hA3
  have hVo : ∀ z, Q W3 z → Calls Tryz.prog 14 #[.agg (knA k3), .string smD, .string smA, .int .i64 0] z (VotersAre [0, 2, 3] z) := fun z hz => by
    have := voters_any k3 smD smA 0 z (hT3 z hz) (hK3.q hz) hlk (sortB_of hA3' _ _)
    rwa [hkl, sm_bal2, sm_v2] at this
  have hWo : ∀ z, Q W3 z → Calls Tryz.prog 16 #[.agg (knA k3), .string smA, .int .i64 0] z fun e w' => e = .returned (.tuple #[.agg (claimA smC), .bool true]) ∧ Q z w' := fun z hz => by
    have := won_any k3 smA 0 z (hT3 z hz) (hK3.q hz) hlk (by rw [hks]; decide) (sortB_of hA3' _ _) (sortCl_of hA3' _)
    rwa [hks, hkl, sm_bal2, sm_cl2, show ((smSv.length : Nat) : Int) = 4 from rfl, sm_won2] at this
  have hO3 : ∀ z, Q W3 z → Calls Tryz.prog 31 #[.agg (knA k3), .int .i64 3, .string smA, .int .i64 0] z fun e w' => e = .returned (.tuple #[.string smD, .bool true]) ∧ Q z w' := fun z hz => by
    have := own_any k3 3 smA 0 z (hT3 z hz) (hK3.q hz) hlk (sortB_of hA3' _ _)
    rwa [hkl, sm_bal2, sm_own3] at this
  have hO1 : ∀ z, Q W3 z → Calls Tryz.prog 31 #[.agg (knA k3), .int .i64 1, .string smA, .int .i64 0] z fun e w' => e = .returned (.tuple #[.string emptyT, .bool false]) ∧ Q z w' := fun z hz => by
    have := own_any k3 1 smA 0 z (hT3 z hz) (hK3.q hz) hlk (sortB_of hA3' _ _)
    rwa [hkl, sm_bal2, sm_own1] at this
  have hM2 : ∀ z, Q W3 z → Calls Tryz.prog 10 #[.agg (pollA p), .int .i64 2] z (KnownIs smSv smI1 z) := fun z hz => hm2 ⟨z, Q.trans hq3 hz⟩
  have hW2' : ∀ (k2 : KR) (z : World), Q W3 z → KIn z k2 → k2.sv = smSv → k2.l = smI1 → Calls Tryz.prog 16 #[.agg (knA k2), .string smA, .int .i64 0] z fun e w' => (∃ c : ClaimV, e = .returned (.tuple #[.agg (claimA c), .bool false])) ∧ Q z w' := fun k2 z hz hK2 hks2 hkl2 => by
    have hA : Asc (digs k2.l) := by rw [hkl2]; exact hA2
    have := won_any k2 smA 0 z (hT3 z hz) hK2 (by rw [hkl2]; decide) (by rw [hks2]; decide) (sortB_of hA _ _) (sortCl_of hA _)
    rw [hks2, hkl2, sm_bal1, sm_cl1, show ((smSv.length : Nat) : Int) = 4 from rfl, sm_won1] at this
    exact this.mono fun e w' ⟨h1, h2⟩ => ⟨⟨_, h1⟩, h2⟩
  have HQ3 := Lib.hid (Q.trans HQ1.out (Q.trans HQ2.out hq3))
  clear hbel3 hW3 hq3 hLk hLp hc02 hLc2 hT2 hm3 hm2 hA3 hA2 hA3' hlk hkK hqk
  generalize v2.w.heap.size = gk at *
  clear hT3
  go_upto_region 4 with (fail)
  refine wp_region_S (fun z => Q W3 z) (by kernel_rfl) (Q.refl _).drew ?_
  intro z hz
  refine held_read 0 (v := .agg (knA k3)) rfl (by kernel_rfl) (by kernel_rfl) (by kernel_rfl) (by intro c a d v w h; cases d <;> exact h) rfl hz (fun z hz => exec_load 31 (.tmp 3) _ _ rfl rfl (hLk3 z hz)) ?_
  try simp only [Act.put, List.setIfInBounds_toArray, List.set_cons_succ, List.set_cons_zero]
  refine held_read 1 (v := .agg (claimA smC)) rfl (by kernel_rfl) (by kernel_rfl) (by kernel_rfl) (by intro c a d v w h; cases d <;> exact h) rfl hz (fun z hz => exec_load 37 (.tmp 1) _ _ rfl rfl (hLc3 z hz)) ?_
  try simp only [Act.put, List.setIfInBounds_toArray, List.set_cons_succ, List.set_cons_zero]
  refine held_pure 3 (v := .pointer (some ⟨gc, 0, none⟩)) rfl (by kernel_rfl) (by kernel_rfl) (by kernel_rfl) (by intro c a d v w h; cases d <;> exact h) rfl hz (fun w => by rfl) ?_
  try simp only [Act.put, List.setIfInBounds_toArray, List.set_cons_succ, List.set_cons_zero]
  refine held_read 4 (v := .string smA) rfl (by kernel_rfl) (by kernel_rfl) (by kernel_rfl) (by intro c a d v w h; cases d <;> exact h) rfl hz (fun z hz => exec_load 9 (.tmp 26) _ _ rfl rfl (hS3 z hz)) ?_
  try simp only [Act.put, List.setIfInBounds_toArray, List.set_cons_succ, List.set_cons_zero]
  refine held_one 2 rfl (by kernel_rfl) rfl (fun K' hK' => ?_)
  go_simp
  refine (hDg z hz).mono ?_
  rintro e z5 ⟨rfl, q5⟩
  refine hK' _ _ (Q.trans hz q5) ?_
  clear hK' K'
  try simp only [Act.put, List.setIfInBounds_toArray, List.set_cons_succ, List.set_cons_zero]
  refine held_one 5 rfl (by kernel_rfl) rfl (fun K' hK' => ?_)
  go_simp
  refine (hVo z5 (Q.trans hz q5)).mono ?_
  rintro e W4 ⟨A, c, rfl, hvc, hvm, hvI, q6⟩
  have hq4 := Q.trans (Q.trans hz q5) q6
  refine hK' _ _ hq4 ?_
  clear hK' K'
  try simp only [Act.put, List.setIfInBounds_toArray, List.set_cons_succ, List.set_cons_zero]
  refine held_pure 6 (v := .slice A 3 c) rfl (by kernel_rfl) (by kernel_rfl) (by kernel_rfl) (by intro c a d v w h; cases d <;> exact h) rfl hq4 (fun w => by rfl) ?_
  try simp only [Act.put, List.setIfInBounds_toArray, List.set_cons_succ, List.set_cons_zero]
  refine wpAnyH_done (by kernel_rfl) ?_ _
  clear hz q5 q6 hVo
  clear z5 z
  have e0 := hc03 W4 hq4
  go_wp2_with (first | (refine wpList_load_run 31 (.tmp 3) (.pointer (some ⟨gk, 0, none⟩)) (.agg (knA k3)) ?_ ?_ ?_ ?_ ?_; rfl; rfl; rfl; exact hLk3 _ hq4) | (go_at_call 16; refine (hWo _ hq4).mono ?_; rintro e z6 ⟨rfl, q6⟩; have hq6 := Q.trans hq4 q6) | (refine wpList_store_blk (Blk.new z6 37 claim0.cells.toArray) rfl 37 (.tmp 5) (.tmp 34) smC.cells rfl rfl rfl (by kernel_rfl) (claim_all _) (Nat.le_refl 9) ?_))
  intro W5 hW5 hbel5
  rw [splice_all _ _ (by rfl)] at hW5
  have hq45 : Q W4 W5 := hbel5 _ _ q6.size (Q.trans q6 (q_new _ _ _))
  have hq5 : Q W3 W5 := Q.trans hq4 hq45
  have hL5 : ∀ z, Q W5 z → (Instr.loadAt 37 (.pointer (some ⟨z6.heap.size, 0, none⟩))).run Tryz.prog z = .ok (.agg (claimA smC)) z := fun z hz => Wd.load (P := Tryz.prog) (ty := 37) hW5.lt (Blk.range hW5) Tryz.underlying37 rfl (by kernel_rfl) ⟨z, hz⟩
  have hvI := hvI.q hq45
  generalize z6.heap.size = g5 at *
  clear hW5 hbel5 e0 hq6 q6 hWo hq4 hq45
  go_upto_region 6 with (fail)
  refine wp_region_S (fun z => Q W5 z) (by kernel_rfl) (Q.refl _).drew ?_
  intro z hz
  refine held_read 0 (v := .agg (pollA p)) rfl (by kernel_rfl) (by kernel_rfl) (by kernel_rfl) (by intro c a d v w h; cases d <;> exact h) rfl hz (fun z hz => exec_load 25 (.tmp 2) _ _ rfl rfl (hLp3 z (Q.trans hq5 hz))) ?_
  try simp only [Act.put, List.setIfInBounds_toArray, List.set_cons_succ, List.set_cons_zero]
  refine held_pure 2 (v := .pointer (some ⟨gc, 0, none⟩)) rfl (by kernel_rfl) (by kernel_rfl) (by kernel_rfl) (by intro c a d v w h; cases d <;> exact h) rfl hz (fun w => by rfl) ?_
  try simp only [Act.put, List.setIfInBounds_toArray, List.set_cons_succ, List.set_cons_zero]
  refine held_read 3 (v := .string smA) rfl (by kernel_rfl) (by kernel_rfl) (by kernel_rfl) (by intro c a d v w h; cases d <;> exact h) rfl hz (fun z hz => exec_load 9 (.tmp 39) _ _ rfl rfl (hS3 z (Q.trans hq5 hz))) ?_
  try simp only [Act.put, List.setIfInBounds_toArray, List.set_cons_succ, List.set_cons_zero]
  refine held_fork 1 8 rfl rfl (by kernel_rfl) rfl rfl (fun K' hK' => ?_) (fun K' hK' => ?_)
  · go_simp
    refine (hM2 z (Q.trans hq5 hz)).mono ?_
    rintro e za ⟨k2, rfl, hs2, hl2, hK2, qa⟩
    have hqa := Q.trans hz qa
    refine hK' _ _ hqa ?_
    clear hK' K'
    try simp only [Act.put, List.setIfInBounds_toArray, List.set_cons_succ, List.set_cons_zero]
    refine held_fork 4 8 rfl rfl (by kernel_rfl) rfl rfl (fun K' hK' => ?_) (fun K' hK' => ?_)
    · go_simp
      refine (hW2' k2 za (Q.trans hq5 hqa) hK2 hs2 hl2).mono ?_
      rintro e zb ⟨⟨c2, rfl⟩, qb⟩
      have hqb := Q.trans hqa qb
      refine hK' _ _ hqb ?_
      clear hK' K'
      try simp only [Act.put, List.setIfInBounds_toArray, List.set_cons_succ, List.set_cons_zero]
      refine held_pure 5 (v := .tuple #[.agg (claimA c2), .bool false]) rfl (by kernel_rfl) (by kernel_rfl) (by kernel_rfl) (by intro c a d v w h; cases d <;> exact h) rfl hqb (fun w => by rfl) ?_
      try simp only [Act.put, List.setIfInBounds_toArray, List.set_cons_succ, List.set_cons_zero]
      refine held_pure 6 (v := .agg (claimA c2)) rfl (by kernel_rfl) (by kernel_rfl) (by kernel_rfl) (by intro c a d v w h; cases d <;> exact h) rfl hqb (fun w => by rfl) ?_
      try simp only [Act.put, List.setIfInBounds_toArray, List.set_cons_succ, List.set_cons_zero]
      refine held_pure 7 (v := .bool false) rfl (by kernel_rfl) (by kernel_rfl) (by kernel_rfl) (by intro c a d v w h; cases d <;> exact h) rfl hqb (fun w => by rfl) ?_
      try simp only [Act.put, List.setIfInBounds_toArray, List.set_cons_succ, List.set_cons_zero]
      refine held_one 8 rfl (by kernel_rfl) rfl (fun K' hK' => ?_)
      refine wp_alloc_run 37 (.pointer (some ⟨(zb).heap.size, 0, none⟩)) rfl (alloc_claim _) ?_
      have hbl := Blk.new (zb) 37 (claimA claim0)
      have hqn := q_new (zb) (claimA claim0) 37
      have hzs := (hqb).size
      have hql := Q.trans hqb hqn
      refine hK' _ _ hql ?_
      clear hK' K'
      try simp only [Act.put, List.setIfInBounds_toArray, List.set_cons_succ, List.set_cons_zero]
      refine held_one 9 rfl (by kernel_rfl) rfl (fun K' hK' => ?_)
      refine wp_store_mid 37 (.tmp 7) (.tmp 42) rfl zb.heap.size 0 c2.cells.toArray rfl rfl (by simpa using (hbl).there (Nat.le_refl 9)) (by kernel_rfl) (claim_all _) ?_
      have hqE5 : Q W5 ((zb.alloc (.cells (claimA claim0) 37)).setCells zb.heap.size 0 c2.cells) := below_setCells (by omega) c2.cells 0 _ _ hql
      refine hK' _ _ hqE5 ?_
      clear hK' K'
      try simp only [Act.put, List.setIfInBounds_toArray, List.set_cons_succ, List.set_cons_zero]
      refine held_pure 10 (v := .bool false) rfl (by kernel_rfl) (by kernel_rfl) (by kernel_rfl) (by intro c a d v w h; cases d <;> exact h) rfl hqE5 (fun w => by rfl) ?_
      try simp only [Act.put, List.setIfInBounds_toArray, List.set_cons_succ, List.set_cons_zero]
      refine wpAnyH_done (by kernel_rfl) ?_ _
      obtain ⟨W6, hW6⟩ : ∃ W6, W6 = (zb.alloc (.cells (claimA claim0) 37)).setCells zb.heap.size 0 c2.cells := ⟨_, rfl⟩
      rw [← hW6] at hqE5 ⊢
      have h6 := Q.trans hq5 hqE5
      have hvI6 := hvI.q hqE5
      have hL6 : ∀ z, Q W6 z → (Instr.loadAt 37 (.pointer (some ⟨g5, 0, none⟩))).run Tryz.prog z = .ok (.agg (claimA smC)) z := fun z hz => hL5 z (Q.trans hqE5 hz)
      clear hW6 hqE5 hqb hbl hqn hzs hql qa hqa qb hK2 hz hL5 hvI hM2 hW2' hLp3 hS3
      have f0 := hc03 _ h6
      go_upto_region 9 with (first | (refine wpList_load_run 31 (.tmp 3) (.pointer (some ⟨gk, 0, none⟩)) (.agg (knA k3)) ?_ ?_ ?_ ?_ ?_; rfl; rfl; rfl; exact hLk3 _ (by with_reducible assumption)) | (go_at_call 31; refine (hO3 _ h6).mono ?_; rintro e z7 ⟨rfl, q7⟩; have h7 := Q.trans h6 q7; have f1 := hc03 _ h7; clear hO3) | (go_at_call 31; refine (hO1 _ h7).mono ?_; rintro e z8 ⟨rfl, q8⟩; have h8 := Q.trans h7 q8))
      obtain ⟨b, o, eA, hb, hcv⟩ := (hvI6.q (Q.trans q7 q8)) (by decide)
      subst eA
      have n0 : z8.cell? ⟨b, o, none⟩ = some (.int .i64 0) := hcv 0 (by decide)
      have n1 : z8.cell? ⟨b, o + 1, none⟩ = some (.int .i64 2) := hcv 1 (by decide)
      have n2 : z8.cell? ⟨b, o + 2, none⟩ = some (.int .i64 3) := hcv 2 (by decide)
      have hL8 := hL6 z8 (Q.trans q7 q8)
      have hLc8 := hLc3 z8 h8
      have hD8 := hDg z8 h8
      have heq := eql_smC
      have q4 : quorumK 4 = 3 := by decide
      have q3 : quorumK 3 = 3 := by decide
      have q1 : quorumK 1 = 1 := by decide
      have q0 : quorumK 0 = 1 := by decide
      have q6' : quorumK 6 = 5 := by decide
      have HQ3' := Lib.hid (Q.trans HQ3.out h8)
      clear hcv hvI6 f0 f1 h6 h7 h8 q7 q8 hLc3 hc03 hLk3 hDg hO1 hL6
      go_wp2_with (first | (refine wpList_load_run 37 (.tmp 5) (.pointer (some ⟨g5, 0, none⟩)) (.agg (claimA smC)) ?_ ?_ ?_ ?_ ?_; rfl; rfl; rfl; exact hL8) | (refine wpList_load_run 37 (.tmp 1) (.pointer (some ⟨gc, 0, none⟩)) (.agg (claimA smC)) ?_ ?_ ?_ ?_ ?_; rfl; rfl; rfl; exact hLc8) | (go_at_call 15; refine hD8.mono ?_; rintro e z9 ⟨rfl, q9⟩; have HQ3' := Lib.hid (Q.trans HQ3'.out q9)) | (go_at_call 11; refine (quorum_at _ _ _ (by with_reducible first | exact q4 | exact q3 | exact q1 | exact q0 | exact q6') (by decide)).mono ?_; rintro e z9 ⟨rfl, q9⟩; have HQ3' := Lib.hid (Q.trans HQ3'.out q9)))
      go_ret
      exact ⟨rfl, HQ3'.out⟩
    · refine wp_alloc_run 37 (.pointer (some ⟨(za).heap.size, 0, none⟩)) rfl (alloc_claim _) ?_
      have hbl := Blk.new (za) 37 (claimA claim0)
      have hqn := q_new (za) (claimA claim0) 37
      have hzs := (hqa).size
      have hql := Q.trans hqa hqn
      refine hK' _ _ hql ?_
      clear hK' K'
      try simp only [Act.put, List.setIfInBounds_toArray, List.set_cons_succ, List.set_cons_zero]
      refine held_one 4 rfl (by kernel_rfl) rfl (fun K' hK' => ?_)
      go_simp
      refine (hW2' k2 (za.alloc (.cells (claimA claim0) 37)) (Q.trans hq5 hql) (hK2.q hqn) hs2 hl2).mono ?_
      rintro e zb ⟨⟨c2, rfl⟩, qb⟩
      have hqb := Q.trans hql qb
      refine hK' _ _ hqb ?_
      clear hK' K'
      try simp only [Act.put, List.setIfInBounds_toArray, List.set_cons_succ, List.set_cons_zero]
      refine held_pure 5 (v := .tuple #[.agg (claimA c2), .bool false]) rfl (by kernel_rfl) (by kernel_rfl) (by kernel_rfl) (by intro c a d v w h; cases d <;> exact h) rfl hqb (fun w => by rfl) ?_
      try simp only [Act.put, List.setIfInBounds_toArray, List.set_cons_succ, List.set_cons_zero]
      refine held_pure 6 (v := .agg (claimA c2)) rfl (by kernel_rfl) (by kernel_rfl) (by kernel_rfl) (by intro c a d v w h; cases d <;> exact h) rfl hqb (fun w => by rfl) ?_
      try simp only [Act.put, List.setIfInBounds_toArray, List.set_cons_succ, List.set_cons_zero]
      refine held_pure 7 (v := .bool false) rfl (by kernel_rfl) (by kernel_rfl) (by kernel_rfl) (by intro c a d v w h; cases d <;> exact h) rfl hqb (fun w => by rfl) ?_
      try simp only [Act.put, List.setIfInBounds_toArray, List.set_cons_succ, List.set_cons_zero]
      refine held_one 9 rfl (by kernel_rfl) rfl (fun K' hK' => ?_)
      refine wp_store_mid 37 (.tmp 7) (.tmp 42) rfl za.heap.size 0 c2.cells.toArray rfl rfl (by simpa using (hbl.q qb).there (Nat.le_refl 9)) (by kernel_rfl) (claim_all _) ?_
      have hqE5 : Q W5 ((zb).setCells za.heap.size 0 c2.cells) := below_setCells (by omega) c2.cells 0 _ _ hqb
      refine hK' _ _ hqE5 ?_
      clear hK' K'
      try simp only [Act.put, List.setIfInBounds_toArray, List.set_cons_succ, List.set_cons_zero]
      refine held_pure 10 (v := .bool false) rfl (by kernel_rfl) (by kernel_rfl) (by kernel_rfl) (by intro c a d v w h; cases d <;> exact h) rfl hqE5 (fun w => by rfl) ?_
      try simp only [Act.put, List.setIfInBounds_toArray, List.set_cons_succ, List.set_cons_zero]
      refine wpAnyH_done (by kernel_rfl) ?_ _
      obtain ⟨W6, hW6⟩ : ∃ W6, W6 = (zb).setCells za.heap.size 0 c2.cells := ⟨_, rfl⟩
      rw [← hW6] at hqE5 ⊢
      have h6 := Q.trans hq5 hqE5
      have hvI6 := hvI.q hqE5
      have hL6 : ∀ z, Q W6 z → (Instr.loadAt 37 (.pointer (some ⟨g5, 0, none⟩))).run Tryz.prog z = .ok (.agg (claimA smC)) z := fun z hz => hL5 z (Q.trans hqE5 hz)
      clear hW6 hqE5 hqb hbl hqn hzs hql qa hqa qb hK2 hz hL5 hvI hM2 hW2' hLp3 hS3
      have f0 := hc03 _ h6
      go_upto_region 9 with (first | (refine wpList_load_run 31 (.tmp 3) (.pointer (some ⟨gk, 0, none⟩)) (.agg (knA k3)) ?_ ?_ ?_ ?_ ?_; rfl; rfl; rfl; exact hLk3 _ (by with_reducible assumption)) | (go_at_call 31; refine (hO3 _ h6).mono ?_; rintro e z7 ⟨rfl, q7⟩; have h7 := Q.trans h6 q7; have f1 := hc03 _ h7; clear hO3) | (go_at_call 31; refine (hO1 _ h7).mono ?_; rintro e z8 ⟨rfl, q8⟩; have h8 := Q.trans h7 q8))
      obtain ⟨b, o, eA, hb, hcv⟩ := (hvI6.q (Q.trans q7 q8)) (by decide)
      subst eA
      have n0 : z8.cell? ⟨b, o, none⟩ = some (.int .i64 0) := hcv 0 (by decide)
      have n1 : z8.cell? ⟨b, o + 1, none⟩ = some (.int .i64 2) := hcv 1 (by decide)
      have n2 : z8.cell? ⟨b, o + 2, none⟩ = some (.int .i64 3) := hcv 2 (by decide)
      have hL8 := hL6 z8 (Q.trans q7 q8)
      have hLc8 := hLc3 z8 h8
      have hD8 := hDg z8 h8
      have heq := eql_smC
      have q4 : quorumK 4 = 3 := by decide
      have q3 : quorumK 3 = 3 := by decide
      have q1 : quorumK 1 = 1 := by decide
      have q0 : quorumK 0 = 1 := by decide
      have q6' : quorumK 6 = 5 := by decide
      have HQ3' := Lib.hid (Q.trans HQ3.out h8)
      clear hcv hvI6 f0 f1 h6 h7 h8 q7 q8 hLc3 hc03 hLk3 hDg hO1 hL6
      go_wp2_with (first | (refine wpList_load_run 37 (.tmp 5) (.pointer (some ⟨g5, 0, none⟩)) (.agg (claimA smC)) ?_ ?_ ?_ ?_ ?_; rfl; rfl; rfl; exact hL8) | (refine wpList_load_run 37 (.tmp 1) (.pointer (some ⟨gc, 0, none⟩)) (.agg (claimA smC)) ?_ ?_ ?_ ?_ ?_; rfl; rfl; rfl; exact hLc8) | (go_at_call 15; refine hD8.mono ?_; rintro e z9 ⟨rfl, q9⟩; have HQ3' := Lib.hid (Q.trans HQ3'.out q9)) | (go_at_call 11; refine (quorum_at _ _ _ (by with_reducible first | exact q4 | exact q3 | exact q1 | exact q0 | exact q6') (by decide)).mono ?_; rintro e z9 ⟨rfl, q9⟩; have HQ3' := Lib.hid (Q.trans HQ3'.out q9)))
      go_ret
      exact ⟨rfl, HQ3'.out⟩
  · refine wp_alloc_run 37 (.pointer (some ⟨(z).heap.size, 0, none⟩)) rfl (alloc_claim _) ?_
    have hbl := Blk.new (z) 37 (claimA claim0)
    have hqn := q_new (z) (claimA claim0) 37
    have hzs := (hz).size
    have hql := Q.trans hz hqn
    refine hK' _ _ hql ?_
    clear hK' K'
    try simp only [Act.put, List.setIfInBounds_toArray, List.set_cons_succ, List.set_cons_zero]
    refine held_one 1 rfl (by kernel_rfl) rfl (fun K' hK' => ?_)
    go_simp
    refine (hM2 (z.alloc (.cells (claimA claim0) 37)) (Q.trans hq5 hql)).mono ?_
    rintro e za ⟨k2, rfl, hs2, hl2, hK2, qa⟩
    have hqa := Q.trans hql qa
    refine hK' _ _ hqa ?_
    clear hK' K'
    try simp only [Act.put, List.setIfInBounds_toArray, List.set_cons_succ, List.set_cons_zero]
    refine held_one 4 rfl (by kernel_rfl) rfl (fun K' hK' => ?_)
    go_simp
    refine (hW2' k2 za (Q.trans hq5 hqa) hK2 hs2 hl2).mono ?_
    rintro e zb ⟨⟨c2, rfl⟩, qb⟩
    have hqb := Q.trans hqa qb
    refine hK' _ _ hqb ?_
    clear hK' K'
    try simp only [Act.put, List.setIfInBounds_toArray, List.set_cons_succ, List.set_cons_zero]
    refine held_pure 5 (v := .tuple #[.agg (claimA c2), .bool false]) rfl (by kernel_rfl) (by kernel_rfl) (by kernel_rfl) (by intro c a d v w h; cases d <;> exact h) rfl hqb (fun w => by rfl) ?_
    try simp only [Act.put, List.setIfInBounds_toArray, List.set_cons_succ, List.set_cons_zero]
    refine held_pure 6 (v := .agg (claimA c2)) rfl (by kernel_rfl) (by kernel_rfl) (by kernel_rfl) (by intro c a d v w h; cases d <;> exact h) rfl hqb (fun w => by rfl) ?_
    try simp only [Act.put, List.setIfInBounds_toArray, List.set_cons_succ, List.set_cons_zero]
    refine held_pure 7 (v := .bool false) rfl (by kernel_rfl) (by kernel_rfl) (by kernel_rfl) (by intro c a d v w h; cases d <;> exact h) rfl hqb (fun w => by rfl) ?_
    try simp only [Act.put, List.setIfInBounds_toArray, List.set_cons_succ, List.set_cons_zero]
    refine held_one 9 rfl (by kernel_rfl) rfl (fun K' hK' => ?_)
    refine wp_store_mid 37 (.tmp 7) (.tmp 42) rfl z.heap.size 0 c2.cells.toArray rfl rfl (by simpa using ((hbl.q qa).q qb).there (Nat.le_refl 9)) (by kernel_rfl) (claim_all _) ?_
    have hqE5 : Q W5 ((zb).setCells z.heap.size 0 c2.cells) := below_setCells (by omega) c2.cells 0 _ _ hqb
    refine hK' _ _ hqE5 ?_
    clear hK' K'
    try simp only [Act.put, List.setIfInBounds_toArray, List.set_cons_succ, List.set_cons_zero]
    refine held_pure 10 (v := .bool false) rfl (by kernel_rfl) (by kernel_rfl) (by kernel_rfl) (by intro c a d v w h; cases d <;> exact h) rfl hqE5 (fun w => by rfl) ?_
    try simp only [Act.put, List.setIfInBounds_toArray, List.set_cons_succ, List.set_cons_zero]
    refine wpAnyH_done (by kernel_rfl) ?_ _
    obtain ⟨W6, hW6⟩ : ∃ W6, W6 = (zb).setCells z.heap.size 0 c2.cells := ⟨_, rfl⟩
    rw [← hW6] at hqE5 ⊢
    have h6 := Q.trans hq5 hqE5
    have hvI6 := hvI.q hqE5
    have hL6 : ∀ z, Q W6 z → (Instr.loadAt 37 (.pointer (some ⟨g5, 0, none⟩))).run Tryz.prog z = .ok (.agg (claimA smC)) z := fun z hz => hL5 z (Q.trans hqE5 hz)
    clear hW6 hqE5 hqb hbl hqn hzs hql qa hqa qb hK2 hz hL5 hvI hM2 hW2' hLp3 hS3
    have f0 := hc03 _ h6
    go_upto_region 9 with (first | (refine wpList_load_run 31 (.tmp 3) (.pointer (some ⟨gk, 0, none⟩)) (.agg (knA k3)) ?_ ?_ ?_ ?_ ?_; rfl; rfl; rfl; exact hLk3 _ (by with_reducible assumption)) | (go_at_call 31; refine (hO3 _ h6).mono ?_; rintro e z7 ⟨rfl, q7⟩; have h7 := Q.trans h6 q7; have f1 := hc03 _ h7; clear hO3) | (go_at_call 31; refine (hO1 _ h7).mono ?_; rintro e z8 ⟨rfl, q8⟩; have h8 := Q.trans h7 q8))
    obtain ⟨b, o, eA, hb, hcv⟩ := (hvI6.q (Q.trans q7 q8)) (by decide)
    subst eA
    have n0 : z8.cell? ⟨b, o, none⟩ = some (.int .i64 0) := hcv 0 (by decide)
    have n1 : z8.cell? ⟨b, o + 1, none⟩ = some (.int .i64 2) := hcv 1 (by decide)
    have n2 : z8.cell? ⟨b, o + 2, none⟩ = some (.int .i64 3) := hcv 2 (by decide)
    have hL8 := hL6 z8 (Q.trans q7 q8)
    have hLc8 := hLc3 z8 h8
    have hD8 := hDg z8 h8
    have heq := eql_smC
    have q4 : quorumK 4 = 3 := by decide
    have q3 : quorumK 3 = 3 := by decide
    have q1 : quorumK 1 = 1 := by decide
    have q0 : quorumK 0 = 1 := by decide
    have q6' : quorumK 6 = 5 := by decide
    have HQ3' := Lib.hid (Q.trans HQ3.out h8)
    clear hcv hvI6 f0 f1 h6 h7 h8 q7 q8 hLc3 hc03 hLk3 hDg hO1 hL6
    go_wp2_with (first | (refine wpList_load_run 37 (.tmp 5) (.pointer (some ⟨g5, 0, none⟩)) (.agg (claimA smC)) ?_ ?_ ?_ ?_ ?_; rfl; rfl; rfl; exact hL8) | (refine wpList_load_run 37 (.tmp 1) (.pointer (some ⟨gc, 0, none⟩)) (.agg (claimA smC)) ?_ ?_ ?_ ?_ ?_; rfl; rfl; rfl; exact hLc8) | (go_at_call 15; refine hD8.mono ?_; rintro e z9 ⟨rfl, q9⟩; have HQ3' := Lib.hid (Q.trans HQ3'.out q9)) | (go_at_call 11; refine (quorum_at _ _ _ (by with_reducible first | exact q4 | exact q3 | exact q1 | exact q0 | exact q6') (by decide)).mono ?_; rintro e z9 ⟨rfl, q9⟩; have HQ3' := Lib.hid (Q.trans HQ3'.out q9)))
    go_ret
    exact ⟨rfl, HQ3'.out⟩
end Go.Proofs.YtflgkplneekpfaaGreatDoor.Vot

namespace Go.Proofs.YtflgkplneekpfaaGreatDoor.Vot
open _root_.Go.Proofs.YtflgkplneekpfaaGreatDoor.Code Sha Sign _root_.Go.Proofs.YtflgkplneekpfaaGreatDoor.Item _root_.Go.Proofs.YtflgkplneekpfaaGreatDoor.Known

/-! ### In how many pairs two lists meet -/
def cntK (w : List Int) (a : Int) : Nat := (w.filter fun b => decide (a = b)).length
def bothK (v w : List Int) : Nat := (v.map (cntK w)).sum
theorem cntK_step (w : List Int) (a : Int) (y : Nat) (h : y < w.length) : cntK (w.take (y + 1)) a = cntK (w.take y) a + if a = w[y] then 1 else 0 := by
  unfold cntK
  rw [List.take_succ_eq_append_getElem h, List.filter_append, List.length_append]
  congr 1
  by_cases e : a = w[y] <;> simp [List.filter, e]
theorem bothK_step (v w : List Int) (x : Nat) (h : x < v.length) : bothK (v.take (x + 1)) w = bothK (v.take x) w + cntK w v[x] := by
  unfold bothK
  rw [List.take_succ_eq_append_getElem h, List.map_append, List.sum_append]
  simp
theorem cntK_le (w : List Int) (a : Int) : cntK w a ≤ w.length := List.length_filter_le _ _
theorem bothK_le : ∀ (v w : List Int), bothK v w ≤ v.length * w.length
  | [], w => by simp [bothK]
  | a :: r, w => by
    have ih := bothK_le r w
    have h := cntK_le w a
    unfold bothK at ih ⊢
    rw [List.map_cons, List.sum_cons, List.length_cons, Nat.add_mul, Nat.one_mul]
    omega
theorem cntK_asc : ∀ (w : List Int) (a : Int), w.Pairwise (· < ·) → cntK w a = if a ∈ w then 1 else 0
  | [], a, _ => rfl
  | b :: r, a, h => by
    obtain ⟨h1, h2⟩ := List.pairwise_cons.1 h
    have ih := cntK_asc r a h2
    unfold cntK at ih ⊢
    by_cases e : a = b
    · subst e
      have hn : a ∉ r := fun hm => by have := h1 a hm; omega
      rw [if_neg hn] at ih
      rw [List.filter_cons_of_pos (by simp), List.length_cons, ih, if_pos (List.mem_cons_self ..)]
    · rw [List.filter_cons_of_neg (by simpa using e), ih]
      have : a ∈ b :: r ↔ a ∈ r := by rw [List.mem_cons]; exact ⟨fun h => h.resolve_left e, .inr⟩
      simp only [this]
theorem bothK_filter (w : List Int) (hw : w.Pairwise (· < ·)) : ∀ v : List Int, bothK v w = (v.filter fun a => decide (a ∈ w)).length
  | [] => rfl
  | a :: r => by
    have ih := bothK_filter w hw r
    unfold bothK at ih ⊢
    rw [List.map_cons, List.sum_cons, ih, cntK_asc w a hw]
    by_cases e : a ∈ w
    · rw [if_pos e, List.filter_cons_of_pos (by simpa using e), List.length_cons]
      omega
    · rw [if_neg e, List.filter_cons_of_neg (by simpa using e)]
      omega
theorem len_range (m : Nat) (v : List Int) (hv : v.Pairwise (· < ·)) (hm : ∀ x ∈ v, 0 ≤ x ∧ x < m) : v.length = ((List.range m).filter fun s : Nat => decide ((s : Int) ∈ v)).length := by
  have h : v = ((List.range m).filter fun s : Nat => decide ((s : Int) ∈ v)).map fun s : Nat => (s : Int) := by
    refine asc_unique _ _ hv ?_ fun d => ?_
    · rw [List.pairwise_map]
      refine List.Pairwise.filter _ ?_
      exact List.Pairwise.imp (fun h => by omega) List.pairwise_lt_range
    · rw [List.mem_map]
      constructor
      · intro hd
        obtain ⟨h1, h2⟩ := hm d hd
        refine ⟨d.toNat, ?_, by omega⟩
        rw [List.mem_filter, List.mem_range, decide_eq_true_eq]
        exact ⟨by omega, by rw [Int.toNat_of_nonneg h1]; exact hd⟩
      · rintro ⟨s, h1, rfl⟩
        rw [List.mem_filter, decide_eq_true_eq] at h1
        exact h1.2
  have h2 := congrArg List.length h
  rwa [List.length_map] at h2
theorem filter_two {α : Type} (p q : α → Bool) : ∀ l : List α, (l.filter p).length + (l.filter q).length ≤ l.length + (l.filter fun x => p x && q x).length
  | [] => by simp
  | a :: l => by
    have ih := filter_two p q l
    cases hp : p a <;> cases hq : q a <;> simp only [List.filter, hp, hq, Bool.and_true, Bool.and_false, List.length_cons] <;> omega
theorem overlap (m : Nat) (v w : List Int) (hv : v.Pairwise (· < ·)) (hw : w.Pairwise (· < ·)) (hvm : ∀ x ∈ v, 0 ≤ x ∧ x < m) (hwm : ∀ x ∈ w, 0 ≤ x ∧ x < m) : v.length + w.length ≤ m + bothK v w := by
  rw [bothK_filter w hw, len_range m v hv hvm, len_range m w hw hwm]
  have h3 := len_range m (v.filter fun a => decide (a ∈ w)) (hv.filter _) (fun x hx => hvm x (List.mem_filter.1 hx).1)
  rw [h3]
  have h := filter_two (fun s : Nat => decide ((s : Int) ∈ v)) (fun s : Nat => decide ((s : Int) ∈ w)) (List.range m)
  rw [List.length_range] at h
  have e : (List.range m).filter (fun s : Nat => decide ((s : Int) ∈ v.filter fun a => decide (a ∈ w))) = (List.range m).filter fun s : Nat => decide ((s : Int) ∈ v) && decide ((s : Int) ∈ w) := by
    refine List.filter_congr fun s _ => ?_
    rw [Bool.eq_iff_iff, Bool.and_eq_true, decide_eq_true_eq, decide_eq_true_eq, decide_eq_true_eq, List.mem_filter, decide_eq_true_eq]
  rw [e]
  exact h
theorem quorum_bd (m : Int) (h0 : 1 ≤ m) : 2 * m < 3 * quorumK m ∧ 3 * (quorumK m - 1) ≤ 2 * m ∧ m < 3 * (2 * quorumK m - m) := by
  unfold quorumK
  rw [if_neg (by omega)]
  omega

/-! ### A list within another, greedily -/
def greStep (v : List Int) (a : Nat) (x : Int) : Nat := if v[a]? = some x then a + 1 else a
def greK (v w : List Int) : Nat := w.foldl (greStep v) 0
theorem gre_all (v : List Int) (hv : v.Pairwise (· < ·)) : ∀ (w : List Int) (a : Nat), w.Pairwise (· < ·) → a ≤ v.length → (∀ i (h : i < v.length), a ≤ i → v[i] ∈ w) → w.foldl (greStep v) a = v.length
  | [], a, _, ha, hm => by
    rw [List.foldl_nil]
    rcases Nat.lt_or_ge a v.length with h | h
    · have := hm a h (Nat.le_refl _)
      cases this
    · omega
  | x :: r, a, hw, ha, hm => by
    obtain ⟨h1, h2⟩ := List.pairwise_cons.1 hw
    rw [List.foldl_cons]
    rcases Nat.lt_or_ge a v.length with h | h
    · by_cases e : v[a] = x
      · have hs : greStep v a x = a + 1 := by unfold greStep; rw [List.getElem?_eq_getElem h, e, if_pos rfl]
        rw [hs]
        refine gre_all v hv r (a + 1) h2 (by omega) fun i hi hai => ?_
        rcases List.mem_cons.1 (hm i hi (by omega)) with h3 | h3
        · have := List.pairwise_iff_getElem.1 hv a i h hi (by omega)
          omega
        · exact h3
      · have hs : greStep v a x = a := by
          unfold greStep
          rw [List.getElem?_eq_getElem h, if_neg (fun hh => e (by injection hh))]
        rw [hs]
        have hax : v[a] ∈ r := (List.mem_cons.1 (hm a h (Nat.le_refl _))).resolve_left e
        have hlt := h1 _ hax
        refine gre_all v hv r a h2 ha fun i hi hai => ?_
        rcases List.mem_cons.1 (hm i hi hai) with h3 | h3
        · rcases Nat.lt_or_ge a i with h4 | h4
          · have := List.pairwise_iff_getElem.1 hv a i h hi h4
            omega
          · have : a = i := by omega
            subst this
            exact absurd h3 e
        · exact h3
    · have hs : greStep v a x = a := by
        unfold greStep
        rw [List.getElem?_eq_none h, if_neg (by simp)]
      rw [hs]
      exact gre_all v hv r a h2 ha fun i hi hai => by omega
theorem gre_sub (v w : List Int) (hv : v.Pairwise (· < ·)) (hw : w.Pairwise (· < ·)) (h : ∀ x ∈ v, x ∈ w) : greK v w = v.length :=
  gre_all v hv w 0 hw (Nat.zero_le _) fun i hi _ => h _ (List.getElem_mem hi)
theorem gre_full (v : List Int) : ∀ (w : List Int), w.foldl (greStep v) v.length = v.length
  | [] => rfl
  | x :: r => by
    rw [List.foldl_cons, show greStep v v.length x = v.length by unfold greStep; rw [List.getElem?_eq_none (Nat.le_refl _), if_neg (by simp)]]
    exact gre_full v r
theorem gre_split (v w : List Int) (j : Nat) : greK v w = (w.drop j).foldl (greStep v) (greK v (w.take j)) := by
  unfold greK
  rw [← List.foldl_append, List.take_append_drop]
theorem gre_step (v w : List Int) (j : Nat) (h : j < w.length) : greK v (w.take (j + 1)) = greStep v (greK v (w.take j)) w[j] := by
  unfold greK
  rw [List.take_succ_eq_append_getElem h, List.foldl_append]
  rfl
end Go.Proofs.YtflgkplneekpfaaGreatDoor.Vot
