/-
  The law BallotOverlaps, walked.
  The statement BallotOverlaps holds. The tables of package sum hold what the text lays.
-/
import Derived.Test.YtflgkplneekpfaaGreatDoorMgVb
import Derived.Test.YtflgkplneekpfaaGreatDoorMgVc
import Derived.Test.YtflgkplneekpfaaGreatDoorOpenItem
import Derived.ChangeMaps5
import Derived.SizedLaws
set_option linter.unusedVariables false
set_option linter.unusedSimpArgs false
namespace Go.Proofs.YtflgkplneekpfaaGreatDoor.Vot
open Go.RowKit Grp Mem _root_.Go.Proofs.YtflgkplneekpfaaGreatDoor.Code Sha Sign _root_.Go.Proofs.YtflgkplneekpfaaGreatDoor.Item _root_.Go.Proofs.YtflgkplneekpfaaGreatDoor.Known Rng

/-- The voters of a poll are servers of the poll. -/
theorem voters_bd (p : PollR) (n : Nat) (claim actor : ByteArray) (gen : Int) : ∀ x ∈ votersK claim (ballotsS actor gen (setV p n)), 0 ≤ x ∧ x < (p.many.toNat : Int) := by
  intro x hx
  obtain ⟨b, hb, -, rfl⟩ := (voters_mem _ _ _).1 hx
  unfold ballotsS takeB at hb
  rw [List.map_map, List.mem_map] at hb
  obtain ⟨it, hit, rfl⟩ := hb
  rw [List.mem_filter, Bool.and_eq_true] at hit
  obtain ⟨hm, hw, hr⟩ := hit
  have hk : it.kind = 2 := by
    unfold wantB at hw
    rw [Bool.and_eq_true] at hw
    exact of_decide_eq_true hw.1
  have hs := (setV_filled p n).all it hm
  unfold signedB at hs
  rw [Bool.and_eq_true, if_pos hk, Bool.and_eq_true] at hs
  have h1 := of_decide_eq_true hs.2.1
  rw [pubs_len] at h1
  unfold itemRight at hr
  rw [if_neg (by omega), if_neg (by omega), if_pos hk, Bool.and_eq_true] at hr
  have h2 := hr.1
  unfold ballotRight withinB at h2
  simp only [Bool.and_eq_true, decide_eq_true_eq] at h2
  exact ⟨h2.1.1, h1⟩
/-- The list that a claim's voters are. -/
def votP (p : PollR) (n : Nat) (c : ClaimV) : List Int := votersK (digC c) (ballotsS c.actor c.gen (setV p n))
theorem votP_asc (p : PollR) (n : Nat) (c : ClaimV) : (votP p n c).Pairwise (· < ·) := voters_asc _ _
theorem votP_le (p : PollR) (n : Nat) (c : ClaimV) (hv : Valid p) : (votP p n c).length ≤ 1000 := by
  have h := voters_le (digC c) (ballotsS c.actor c.gen (setV p n))
  unfold votP
  refine Nat.le_trans h ?_
  unfold ballotsS
  rw [List.length_map]
  have := takeB_le c.actor c.gen (setV p n) (setV p n).length
  rw [List.take_length] at this
  have h2 := setV_len p n
  have h3 := hv.c5
  have h4 := hv.v24
  omega

set_option maxRecDepth 100000 in
set_option maxHeartbeats 16000000 in
theorem overlaps_any (p : PollR) (w : World) (hT : Tab w) (hP : PollIn w p) (hb : ∀ c ∈ p.claims, c.actor.size ≤ 140737488351232 ∧ c.gen ≤ 9223372036854775807) :
    Calls Tryz.prog 3 #[.agg (pollA p)] w fun e w' => e = .returned (.bool true) ∧ Q w w' := by
  obtain ⟨w1, x, hx, hq1, hbk⟩ := boxedB w 25 p.cells
  have hx : w.alloc (.cells (pollA p) 25) = x.w := hx
  have hLp : ∀ y : Wd w1, (Instr.loadAt 25 (.pointer (some ⟨w.heap.size, 0, none⟩))).run Tryz.prog y.w = .ok (.agg (pollA p)) y.w := Wd.load hbk.lt (Blk.range hbk) Tryz.underlying25 rfl (by kernel_rfl)
  have c1 : ∀ y : Wd w1, y.w.cell? ⟨w.heap.size, 1, none⟩ = some (.int .i64 p.many) := fun y => (y.blk hbk).cell 1
  have c2 : ∀ y : Wd w1, y.w.cell? ⟨w.heap.size, 2, none⟩ = some (.slice p.clA p.claims.length p.clC) := fun y => (y.blk hbk).cell 2
  have c3 : ∀ y : Wd w1, y.w.cell? ⟨w.heap.size, 3, none⟩ = some (.slice p.vA p.votes.length p.vC) := fun y => (y.blk hbk).cell 3
  have hPy : ∀ y : Wd w1, PollIn y.w p := fun y => hP.q (Q.trans hq1 y.q)
  have hTy : ∀ y : Wd w1, Tab y.w := fun y => hT.q (Q.trans hq1 y.q)
  have hSm := fun y : Wd w1 => small18_any y.w (hTy y)
  have HQ := Lib.hid hq1
  clear hbk hq1
  by_cases hv : Valid p
  rotate_left
  · have hVa := fun y : Wd w1 => valid_no p y.w (hPy y) hv
    clear hv hb hPy hTy c1 c2 c3
    go_enter Tryz.func3, Tryz.ntmps3
    go_wp2_with (first | (go_at_call 8; refine (hSm _).mono ?_; rintro e w' ⟨rfl, hq2⟩; obtain ⟨y, rfl⟩ := Wd.next _ hq2; clear hq2) | (refine wpList_load_run 25 (.tmp 1) (.pointer (some ⟨w.heap.size, 0, none⟩)) (.agg (pollA p)) ?_ ?_ ?_ ?_ ?_; rfl; rfl; rfl; exact hLp _) | (go_at_call 9; refine (hVa _).mono ?_; rintro e w' ⟨rfl, hq2⟩; obtain ⟨y2, rfl⟩ := Wd.next _ hq2; clear hq2))
    go_ret
    exact ⟨rfl, Q.trans HQ.out y2.q⟩
  have hVa := fun y : Wd w1 => valid_yes p y.w (hPy y) hv
  have hMa := fun y : Wd w1 => made_any p (p.votes.length : Int) y.w (hTy y) (hPy y) hv (by omega) (by have := hv.v24; omega) hb
  have hQu := fun y : Wd w1 => quorum_any p.many y.w (by have := hv.m7; omega)
  have hqb := quorum_bd p.many hv.m1
  have hbd := fun c => voters_bd p p.votes.length (digC c) c.actor c.gen
  have hov : ∀ a b : ClaimV, (votP p p.votes.length a).length + (votP p p.votes.length b).length ≤ p.many.toNat + bothK (votP p p.votes.length a) (votP p p.votes.length b) := fun a b => overlap p.many.toNat _ _ (votP_asc _ _ _) (votP_asc _ _ _) (hbd a) (hbd b)
  have hle := fun c => votP_le p p.votes.length c hv
  have hc5 := hv.c5
  have hm17 : 1 ≤ p.many ∧ p.many ≤ 7 := ⟨hv.m1, hv.m7⟩
  have hql : 1 ≤ quorumK p.many ∧ quorumK p.many ≤ 100 := by omega
  have hasc := (setV_filled p p.votes.length).asc
  have hsl : (setV p p.votes.length).length ≤ 1000 := by have h1 := setV_len p p.votes.length; have h2 := hv.c5; have h3 := hv.v24; omega
  have hsv7 : (pubs p.seed p.many.toNat).length ≤ 1000000 := by rw [pubs_len]; omega
  clear hb
  go_enter Tryz.func3, Tryz.ntmps3
  go_wp2_with (first | (go_at_call 8; refine (hSm _).mono ?_; rintro e w' ⟨rfl, hq2⟩; obtain ⟨y, rfl⟩ := Wd.next _ hq2; clear hq2) | (refine wpList_load_run 25 (.tmp 1) (.pointer (some ⟨w.heap.size, 0, none⟩)) (.agg (pollA p)) ?_ ?_ ?_ ?_ ?_; rfl; rfl; rfl; exact hLp _) | (go_at_call 9; refine (hVa _).mono ?_; rintro e w' ⟨rfl, hq2⟩; obtain ⟨y2, rfl⟩ := Wd.next _ hq2; clear hq2) | (go_at_call 10; refine (hMa _).mono ?_; rintro e w' ⟨k, rfl, hks, hkl, hkK, hq2⟩; obtain ⟨y3, rfl⟩ := Wd.next _ hq2; clear hq2) | (refine wpList_store_blk (Blk.new y3.w 31 known0.cells.toArray) rfl 31 (.tmp 4) (.tmp 24) k.cells rfl rfl rfl (by kernel_rfl) (kn_all _) (Nat.le_refl 2) ?_))
  intro W2 hW2 hbel2
  rw [splice_all _ _ (by rfl)] at hW2
  have hq2 : Q w1 W2 := hbel2 _ _ y3.q.size (Q.trans y3.q (q_new _ _ _))
  have hK2 : KIn W2 k := hkK.q (hbel2 _ _ (Nat.le_refl _) (q_new _ _ _))
  have hLk : ∀ z, Q W2 z → (Instr.loadAt 31 (.pointer (some ⟨y3.w.heap.size, 0, none⟩))).run Tryz.prog z = .ok (.agg (knA k)) z := fun z hz => Wd.load (P := Tryz.prog) (ty := 31) hW2.lt (Blk.range hW2) Tryz.underlying31 rfl (by kernel_rfl) ⟨z, hz⟩
  rw [show ((p.votes.length : Int)).toNat = p.votes.length from rfl] at hkl
  have hT2 : ∀ z, Q W2 z → Tab z := fun z hz => hTy ⟨z, Q.trans hq2 hz⟩
  have hVo : ∀ (c : ClaimV) (z : World), Q W2 z → Calls Tryz.prog 14 #[.agg (knA k), .string (digC c), .string c.actor, .int .i64 c.gen] z (VotersAre (votP p p.votes.length c) z) := fun c z hz => by
    have := voters_any k (digC c) c.actor c.gen z (hT2 z hz) (hK2.q hz) (by rw [hkl]; exact hsl) (sortB_of (by rw [hkl]; exact hasc) _ _)
    rwa [hkl] at this
  have hDg : ∀ (c : ClaimV) (z : World), Q W2 z → Calls Tryz.prog 15 #[.agg (claimA c)] z fun e w' => e = .returned (.string (digC c)) ∧ Q z w' := fun c z hz => digestC_any c z (hT2 z hz)
  have hCl : ∀ z, Q W2 z → RowsAt z p.clA 9 ClaimV.cells p.claims := fun z hz => (hPy ⟨z, Q.trans hq2 hz⟩).cl
  have d1 : ∀ y : Wd W2, y.w.cell? ⟨w.heap.size, 1, none⟩ = some (.int .i64 p.many) := fun y => c1 ⟨y.w, Q.trans hq2 y.q⟩
  have d2 : ∀ y : Wd W2, y.w.cell? ⟨w.heap.size, 2, none⟩ = some (.slice p.clA p.claims.length p.clC) := fun y => c2 ⟨y.w, Q.trans hq2 y.q⟩
  have hQu2 := fun y : Wd W2 => hQu ⟨y.w, Q.trans hq2 y.q⟩
  dsimp only at hQu2
  have HQ2 := Lib.hid (Q.trans HQ.out hq2)
  obtain ⟨v, hv2⟩ := Wd.first W2
  rw [hv2]
  have hgk := hW2.lt
  generalize y3.w.heap.size = gk at *
  clear hbel2 hW2 hq2 hv2 hkK hks hkl hVa hMa hSm hLp hPy hTy hQu c1 c2 c3 hasc hsl hsv7 hK2 hv hT2 hx
  go_upto_region 6 with (go_at_call 11; refine (hQu2 _).mono ?_; rintro e w' ⟨rfl, hq3⟩; obtain ⟨v2, rfl⟩ := Wd.next _ hq3; clear hq3)
  obtain ⟨qq, hqq⟩ : ∃ qq, quorumK p.many = qq := ⟨_, rfl⟩
  rw [hqq] at hqb hql
  rw [hqq]
  have e1 := d1 v2
  have i1 : ¬ (3 * qq ≤ 2 * p.many) := by omega
  have i2 : ¬ (3 * (qq - 1) > 2 * p.many) := by omega
  have i3 : ¬ (3 * (2 * qq - p.many) ≤ p.many) := by omega
  clear hQu2
  generalize hVV : votP p p.votes.length = V at *
  clear hbd hVV e1
  go_wp2_with fail
  go_loopw [6] (fun i wr => ∃ (j : Nat) (z : Wd W2), i = .int .i64 j ∧ wr = z.w ∧ j ≤ p.claims.length) (fun i _ => p.claims.length - (intOf i).toNat)
  case atStart => exact ⟨0, v2, rfl, rfl, Nat.zero_le _⟩
  case round =>
    obtain ⟨j, z0, rfl, rfl, hj⟩ := hrel
    have d20 := d2 z0
    by_cases hlt : j < p.claims.length
    · have hjI : (j : Int) < (p.claims.length : Int) := by omega
      go_wp2_with fail
      clear d20
      go_loopw [7] (fun i wr => ∃ (t : Nat) (z : Wd W2), i = .int .i64 t ∧ wr = z.w ∧ t ≤ j) (fun i _ => j - (intOf i).toNat)
      case atStart => exact ⟨0, z0, rfl, rfl, Nat.zero_le _⟩
      case round =>
        obtain ⟨t, z1, rfl, rfl, ht⟩ := hrel
        by_cases htl : t < j
        · have htI : (t : Int) < (j : Int) := by omega
          obtain ⟨b, o, eA, hb0, hcs⟩ := hCl z1.w z1.q (by omega)
          have hl1 : ∀ y : Wd z1.w, (Instr.loadAt 37 (.pointer (some ⟨b, o + j * 9, none⟩))).run Tryz.prog y.w = .ok (.agg (claimA p.claims[j])) y.w := Wd.load hb0 (hcs j hlt) Tryz.underlying37 rfl (by kernel_rfl)
          have hl2 : ∀ y : Wd z1.w, (Instr.loadAt 37 (.pointer (some ⟨b, o + t * 9, none⟩))).run Tryz.prog y.w = .ok (.agg (claimA (p.claims[t]'(by omega)))) y.w := Wd.load hb0 (hcs t (by omega)) Tryz.underlying37 rfl (by kernel_rfl)
          have d2z : ∀ y : Wd z1.w, y.w.cell? ⟨w.heap.size, 2, none⟩ = some (.slice (some ⟨b, o, none⟩) p.claims.length p.clC) := fun y => eA ▸ d2 ⟨y.w, Q.trans z1.q y.q⟩
          have hz1 := z1.q.size
          clear hcs eA d2
          generalize p.claims[j] = ca at *
          generalize (p.claims[t]'(by omega)) = cb at *
          generalize hncl : p.claims.length = ncl at *
          have d2a := d2z ⟨z1.w, Q.refl _⟩
          dsimp only at d2a
          go_wp2_with (first | (refine wpList_load_run 37 (.tmp 69) (.pointer (some ⟨b, o + j * 9, none⟩)) (.agg (claimA ca)) ?_ ?_ ?_ ?_ ?_; rfl; rfl; rfl; exact hl1 ⟨_, Q.refl _⟩) | (refine wpList_store_blk (Blk.new z1.w 37 claim0.cells.toArray) rfl 37 (.tmp 8) (.tmp 70) ca.cells rfl rfl rfl (by kernel_rfl) (claim_all _) (Nat.le_refl 9) ?_))
          intro W3 hW3 hbel3
          rw [splice_all _ _ (by rfl)] at hW3
          have hq3 : Q z1.w W3 := hbel3 _ _ (Nat.le_refl _) (q_new _ _ _)
          have d2b := d2z ⟨W3, hq3⟩
          have hl2' := hl2 ⟨W3, hq3⟩
          dsimp only at d2b hl2'
          clear hbel3 d2a hl1 hl2 d2z hb0
          have hga : z1.w.heap.size < W3.heap.size := hW3.lt
          generalize z1.w.heap.size = ga at *
          go_wp2_with (first | (refine wpList_load_run 37 (.tmp 74) (.pointer (some ⟨b, o + t * 9, none⟩)) (.agg (claimA cb)) ?_ ?_ ?_ ?_ ?_; rfl; rfl; rfl; exact hl2') | (refine wpList_store_blk (Blk.new W3 37 claim0.cells.toArray) rfl 37 (.tmp 9) (.tmp 75) cb.cells rfl rfl rfl (by kernel_rfl) (claim_all _) (Nat.le_refl 9) ?_))
          intro W4 hW4 hbel4
          rw [splice_all _ _ (by rfl)] at hW4
          have hq34 : Q W3 W4 := hbel4 _ _ (Nat.le_refl _) (q_new _ _ _)
          have hq4 : Q W2 W4 := Q.trans z1.q (Q.trans hq3 hq34)
          have hWa := hW3.q hq34
          have hLca : ∀ z, Q W4 z → (Instr.loadAt 37 (.pointer (some ⟨ga, 0, none⟩))).run Tryz.prog z = .ok (.agg (claimA ca)) z := fun z hz => Wd.load (P := Tryz.prog) (ty := 37) hWa.lt (Blk.range hWa) Tryz.underlying37 rfl (by kernel_rfl) ⟨z, hz⟩
          have hLcb : ∀ z, Q W4 z → (Instr.loadAt 37 (.pointer (some ⟨W3.heap.size, 0, none⟩))).run Tryz.prog z = .ok (.agg (claimA cb)) z := fun z hz => Wd.load (P := Tryz.prog) (ty := 37) hW4.lt (Blk.range hW4) Tryz.underlying37 rfl (by kernel_rfl) ⟨z, hz⟩
          have hAca : ∀ z, Q W4 z → z.cell? ⟨ga, 0, none⟩ = some (.string ca.actor) := fun z hz => (hWa.q hz).cell 0
          have hAcb : ∀ z, Q W4 z → z.cell? ⟨W3.heap.size, 0, none⟩ = some (.string cb.actor) := fun z hz => (hW4.q hz).cell 0
          have hGca : ∀ z, Q W4 z → z.cell? ⟨ga, 3, none⟩ = some (.int .i64 ca.gen) := fun z hz => (hWa.q hz).cell 3
          have hGcb : ∀ z, Q W4 z → z.cell? ⟨W3.heap.size, 3, none⟩ = some (.int .i64 cb.gen) := fun z hz => (hW4.q hz).cell 3
          clear hbel4 hW4 hWa hW3 d2b hl2'
          generalize W3.heap.size = gb at *
          have f1 := hAca W4 (Q.refl _)
          have f2 := hAcb W4 (Q.refl _)
          have f3 := hGca W4 (Q.refl _)
          have f4 := hGcb W4 (Q.refl _)
          have hL1 := hLca W4 (Q.refl _)
          have hL2 := hLcb W4 (Q.refl _)
          have heq := claimEq ca cb
          have hse := beq_str ca.actor cb.actor
          have hways : ca.same cb = true ∨ (ca.same cb = false ∧ ca.actor ≠ cb.actor) ∨ (ca.same cb = false ∧ ca.actor = cb.actor ∧ ca.gen ≠ cb.gen) ∨ (ca.same cb = false ∧ ca.actor = cb.actor ∧ ca.gen = cb.gen ∧ itemRight (itClaim ca) = false) ∨ (ca.same cb = false ∧ ca.actor = cb.actor ∧ ca.gen = cb.gen ∧ itemRight (itClaim ca) = true ∧ itemRight (itClaim cb) = false) ∨ (ca.same cb = false ∧ ca.actor = cb.actor ∧ ca.gen = cb.gen ∧ itemRight (itClaim ca) = true ∧ itemRight (itClaim cb) = true) := by
            cases ca.same cb
            · by_cases h1 : ca.actor = cb.actor
              · by_cases h2 : ca.gen = cb.gen
                · cases itemRight (itClaim ca)
                  · simp [h1, h2]
                  · cases itemRight (itClaim cb) <;> simp [h1, h2]
                · simp [h1, h2]
              · simp [h1]
            · simp
          generalize ca.same cb = sm at *
          have hcur := Q.refl W4
          rcases hways with h | ⟨h, h1⟩ | ⟨h, h1, h2⟩ | ⟨h, h1, h2, hr1⟩ | ⟨h, h1, h2, hr1, hr2⟩ | ⟨h, h1, h2, hr1, hr2⟩
          rotate_left 5
          · have hs1 : ca.actor.toList = cb.actor.toList := by rw [h1]
            rw [decide_eq_true h1] at hse
            have hr3 : ca.gen = cb.gen := h2
            subst h
            clear h1 h2
            go_upto_region 17 with (first | (refine wpList_load_run 37 (.tmp 8) (.pointer (some ⟨ga, 0, none⟩)) (.agg (claimA ca)) ?_ ?_ ?_ ?_ ?_; rfl; rfl; rfl; exact hLca _ hcur) | (refine wpList_load_run 37 (.tmp 9) (.pointer (some ⟨gb, 0, none⟩)) (.agg (claimA cb)) ?_ ?_ ?_ ?_ ?_; rfl; rfl; rfl; exact hLcb _ hcur) | (go_at_call 13; refine (ofClaim_any _ _).mono ?_; rintro e w' ⟨rfl, qn⟩; replace hcur := Q.trans hcur qn; clear qn) | (go_at_call 12; refine (right_at _ _ _ (itClaim_in _ _) (by with_reducible first | exact hr1 | exact hr2)).mono ?_; rintro e w' ⟨rfl, qn⟩; replace hcur := Q.trans hcur qn; clear qn))
            have hq5 := Q.trans hq4 hcur
            clear hs1 hse heq hr1 hr2 hr3 f1 f2 f3 f4 hL1 hL2
            go_upto_region 17 with (fail)
            refine wp_region_S (fun z => Q w' z) (by kernel_rfl) (Q.refl _).drew ?_
            intro z hz
            refine held_read 0 (v := .agg (knA k)) rfl (by kernel_rfl) (by kernel_rfl) (by kernel_rfl) (by intro c a d v w h; cases d <;> exact h) rfl hz (fun z hz => exec_load 31 (.tmp 4) _ _ rfl rfl (hLk z (Q.trans hq5 hz))) ?_
            try simp only [Act.put, List.setIfInBounds_toArray, List.set_cons_succ, List.set_cons_zero]
            refine held_read 1 (v := .agg (claimA ca)) rfl (by kernel_rfl) (by kernel_rfl) (by kernel_rfl) (by intro c a d v w h; cases d <;> exact h) rfl hz (fun z hz => exec_load 37 (.tmp 8) _ _ rfl rfl (hLca z (Q.trans hcur hz))) ?_
            try simp only [Act.put, List.setIfInBounds_toArray, List.set_cons_succ, List.set_cons_zero]
            refine held_pure 3 (v := .pointer (some ⟨ga, 0, none⟩)) rfl (by kernel_rfl) (by kernel_rfl) (by kernel_rfl) (by intro c a d v w h; cases d <;> exact h) rfl hz (fun w => by rfl) ?_
            try simp only [Act.put, List.setIfInBounds_toArray, List.set_cons_succ, List.set_cons_zero]
            refine held_read 4 (v := .string ca.actor) rfl (by kernel_rfl) (by kernel_rfl) (by kernel_rfl) (by intro c a d v w h; cases d <;> exact h) rfl hz (fun z hz => exec_load 9 (.tmp 108) _ _ rfl rfl (load_str (hAca z (Q.trans hcur hz)))) ?_
            try simp only [Act.put, List.setIfInBounds_toArray, List.set_cons_succ, List.set_cons_zero]
            refine held_pure 5 (v := .pointer (some ⟨ga, 3, none⟩)) rfl (by kernel_rfl) (by kernel_rfl) (by kernel_rfl) (by intro c a d v w h; cases d <;> exact h) rfl hz (fun w => by rfl) ?_
            try simp only [Act.put, List.setIfInBounds_toArray, List.set_cons_succ, List.set_cons_zero]
            refine held_read 6 (v := .int .i64 ca.gen) rfl (by kernel_rfl) (by kernel_rfl) (by kernel_rfl) (by intro c a d v w h; cases d <;> exact h) rfl hz (fun z hz => exec_load 3 (.tmp 110) _ _ rfl rfl (load_int (hGca z (Q.trans hcur hz)))) ?_
            try simp only [Act.put, List.setIfInBounds_toArray, List.set_cons_succ, List.set_cons_zero]
            refine held_one 2 rfl (by kernel_rfl) rfl (fun K' hK' => ?_)
            go_simp
            refine (hDg ca z (Q.trans hq5 hz)).mono ?_
            rintro e z5 ⟨rfl, q5⟩
            refine hK' _ _ (Q.trans hz q5) ?_
            clear hK' K'
            try simp only [Act.put, List.setIfInBounds_toArray, List.set_cons_succ, List.set_cons_zero]
            refine held_one 7 rfl (by kernel_rfl) rfl (fun K' hK' => ?_)
            go_simp
            refine (hVo ca z5 (Q.trans hq5 (Q.trans hz q5))).mono ?_
            rintro e W6 ⟨A1, m1, rfl, -, -, hIca, q6⟩
            have hzW6 := Q.trans (Q.trans hz q5) q6
            refine hK' _ _ hzW6 ?_
            clear hK' K'
            try simp only [Act.put, List.setIfInBounds_toArray, List.set_cons_succ, List.set_cons_zero]
            refine held_pure 8 (v := .slice A1 (V ca).length m1) rfl (by kernel_rfl) (by kernel_rfl) (by kernel_rfl) (by intro c a d v w h; cases d <;> exact h) rfl hzW6 (fun w => by rfl) ?_
            try simp only [Act.put, List.setIfInBounds_toArray, List.set_cons_succ, List.set_cons_zero]
            refine wpAnyH_done (by kernel_rfl) ?_ _
            clear hz q5 q6
            clear z5 z
            have hq6 := Q.trans hq5 hzW6
            have hb6 := Q.trans hcur hzW6
            go_upto_region 18 with (fail)
            refine wp_region_S (fun z => Q W6 z) (by kernel_rfl) (Q.refl _).drew ?_
            intro z hz
            refine held_read 0 (v := .agg (knA k)) rfl (by kernel_rfl) (by kernel_rfl) (by kernel_rfl) (by intro c a d v w h; cases d <;> exact h) rfl hz (fun z hz => exec_load 31 (.tmp 4) _ _ rfl rfl (hLk z (Q.trans hq6 hz))) ?_
            try simp only [Act.put, List.setIfInBounds_toArray, List.set_cons_succ, List.set_cons_zero]
            refine held_read 1 (v := .agg (claimA cb)) rfl (by kernel_rfl) (by kernel_rfl) (by kernel_rfl) (by intro c a d v w h; cases d <;> exact h) rfl hz (fun z hz => exec_load 37 (.tmp 9) _ _ rfl rfl (hLcb z (Q.trans hb6 hz))) ?_
            try simp only [Act.put, List.setIfInBounds_toArray, List.set_cons_succ, List.set_cons_zero]
            refine held_pure 3 (v := .pointer (some ⟨gb, 0, none⟩)) rfl (by kernel_rfl) (by kernel_rfl) (by kernel_rfl) (by intro c a d v w h; cases d <;> exact h) rfl hz (fun w => by rfl) ?_
            try simp only [Act.put, List.setIfInBounds_toArray, List.set_cons_succ, List.set_cons_zero]
            refine held_read 4 (v := .string cb.actor) rfl (by kernel_rfl) (by kernel_rfl) (by kernel_rfl) (by intro c a d v w h; cases d <;> exact h) rfl hz (fun z hz => exec_load 9 (.tmp 116) _ _ rfl rfl (load_str (hAcb z (Q.trans hb6 hz)))) ?_
            try simp only [Act.put, List.setIfInBounds_toArray, List.set_cons_succ, List.set_cons_zero]
            refine held_pure 5 (v := .pointer (some ⟨gb, 3, none⟩)) rfl (by kernel_rfl) (by kernel_rfl) (by kernel_rfl) (by intro c a d v w h; cases d <;> exact h) rfl hz (fun w => by rfl) ?_
            try simp only [Act.put, List.setIfInBounds_toArray, List.set_cons_succ, List.set_cons_zero]
            refine held_read 6 (v := .int .i64 cb.gen) rfl (by kernel_rfl) (by kernel_rfl) (by kernel_rfl) (by intro c a d v w h; cases d <;> exact h) rfl hz (fun z hz => exec_load 3 (.tmp 118) _ _ rfl rfl (load_int (hGcb z (Q.trans hb6 hz)))) ?_
            try simp only [Act.put, List.setIfInBounds_toArray, List.set_cons_succ, List.set_cons_zero]
            refine held_one 2 rfl (by kernel_rfl) rfl (fun K' hK' => ?_)
            go_simp
            refine (hDg cb z (Q.trans hq6 hz)).mono ?_
            rintro e z5 ⟨rfl, q5⟩
            refine hK' _ _ (Q.trans hz q5) ?_
            clear hK' K'
            try simp only [Act.put, List.setIfInBounds_toArray, List.set_cons_succ, List.set_cons_zero]
            refine held_one 7 rfl (by kernel_rfl) rfl (fun K' hK' => ?_)
            go_simp
            refine (hVo cb z5 (Q.trans hq6 (Q.trans hz q5))).mono ?_
            rintro e W7 ⟨A2, m2, rfl, -, -, hIcb, q6⟩
            have hzW7 := Q.trans (Q.trans hz q5) q6
            refine hK' _ _ hzW7 ?_
            clear hK' K'
            try simp only [Act.put, List.setIfInBounds_toArray, List.set_cons_succ, List.set_cons_zero]
            refine held_pure 8 (v := .slice A2 (V cb).length m2) rfl (by kernel_rfl) (by kernel_rfl) (by kernel_rfl) (by intro c a d v w h; cases d <;> exact h) rfl hzW7 (fun w => by rfl) ?_
            try simp only [Act.put, List.setIfInBounds_toArray, List.set_cons_succ, List.set_cons_zero]
            refine wpAnyH_done (by kernel_rfl) ?_ _
            clear hz q5 q6
            clear z5 z
            have hq7 := Q.trans hq6 hzW7
            have hI1 : ∀ y : Wd W7, Ints y.w A1 (V ca) := fun y => (hIca.q hzW7).q y.q
            have hI2 : ∀ y : Wd W7, Ints y.w A2 (V cb) := fun y => hIcb.q y.q
            have d17 : ∀ y : Wd W7, y.w.cell? ⟨w.heap.size, 1, none⟩ = some (.int .i64 p.many) := fun y => d1 ⟨y.w, Q.trans hq7 y.q⟩
            have hov2 := hov ca cb
            have hl1 := hle ca
            have hl2 := hle cb
            have HQ7 := Lib.hid hq7
            obtain ⟨v7, hv7⟩ := Wd.first W7
            rw [hv7]
            clear hv7 hVo hDg hLk hCl hLca hLcb hAca hAcb hGca hGcb hcur hq4 hq5 hq6 hq7 hb6 hzW6 hzW7 hIca hIcb d1 hq3 hq34 hov hle
            generalize V ca = LA at *
            generalize V cb = LB at *
            go_wp2_with fail
            go_loopw [12, 13] (fun b i wr => ∃ (a : Nat) (z : Wd W7), b = .int .i64 (bothK (LA.take a) LB : Nat) ∧ i = .int .i64 a ∧ wr = z.w ∧ a ≤ LA.length) (fun _ i _ => LA.length - (intOf i).toNat)
            case atStart => exact ⟨0, v7, rfl, rfl, rfl, Nat.zero_le _⟩
            case round =>
              obtain ⟨a, z7, rfl, rfl, rfl, ha⟩ := hrel
              have hbl := bothK_le (LA.take a) LB
              rw [List.length_take] at hbl
              have hbm : min a LA.length * LB.length ≤ 1000 * 1000 := Nat.mul_le_mul (by omega) (by omega)
              by_cases hal : a < LA.length
              · have haI : (a : Int) < (LA.length : Int) := by omega
                have HB := Lib.hid (bothK_step LA LB a hal)
                have HCS := Lib.hid (fun e (he : e < LB.length) => cntK_step LB LA[a] e he)
                have HCL := Lib.hid (fun e => cntK_le (LB.take e) LA[a])
                obtain ⟨b1, o1, eA1, hb1, hc1⟩ := hI1 z7 (by omega)
                have n1 : ∀ y : Wd z7.w, y.w.cell? ⟨b1, o1 + a, none⟩ = some (.int .i64 LA[a]) := fun y => (y.cell hb1).trans (hc1 a hal)
                subst eA1
                clear hc1
                generalize LA[a] = ea at *
                generalize hBB : bothK (LA.take a) LB = BB at *
                clear hBB
                go_wp2_with fail
                go_loopw [12, 14] (fun b i wr => ∃ (e : Nat) (z : Wd z7.w), b = .int .i64 ((BB + cntK (LB.take e) ea : Nat) : Int) ∧ i = .int .i64 e ∧ wr = z.w ∧ e ≤ LB.length) (fun _ i _ => LB.length - (intOf i).toNat)
                case atStart => exact ⟨0, ⟨z7.w, Q.refl _⟩, rfl, rfl, rfl, Nat.zero_le _⟩
                case round =>
                  obtain ⟨e, z8, rfl, rfl, rfl, he⟩ := hrel
                  have hcl := HCL.out e
                  rw [List.length_take] at hcl
                  by_cases hel : e < LB.length
                  · have heI : (e : Int) < (LB.length : Int) := by omega
                    have HC := Lib.hid (HCS.out e hel)
                    obtain ⟨b2, o2, eA2, hb2, hc2⟩ := hI2 ⟨z8.w, Q.trans z7.q z8.q⟩ (by omega)
                    have n2 : ∀ y : Wd z8.w, y.w.cell? ⟨b2, o2 + e, none⟩ = some (.int .i64 LB[e]) := fun y => (y.cell hb2).trans (hc2 e hel)
                    have n1' : ∀ y : Wd z8.w, y.w.cell? ⟨b1, o1 + a, none⟩ = some (.int .i64 ea) := fun y => n1 ⟨y.w, Q.trans z8.q y.q⟩
                    subst eA2
                    clear hc2 n1 HCS HCL HB
                    generalize LB[e] = eb at *
                    generalize hCC : cntK (LB.take e) ea = CC at *
                    generalize hC2 : cntK (LB.take (e + 1)) ea = C2 at *
                    have heI0 : (0 : Int) ≤ (e : Int) := by omega
                    have haI0 : (0 : Int) ≤ (a : Int) := by omega
                    by_cases hab : ea = eb
                    · have hC3 := Lib.hid (show BB + C2 = BB + CC + 1 by rw [HC.out, if_pos hab]; rfl)
                      clear HC
                      go_wp2_with fail
                      refine wp_region_wd (⟨z8.w, Q.refl _⟩ : Wd z8.w) (by kernel_rfl) (by kernel_rfl) ?_
                      repeat (go_big_quiet_step (fail))
                      refine wpQuiet_nil ?_
                      rintro w'' ⟨y, rfl⟩
                      go_wp2_with fail
                      exact ⟨⟨e + 1, ⟨y.w, Q.trans z8.q y.q⟩, by rw [hC2, hC3.out]; go_num, by go_num, rfl, by omega⟩, by simp only [intOf]; omega⟩
                    · have hC3 := Lib.hid (show BB + C2 = BB + CC by rw [HC.out, if_neg hab]; rfl)
                      clear HC
                      go_wp2_with fail
                      refine wp_region_wd (⟨z8.w, Q.refl _⟩ : Wd z8.w) (by kernel_rfl) (by kernel_rfl) ?_
                      repeat (go_big_quiet_step (fail))
                      refine wpQuiet_nil ?_
                      rintro w'' ⟨y, rfl⟩
                      go_wp2_with fail
                      exact ⟨⟨e + 1, ⟨y.w, Q.trans z8.q y.q⟩, by rw [hC2, hC3.out, Int.natCast_add], by go_num, rfl, by omega⟩, by simp only [intOf]; omega⟩
                  · have hen : e = LB.length := by omega
                    have hall : LB.take e = LB := List.take_of_length_le (by omega)
                    have heI : ¬ ((e : Int) < (LB.length : Int)) := by omega
                    have HB2 := Lib.hid (show bothK (LA.take (a + 1)) LB = BB + cntK (LB.take e) ea by rw [HB.out, hall])
                    clear HB HCS HCL hall n1
                    generalize cntK (LB.take e) ea = CC at *
                    go_wp2_with fail
                    exact ⟨⟨a + 1, ⟨z8.w, Q.trans z7.q z8.q⟩, by rw [HB2.out], by go_num, rfl, by omega⟩, by simp only [intOf]; omega⟩
              · have han : a = LA.length := by omega
                have hall : LA.take a = LA := List.take_of_length_le (by omega)
                have haI : ¬ ((a : Int) < (LA.length : Int)) := by omega
                rw [hall] at hbl ⊢
                have e17 := d17 z7
                generalize bothK LA LB = BB at *
                clear hI1 hI2 d17 hall
                have hways : ¬ ((LA.length : Int) ≥ qq) ∨ (((LA.length : Int) ≥ qq) ∧ ¬ ((LB.length : Int) ≥ qq)) ∨ (((LA.length : Int) ≥ qq) ∧ ((LB.length : Int) ≥ qq) ∧ ¬ ((BB : Int) < 2 * qq - p.many) ∧ ¬ (3 * (BB : Int) ≤ p.many)) := by omega
                rcases hways with g1 | ⟨g1, g2⟩ | ⟨g1, g2, g3, g4⟩
                all_goals
                  go_wp2_with fail
                  exact ⟨⟨t + 1, ⟨z7.w, Q.trans HQ7.out z7.q⟩, by go_num, rfl, by omega⟩, by simp only [intOf]; omega⟩
          rotate_left
          · have hs1 : ¬ ca.actor.toList = cb.actor.toList := str_ne h1
            rw [decide_eq_false h1] at hse
            subst h
            clear h1 hVo hDg hLk
            go_wp2_with (first | (refine wpList_load_run 37 (.tmp 8) (.pointer (some ⟨ga, 0, none⟩)) (.agg (claimA ca)) ?_ ?_ ?_ ?_ ?_; rfl; rfl; rfl; exact hLca _ hcur) | (refine wpList_load_run 37 (.tmp 9) (.pointer (some ⟨gb, 0, none⟩)) (.agg (claimA cb)) ?_ ?_ ?_ ?_ ?_; rfl; rfl; rfl; exact hLcb _ hcur) | (go_at_call 13; refine (ofClaim_any _ _).mono ?_; rintro e w' ⟨rfl, qn⟩; replace hcur := Q.trans hcur qn; clear qn) | (go_at_call 12; refine (right_at _ _ _ (itClaim_in _ _) (by with_reducible first | exact hr1 | exact hr2)).mono ?_; rintro e w' ⟨rfl, qn⟩; replace hcur := Q.trans hcur qn; clear qn))
            exact ⟨⟨t + 1, ⟨_, Q.trans hq4 hcur⟩, by go_num, rfl, by omega⟩, by simp only [intOf]; omega⟩
          · have hs1 : ca.actor.toList = cb.actor.toList := by rw [h1]
            rw [decide_eq_true h1] at hse
            subst h
            clear h1 hVo hDg hLk
            go_wp2_with (first | (refine wpList_load_run 37 (.tmp 8) (.pointer (some ⟨ga, 0, none⟩)) (.agg (claimA ca)) ?_ ?_ ?_ ?_ ?_; rfl; rfl; rfl; exact hLca _ hcur) | (refine wpList_load_run 37 (.tmp 9) (.pointer (some ⟨gb, 0, none⟩)) (.agg (claimA cb)) ?_ ?_ ?_ ?_ ?_; rfl; rfl; rfl; exact hLcb _ hcur) | (go_at_call 13; refine (ofClaim_any _ _).mono ?_; rintro e w' ⟨rfl, qn⟩; replace hcur := Q.trans hcur qn; clear qn) | (go_at_call 12; refine (right_at _ _ _ (itClaim_in _ _) (by with_reducible first | exact hr1 | exact hr2)).mono ?_; rintro e w' ⟨rfl, qn⟩; replace hcur := Q.trans hcur qn; clear qn))
            exact ⟨⟨t + 1, ⟨_, Q.trans hq4 hcur⟩, by go_num, rfl, by omega⟩, by simp only [intOf]; omega⟩
          · have hs1 : ca.actor.toList = cb.actor.toList := by rw [h1]
            rw [decide_eq_true h1] at hse
            subst h
            clear h1 hVo hDg hLk
            go_wp2_with (first | (refine wpList_load_run 37 (.tmp 8) (.pointer (some ⟨ga, 0, none⟩)) (.agg (claimA ca)) ?_ ?_ ?_ ?_ ?_; rfl; rfl; rfl; exact hLca _ hcur) | (refine wpList_load_run 37 (.tmp 9) (.pointer (some ⟨gb, 0, none⟩)) (.agg (claimA cb)) ?_ ?_ ?_ ?_ ?_; rfl; rfl; rfl; exact hLcb _ hcur) | (go_at_call 13; refine (ofClaim_any _ _).mono ?_; rintro e w' ⟨rfl, qn⟩; replace hcur := Q.trans hcur qn; clear qn) | (go_at_call 12; refine (right_at _ _ _ (itClaim_in _ _) (by with_reducible first | exact hr1 | exact hr2)).mono ?_; rintro e w' ⟨rfl, qn⟩; replace hcur := Q.trans hcur qn; clear qn))
            exact ⟨⟨t + 1, ⟨_, Q.trans hq4 hcur⟩, by go_num, rfl, by omega⟩, by simp only [intOf]; omega⟩
          · have hs1 : ca.actor.toList = cb.actor.toList := by rw [h1]
            rw [decide_eq_true h1] at hse
            subst h
            clear h1 hVo hDg hLk
            go_wp2_with (first | (refine wpList_load_run 37 (.tmp 8) (.pointer (some ⟨ga, 0, none⟩)) (.agg (claimA ca)) ?_ ?_ ?_ ?_ ?_; rfl; rfl; rfl; exact hLca _ hcur) | (refine wpList_load_run 37 (.tmp 9) (.pointer (some ⟨gb, 0, none⟩)) (.agg (claimA cb)) ?_ ?_ ?_ ?_ ?_; rfl; rfl; rfl; exact hLcb _ hcur) | (go_at_call 13; refine (ofClaim_any _ _).mono ?_; rintro e w' ⟨rfl, qn⟩; replace hcur := Q.trans hcur qn; clear qn) | (go_at_call 12; refine (right_at _ _ _ (itClaim_in _ _) (by with_reducible first | exact hr1 | exact hr2)).mono ?_; rintro e w' ⟨rfl, qn⟩; replace hcur := Q.trans hcur qn; clear qn))
            exact ⟨⟨t + 1, ⟨_, Q.trans hq4 hcur⟩, by go_num, rfl, by omega⟩, by simp only [intOf]; omega⟩
          · clear hse hVo hDg hLk
            subst h
            go_wp2_with (first | (refine wpList_load_run 37 (.tmp 8) (.pointer (some ⟨ga, 0, none⟩)) (.agg (claimA ca)) ?_ ?_ ?_ ?_ ?_; rfl; rfl; rfl; exact hLca _ hcur) | (refine wpList_load_run 37 (.tmp 9) (.pointer (some ⟨gb, 0, none⟩)) (.agg (claimA cb)) ?_ ?_ ?_ ?_ ?_; rfl; rfl; rfl; exact hLcb _ hcur) | (go_at_call 13; refine (ofClaim_any _ _).mono ?_; rintro e w' ⟨rfl, qn⟩; replace hcur := Q.trans hcur qn; clear qn) | (go_at_call 12; refine (right_at _ _ _ (itClaim_in _ _) (by with_reducible first | exact hr1 | exact hr2)).mono ?_; rintro e w' ⟨rfl, qn⟩; replace hcur := Q.trans hcur qn; clear qn))
            exact ⟨⟨t + 1, ⟨_, Q.trans hq4 hcur⟩, by go_num, rfl, by omega⟩, by simp only [intOf]; omega⟩
        · have htn : ¬ ((t : Int) < (j : Int)) := by omega
          go_wp2_with fail
          exact ⟨⟨j + 1, ⟨z1.w, z1.q⟩, by go_num, rfl, by omega⟩, by simp only [intOf]; omega⟩
    · have hjn : ¬ ((j : Int) < (p.claims.length : Int)) := by omega
      go_wp2_with fail
      go_ret
      exact ⟨rfl, Q.trans HQ2.out z0.q⟩
end Go.Proofs.YtflgkplneekpfaaGreatDoor.Vot

namespace Go.Proofs.YtflgkplneekpfaaGreatDoor.ballotOverlaps
open Go.ChangeShapes Go.WideShapes Go.ChangeAt Go.RowKit
open Go.ChangeMaps (open_string)

theorem open_sl {α : Type} {H : Type} {enc : TypeId × Value → H} {P : Program} {W : World} {r : Reach} {b0 base : Nat} {held : Bool} {t e : TypeId} {k : Nat} {f : α → List Value} {G : α → Prop} {v : Value} {d : DataW H} {p : List MemPlace}
    (ht : P.underlying t = some (.slice e)) (hO : Mem.Opens enc P W base (fun _ => true) held t Mem.SliceR.cells (Mem.SliceR.Good W k f G)) (hval : Value.okWide P W r b0 t v) (h : DataW.Trod enc P W base (fun _ => true) held t v d p) :
    ∃ (A : Option Addr) (c : Nat) (l : List α), v = .slice A l.length c ∧ l.length ≤ c ∧ c ≤ maxLen ∧ Mem.RowsAt W A k f l ∧ ∀ a ∈ l, G a := by
  obtain ⟨A, n, c, rfl⟩ := okWide_slice ht hval
  obtain ⟨fuel, hf⟩ := h
  obtain ⟨s, hs, hg⟩ := hO fuel _ _ hf
  simp [Value.cells, Mem.SliceR.cells] at hs
  obtain ⟨rfl, rfl, rfl⟩ := hs
  exact ⟨s.A, s.c, s.l, rfl, hg.le, hg.cap, hg.rows, hg.all⟩

theorem laid_met (os : Os) : laidMet Tryz.prog Rows.ballotOverlapsRow.laid ((Laid.laidWorld os #[.agg #[.string ⟨#[]⟩, .int .i64 0, .slice none 0 0, .slice none 0 0]]).forCall (fun _ _ => 0) ⟨#[], #[.agg #[.string ⟨#[]⟩, .int .i64 0, .slice none 0 0, .slice none 0 0]], []⟩).memory :=
  laidMet_of_run' 8 (by kernel_rfl) (by kernel_rfl)
theorem reads (os : Os) {H : Type} (enc : TypeId × Value → H) : ∃ places, DataW.whole enc Tryz.prog ((Laid.laidWorld os #[.agg #[.string ⟨#[]⟩, .int .i64 0, .slice none 0 0, .slice none 0 0]]).forCall (fun _ _ => 0) ⟨#[], #[.agg #[.string ⟨#[]⟩, .int .i64 0, .slice none 0 0, .slice none 0 0]], []⟩).memory Tryz.f3.params.toList Rows.ballotOverlapsSpec.vars false #[Value.agg #[.string ⟨#[]⟩, .int .i64 0, .slice none 0 0, .slice none 0 0]].toList 8 = some ([.agg [.lit (.string []), .lit (.int .i64 0), .nil, .nil]], [], places) :=
  ⟨[], by kernel_rfl⟩

set_option maxRecDepth 100000 in
theorem contract (H : Type) (enc : TypeId × Value → H) (W : World) (base : Nat) (args : Array Value) (ds gs : List (DataW H)) (before : List MemPlace)
    (hval : ∀ (j : Nat) t v, Tryz.f3.params[j]? = some t → args[j]? = some v → Value.okWide Tryz.prog W .any base t v)
    (hW : DataW.Whole enc Tryz.prog Tryz.f3.params.toList Rows.ballotOverlapsSpec.vars false W args.toList ds gs before) (hz : (DataW.weightsEach Tryz.prog (Tryz.f3.params.toList ++ (OpenSpec.ofChange Rows.ballotOverlapsSpec).bare.plain.varTypes Tryz.prog) (ds ++ gs)).all (· ≤ reachBytes) = true) (hL : laidMetH Tryz.prog Rows.ballotOverlapsRow.laid W) :
    Calls Tryz.prog 3 args W fun e W' => ∃ v, e = .returned v ∧ Rows.ballotOverlapsSpec.post enc Tryz.prog Tryz.f3 false true false false W args v W' := by
  have hW' := hW
  obtain ⟨p, q, hA0, hV, rfl, hfz, hnd⟩ := hW
  have hA : DataW.TrodAll enc Tryz.prog W 0 (fun _ => true) true Tryz.f3.params.toList args.toList ds p := hA0
  rw [Tryz.params3] at hA hval
  obtain ⟨v0, vs0, d0, ds0, p0, q0, hargs, rfl, rfl, h0, r0⟩ := trodAll_cons hA
  obtain ⟨rfl, rfl, rfl⟩ := trodAll_nil r0
  obtain rfl : args = #[v0] := by cases args; simp_all
  obtain ⟨rfl, rfl⟩ := trodVars_none hV
  obtain ⟨k0, rfl, in0, ok0⟩ := Vot.open_poll hz (j := 0) rfl rfl (hval 0 25 v0 rfl rfl) h0
  clear hA0 hz
  refine (Vot.overlaps_any k0 W (Laid.tab hL) in0 ok0.big).mono fun e W' ⟨he, hg⟩ => ?_
  subst he
  exact ⟨_, rfl, Post.law_post (tb := 4) Laid.laidOut (by kernel_rfl) (by kernel_rfl) (by kernel_rfl) (by kernel_rfl) Tryz.underlying4 hW' rfl rfl rfl hg⟩

set_option maxRecDepth 100000 in
theorem lifted (os : Os) (started : os.Started) (H : Type) (enc : TypeId × Value → H) (F : Stop.Interp) :
    ReturnsInHanded {} Tryz.checked os 3 .any ((OpenSpec.ofChange Rows.ballotOverlapsSpec).preRow enc Tryz.prog Tryz.f3 Rows.ballotOverlapsRow.domain false Rows.ballotOverlapsRow.laid) (((OpenSpec.ofChange Rows.ballotOverlapsSpec).at F).post enc Tryz.prog Tryz.f3 false true false false) := by
  obtain ⟨places, hx⟩ := reads os enc
  refine returnsInHanded_of_row (C := Tryz.checked) (s := OpenSpec.ofChange Rows.ballotOverlapsSpec) Laid.own started (by kernel_rfl) Tryz.func3
    (witness_row_at (enc := enc) (C := Tryz.checked) false (Laid.laidWorld os #[.agg #[.string ⟨#[]⟩, .int .i64 0, .slice none 0 0, .slice none 0 0]]) #[.agg #[.string ⟨#[]⟩, .int .i64 0, .slice none 0 0, .slice none 0 0]] rfl (by kernel_rfl) (by kernel_rfl) (by kernel_rfl)
      (OpenSpec.preRow_of_cond 8 hx (by kernel_rfl) (fun k hk => by cases hk) (by kernel_rfl) (laid_met os))) ?_
  intro W base args ds gs before hval hW _ _ hz hL _ _
  exact contract H enc W base args ds gs before hval hW hz hL

theorem c10 : (Rows.ballotOverlapsRow.inPlace == Tryz.prog.inPlace 3) = true := by kernel_rfl
theorem c11 : (Rows.ballotOverlapsRow.unfollowed == Tryz.prog.unfollowed 3) = true := by kernel_rfl
theorem c12 : (Rows.ballotOverlapsRow.recurses == Tryz.prog.recurses 3) = true := by kernel_rfl
theorem c13 : (Rows.ballotOverlapsRow.named == Tryz.prog.varsNamed 3) = true := by kernel_rfl
theorem closed : joinedFacts Tryz.prog 3 Tryz.f3 (OpenSpec.ofChange Rows.ballotOverlapsSpec).bare Rows.ballotOverlapsRow = true := by
  unfold joinedFacts
  rw [c10, c11, c12, c13]
  kernel_rfl
set_option maxRecDepth 100000 in
theorem said : Rows.BallotOverlapsSaid :=
  OpenClaim.holds_of_cond 3 Tryz.f3 rfl rfl rfl rfl rfl rfl rfl ⟨rfl, rfl, rfl, rfl, rfl⟩ rfl rfl rfl rfl rfl (by kernel_rfl) Tryz.func3 closed
    (of_decide_eq_true (by kernel_rfl)) (by unfold Func.isWrapper; first | (rw [if_pos (by decide +kernel)]; kernel_rfl) | (rw [if_neg (by decide +kernel)]; exact ⟨rfl, rfl⟩))
    (fun os started H enc _ F => by rw [OpenClaim.pre_eq_preRow]; exact lifted os started H enc F)

theorem plain (f : FuncId) (fn : Func) (hf : Tryz.pinned.checked.prog.funcNamed "agora/agoralaw18.BallotOverlaps" = some f) (hfn : Tryz.pinned.checked.prog.funcs[f]? = some fn) :
    false = Tryz.pinned.checked.prog.looks [] ∧ ∀ (j : Nat) t, fn.params[j]? = some t → Tryz.pinned.checked.prog.wantsStandIn t = false := by
  obtain rfl : f = 3 := Option.some.inj ((show Tryz.prog.funcNamed "agora/agoralaw18.BallotOverlaps" = some 3 by kernel_rfl).symm.trans hf) |>.symm
  obtain rfl : fn = Tryz.f3 := (Option.some.inj (Tryz.func3.symm.trans hfn)).symm
  refine ⟨by kernel_rfl, fun j t ht => ?_⟩
  rw [Tryz.params3] at ht
  have hm := Array.mem_of_getElem? ht
  have hall : (#[25] : Array TypeId).all (fun t => !Tryz.prog.wantsStandIn t) = true := by kernel_rfl
  have hb := (Array.all_eq_true_iff_forall_mem.mp hall) t hm
  show Tryz.prog.wantsStandIn t = false
  simpa using hb

theorem proved : Rows.BallotOverlapsCardSaid :=
  Claim7.holds_tied_plain_at .later [] _ _ _ _ said (fun _ h => by cases h) (by kernel_rfl) (fun _ h => by cases h) ballotOverlaps_row_tie rfl ⟨rfl, rfl⟩ (by kernel_rfl) rfl plain (by kernel_rfl)
#print axioms proved
end Go.Proofs.YtflgkplneekpfaaGreatDoor.ballotOverlaps
