/-
  Package agoraref13: from, sig, claimed, voted, decided and the cores (printed by gen_ref13.py).
  Package agoraref13: decided, kinds 0 to 4 (printed by gen_ref13.py).
  Package agoraref13: decided, kinds 5 to 7, 9 (printed by gen_ref13.py).
  Package agoraref13: decided, kind 8 (printed by gen_ref13.py).
-/
import Derived.Test.YtomkeaeegdjhnaaGreatDoorMgRefBase
import Derived.Test.YtomkeaeegdjhnaaGreatDoorMgRefAct
import Derived.Test.YtomkeaeegdjhnaaGreatDoorItemD
import Derived.Test.YtomkeaeegdjhnaaGreatDoorItemB
set_option linter.unusedVariables false
set_option linter.unusedSimpArgs false
namespace Go.Proofs.YtomkeaeegdjhnaaGreatDoor.Item
open Go.RowKit Grp Mem _root_.Go.Proofs.YtomkeaeegdjhnaaGreatDoor.Code Sha Sign _root_.Go.Proofs.YtomkeaeegdjhnaaGreatDoor.Known

theorem from_at (n lo hi : Int) (r : Bool) (w : World) (h : withinB n lo hi = r) : Calls Tryz.prog 225 #[.int .i64 n, .int .i64 lo, .int .i64 hi] w fun e w' => e = .returned (.bool r) ∧ w = w' := by
  subst h
  by_cases h1 : lo ≤ n
  · go_enter Tryz.func225, Tryz.ntmps225
    go_wp2
    go_ret
    exact ⟨by simp [withinB, h1], rfl⟩
  · have h2 : decide (lo ≤ n) = false := by simpa using h1
    go_enter Tryz.func225, Tryz.ntmps225
    go_wp2
    go_ret
    exact ⟨by simp only [withinB, h2, Bool.false_and]; rfl, rfl⟩
set_option maxHeartbeats 2000000 in
theorem rsig_any (e s : Int) (w : World) : Calls Tryz.prog 226 #[.agg #[.int .i64 e, .int .i64 s]] w fun r w' => r = .returned (.bool (inOrd e && inOrd s)) ∧ Q w w' := by
  have hq := q_new w #[.int .i64 e, .int .i64 s] 36
  go_enter Tryz.func226, Tryz.ntmps226
  go_wp2_with (go_at_call 225; refine (from_at _ _ _ _ _ rfl).mono ?_; rintro e w' ⟨rfl, rfl⟩)
  all_goals
    go_ret
    refine ⟨?_, hq⟩
    simp_all [inOrd]
set_option maxRecDepth 100000 in
set_option maxHeartbeats 4000000 in
theorem rclaimed_any (c : ClaimV) (w : World) (ho : ClaimOk c) : Calls Tryz.prog 171 #[.agg (claimA c)] w fun e w' => e = .returned (.bool (claimRight c)) ∧ Q w w' := by
  obtain ⟨w1, x, hx, hq1, hlt, hr⟩ := boxed2 w 40 c.cells
  have hx : w.alloc (.cells (claimA c) 40) = x.w := hx
  have c0 := Wd.at0 hlt hr 0 rfl
  have c1 := Wd.at0 hlt hr 1 rfl
  have c2 := Wd.at0 hlt hr 2 rfl
  have c3 := Wd.at0 hlt hr 3 rfl
  have c4 := Wd.at0 hlt hr 4 rfl
  have c5 := Wd.at0 hlt hr 5 rfl
  have c6 := Wd.at0 hlt hr 6 rfl
  have c7 := Wd.at0 hlt hr 7 rfl
  have c8 := Wd.at0 hlt hr 8 rfl
  have hza : c.actor.size ≤ maxLen := ho.strs _ (by simp)
  clear hlt hr ho
  go_enter Tryz.func171, Tryz.ntmps171
  go_wp2_with (first | (go_at_call 225; refine (from_at _ _ _ _ _ rfl).mono ?_; rintro e w' ⟨rfl, rfl⟩) | (go_at_call 223; refine (ridRight_any _ _ hza).mono ?_; rintro e w' ⟨rfl, rfl⟩) | (go_at_call 226; refine (rsig_any _ _ _).mono ?_; rintro e w' ⟨rfl, hq2⟩; obtain ⟨y, rfl⟩ := Wd.next _ hq2; clear hq2))
  all_goals
    go_ret
    refine ⟨?_, Q.trans hq1 (Wd.q _)⟩
    simp_all [claimRight, digestB, cast32]
set_option maxRecDepth 100000 in
set_option maxHeartbeats 4000000 in
theorem rvoted_any (b : BallotV) (w : World) (ho : BallotOk b) : Calls Tryz.prog 172 #[.agg (ballotA b)] w fun e w' => e = .returned (.bool (ballotRight b)) ∧ Q w w' := by
  obtain ⟨w1, x, hx, hq1, hlt, hr⟩ := boxed2 w 42 b.cells
  have hx : w.alloc (.cells (ballotA b) 42) = x.w := hx
  have c0 := Wd.at0 hlt hr 0 rfl
  have c1 := Wd.at0 hlt hr 1 rfl
  have c2 := Wd.at0 hlt hr 2 rfl
  have c3 := Wd.at0 hlt hr 3 rfl
  have c4 := Wd.at0 hlt hr 4 rfl
  have c5 := Wd.at0 hlt hr 5 rfl
  have c6 := Wd.at0 hlt hr 6 rfl
  have hza : b.actor.size ≤ maxLen := ho.strs _ (by simp)
  clear hlt hr ho
  go_enter Tryz.func172, Tryz.ntmps172
  go_wp2_with (first | (go_at_call 225; refine (from_at _ _ _ _ _ rfl).mono ?_; rintro e w' ⟨rfl, rfl⟩) | (go_at_call 223; refine (ridRight_any _ _ hza).mono ?_; rintro e w' ⟨rfl, rfl⟩) | (go_at_call 226; refine (rsig_any _ _ _).mono ?_; rintro e w' ⟨rfl, hq2⟩; obtain ⟨y, rfl⟩ := Wd.next _ hq2; clear hq2))
  all_goals
    go_ret
    refine ⟨?_, Q.trans hq1 (Wd.q _)⟩
    simp_all [ballotRight, digestB, cast32]
set_option maxRecDepth 100000 in
set_option maxHeartbeats 8000000 in
theorem rdecided_out (d : DecR) (w : World) (hI : DecIn w d) (ho : DecOk d) (h : (withinB d.server 0 19 = false) ∨ (withinB d.server 0 19 = true ∧ withinB d.number 0 1073741824 = false) ∨ (withinB d.server 0 19 = true ∧ withinB d.number 0 1073741824 = true ∧ withinB d.kind 0 9 = false) ∨ (withinB d.server 0 19 = true ∧ withinB d.number 0 1073741824 = true ∧ withinB d.kind 0 9 = true ∧ withinB d.start 0 1099511627776 = false) ∨ (withinB d.server 0 19 = true ∧ withinB d.number 0 1073741824 = true ∧ withinB d.kind 0 9 = true ∧ withinB d.start 0 1099511627776 = true ∧ withinB d.stop 0 1099511627776 = false) ∨ (withinB d.server 0 19 = true ∧ withinB d.number 0 1073741824 = true ∧ withinB d.kind 0 9 = true ∧ withinB d.start 0 1099511627776 = true ∧ withinB d.stop 0 1099511627776 = true ∧ decide (d.start < d.stop) = false) ∨ (withinB d.server 0 19 = true ∧ withinB d.number 0 1073741824 = true ∧ withinB d.kind 0 9 = true ∧ withinB d.start 0 1099511627776 = true ∧ withinB d.stop 0 1099511627776 = true ∧ decide (d.start < d.stop) = true ∧ (inOrd d.e && inOrd d.s) = false)) : Calls Tryz.prog 173 #[.agg (decA d)] w fun e w' => e = .returned (.bool false) ∧ Q w w' := by
  obtain ⟨w1, x, hx, hq1, hlt, hr⟩ := boxed2 w 44 d.cells
  have hx : w.alloc (.cells (decA d) 44) = x.w := hx
  have c0 := Wd.at0 hlt hr 0 rfl
  have c1 := Wd.at0 hlt hr 1 rfl
  have c2 := Wd.at0 hlt hr 2 rfl
  have c3 := Wd.at0 hlt hr 3 rfl
  have c4 := Wd.at0 hlt hr 4 rfl
  have c5 := Wd.at0 hlt hr 5 rfl
  have c6 := Wd.at0 hlt hr 6 rfl
  have c7 := Wd.at0 hlt hr 7 rfl
  have c8 := Wd.at0 hlt hr 8 rfl
  have c9 := Wd.at0 hlt hr 9 rfl
  have c10 := Wd.at0 hlt hr 10 rfl
  have c11 := Wd.at0 hlt hr 11 rfl
  have hS : ∀ y : Wd w1, Strs y.w d.toA d.to := fun y => (hI.q (Q.trans hq1 y.q)).to
  have hlen : d.to.length ≤ 9223372036854775807 := hI.toLen
  have hzt : ∀ s ∈ d.to, s.size ≤ maxLen := ho.to
  have hza : d.actor.size ≤ maxLen := ho.strs _ (by simp)
  clear hlt hr ho
  rcases h with g1 | ⟨g1, g2⟩ | ⟨g1, g2, g3⟩ | ⟨g1, g2, g3, g4⟩ | ⟨g1, g2, g3, g4, g5⟩ | ⟨g1, g2, g3, g4, g5, g6⟩ | ⟨g1, g2, g3, g4, g5, g6, g7⟩
  all_goals
    try simp only [decide_eq_true_eq, decide_eq_false_iff_not] at *
    go_enter Tryz.func173, Tryz.ntmps173
    go_wp2_with (first | (go_at_call 225; refine (from_at _ _ _ _ _ rfl).mono ?_; rintro e w' ⟨rfl, rfl⟩) | (go_at_call 226; refine (rsig_any _ _ _).mono ?_; rintro e w' ⟨rfl, hq2⟩; obtain ⟨y, rfl⟩ := Wd.next _ hq2; clear hq2))
    go_ret
    exact ⟨rfl, Q.trans hq1 (Wd.q _)⟩
def sigL (e s : Int) : List UInt8 := numL e ++ numL s
set_option maxHeartbeats 1000000 in
theorem rsigBytes_any (e s : Int) (w : World) (h1 : e ≤ 9223372036854775807) (h2 : s ≤ 9223372036854775807) : Calls Tryz.prog 162 #[.agg #[.int .i64 e, .int .i64 s]] w fun r w' => r = .returned (.string (numB e ++ numB s)) ∧ Q w w' := by
  obtain ⟨w1, x, hx, hq1, hlt, hr⟩ := boxed w 36 [.int .i64 e, .int .i64 s]
  have c0 := Wd.at0 hlt hr 0 rfl
  have c1 := Wd.at0 hlt hr 1 rfl
  have n1 := numB_size e
  have n2 := numB_size s
  have a1 : (numB e).size + (numB s).size ≤ 9223372036854775807 := by omega
  go_enter Tryz.func162, Tryz.ntmps162
  go_wp2
  refine wp_region_wd x (by kernel_rfl) (by kernel_rfl) ?_
  repeat (go_big_quiet_step ((go_at_call 106; exact Wd.call _ (RNum_any _ _ (by omega)))))
  refine wpQuiet_nil ?_
  rintro w'' ⟨z, rfl⟩
  go_wp2
  go_ret
  exact ⟨rfl, Q.trans hq1 z.q⟩
set_option maxRecDepth 100000 in
set_option maxHeartbeats 4000000 in
theorem rcoreClaim_any (c : ClaimV) (w : World) (hz1 : c.actor.size ≤ 1000000) (hz2 : c.prev.size ≤ 1000000) (hn : c.base ≤ 9223372036854775807 ∧ c.gen ≤ 9223372036854775807 ∧ c.home ≤ 9223372036854775807 ∧ c.pub ≤ 9223372036854775807 ∧ c.time ≤ 9223372036854775807) : Calls Tryz.prog 161 #[.agg (claimA c)] w fun r w' => r = .returned (.string ⟨(claimL c).toArray⟩) ∧ Q w w' := by
  obtain ⟨w1, x, hx, hq1, hlt, hr⟩ := boxed2 w 40 c.cells
  have hx : w.alloc (.cells (claimA c) 40) = x.w := hx
  have c0 := Wd.at0 hlt hr 0 rfl
  have c1 := Wd.at0 hlt hr 1 rfl
  have c2 := Wd.at0 hlt hr 2 rfl
  have c3 := Wd.at0 hlt hr 3 rfl
  have c4 := Wd.at0 hlt hr 4 rfl
  have c5 := Wd.at0 hlt hr 5 rfl
  have c6 := Wd.at0 hlt hr 6 rfl
  have c7 := Wd.at0 hlt hr 7 rfl
  have c8 := Wd.at0 hlt hr 8 rfl
  have b0 := textB_size c.actor
  have b1 := numB_size c.base
  have f1 : (textB c.actor).size + (numB c.base).size ≤ 9223372036854775807 := by omega
  have b2 := textB_size c.prev
  have f2 : (textB c.actor).size + (numB c.base).size + (textB c.prev).size ≤ 9223372036854775807 := by omega
  have b3 := numB_size c.gen
  have f3 : (textB c.actor).size + (numB c.base).size + (textB c.prev).size + (numB c.gen).size ≤ 9223372036854775807 := by omega
  have b4 := numB_size c.home
  have f4 : (textB c.actor).size + (numB c.base).size + (textB c.prev).size + (numB c.gen).size + (numB c.home).size ≤ 9223372036854775807 := by omega
  have b5 := numB_size c.pub
  have f5 : (textB c.actor).size + (numB c.base).size + (textB c.prev).size + (numB c.gen).size + (numB c.home).size + (numB c.pub).size ≤ 9223372036854775807 := by omega
  have b6 := numB_size c.time
  have f6 : (textB c.actor).size + (numB c.base).size + (textB c.prev).size + (numB c.gen).size + (numB c.home).size + (numB c.pub).size + (numB c.time).size ≤ 9223372036854775807 := by omega
  have HR : Hid ((((((((textB c.actor) ++ (numB c.base)) ++ (textB c.prev)) ++ (numB c.gen)) ++ (numB c.home)) ++ (numB c.pub)) ++ (numB c.time)) = ⟨(claimL c).toArray⟩) := Lib.hid (by
    apply ba_ext
    rw [ba_list]
    simp only [ba_append, textB_list, numL_eq, claimL, List.append_assoc])
  clear hlt hr
  go_enter Tryz.func161, Tryz.ntmps161
  go_wp2
  refine wp_region_wd x (by kernel_rfl) (by kernel_rfl) ?_
  repeat (go_big_quiet_step (first | (go_at_call 106; exact Wd.call _ (RNum_any _ _ (by omega))) | (go_at_call 108; exact Wd.call _ (RText_any _ _ (by omega)))))
  refine wpQuiet_nil ?_
  rintro w'' ⟨z, rfl⟩
  go_wp2
  go_ret
  exact ⟨by rw [← HR.out]; rfl, Q.trans hq1 z.q⟩
set_option maxRecDepth 100000 in
set_option maxHeartbeats 4000000 in
theorem rcoreBallot_any (b : BallotV) (w : World) (hz1 : b.actor.size ≤ 1000000) (hz2 : b.claim.size ≤ 1000000) (hn : b.server ≤ 9223372036854775807 ∧ b.gen ≤ 9223372036854775807 ∧ b.time ≤ 9223372036854775807) : Calls Tryz.prog 163 #[.agg (ballotA b)] w fun r w' => r = .returned (.string ⟨(ballotL b).toArray⟩) ∧ Q w w' := by
  obtain ⟨w1, x, hx, hq1, hlt, hr⟩ := boxed2 w 42 b.cells
  have hx : w.alloc (.cells (ballotA b) 42) = x.w := hx
  have c0 := Wd.at0 hlt hr 0 rfl
  have c1 := Wd.at0 hlt hr 1 rfl
  have c2 := Wd.at0 hlt hr 2 rfl
  have c3 := Wd.at0 hlt hr 3 rfl
  have c4 := Wd.at0 hlt hr 4 rfl
  have c5 := Wd.at0 hlt hr 5 rfl
  have c6 := Wd.at0 hlt hr 6 rfl
  have b0 := numB_size b.server
  have b1 := textB_size b.actor
  have f1 : (numB b.server).size + (textB b.actor).size ≤ 9223372036854775807 := by omega
  have b2 := numB_size b.gen
  have f2 : (numB b.server).size + (textB b.actor).size + (numB b.gen).size ≤ 9223372036854775807 := by omega
  have b3 := textB_size b.claim
  have f3 : (numB b.server).size + (textB b.actor).size + (numB b.gen).size + (textB b.claim).size ≤ 9223372036854775807 := by omega
  have b4 := numB_size b.time
  have f4 : (numB b.server).size + (textB b.actor).size + (numB b.gen).size + (textB b.claim).size + (numB b.time).size ≤ 9223372036854775807 := by omega
  have HR : Hid ((((((numB b.server) ++ (textB b.actor)) ++ (numB b.gen)) ++ (textB b.claim)) ++ (numB b.time)) = ⟨(ballotL b).toArray⟩) := Lib.hid (by
    apply ba_ext
    rw [ba_list]
    simp only [ba_append, textB_list, numL_eq, ballotL, List.append_assoc])
  clear hlt hr
  go_enter Tryz.func163, Tryz.ntmps163
  go_wp2
  refine wp_region_wd x (by kernel_rfl) (by kernel_rfl) ?_
  repeat (go_big_quiet_step (first | (go_at_call 106; exact Wd.call _ (RNum_any _ _ (by omega))) | (go_at_call 108; exact Wd.call _ (RText_any _ _ (by omega)))))
  refine wpQuiet_nil ?_
  rintro w'' ⟨z, rfl⟩
  go_wp2
  go_ret
  exact ⟨by rw [← HR.out]; rfl, Q.trans hq1 z.q⟩
set_option maxRecDepth 100000 in
set_option maxHeartbeats 4000000 in
theorem rcoreDec_any (d : DecR) (w : World) (hI : DecIn w d) (hz : d.actor.size ≤ 1000000 ∧ d.object.size ≤ 1000000 ∧ d.text.size ≤ 1000000) (hl : d.to.length ≤ 1000000) (hzt : (listL d.to).length ≤ 100000000) (hn : d.server ≤ 9223372036854775807 ∧ d.number ≤ 9223372036854775807 ∧ d.kind ≤ 9223372036854775807 ∧ d.n ≤ 9223372036854775807 ∧ d.start ≤ 9223372036854775807 ∧ d.stop ≤ 9223372036854775807) : Calls Tryz.prog 164 #[.agg (decA d)] w fun r w' => r = .returned (.string ⟨(decL d).toArray⟩) ∧ Q w w' := by
  obtain ⟨w1, x, hx, hq1, hlt, hr⟩ := boxed2 w 44 d.cells
  have hx : w.alloc (.cells (decA d) 44) = x.w := hx
  have c0 := Wd.at0 hlt hr 0 rfl
  have c1 := Wd.at0 hlt hr 1 rfl
  have c2 := Wd.at0 hlt hr 2 rfl
  have c3 := Wd.at0 hlt hr 3 rfl
  have c4 := Wd.at0 hlt hr 4 rfl
  have c5 := Wd.at0 hlt hr 5 rfl
  have c6 := Wd.at0 hlt hr 6 rfl
  have c7 := Wd.at0 hlt hr 7 rfl
  have c8 := Wd.at0 hlt hr 8 rfl
  have c9 := Wd.at0 hlt hr 9 rfl
  have c10 := Wd.at0 hlt hr 10 rfl
  have c11 := Wd.at0 hlt hr 11 rfl
  have hS : ∀ y : Wd w1, Strs y.w d.toA d.to := fun y => (hI.q (Q.trans hq1 y.q)).to
  have b10' := listB_size d.to
  have b0 := numB_size d.server
  have b1 := numB_size d.number
  have f1 : (numB d.server).size + (numB d.number).size ≤ 9223372036854775807 := by omega
  have b2 := numB_size d.kind
  have f2 : (numB d.server).size + (numB d.number).size + (numB d.kind).size ≤ 9223372036854775807 := by omega
  have b3 := textB_size d.actor
  have f3 : (numB d.server).size + (numB d.number).size + (numB d.kind).size + (textB d.actor).size ≤ 9223372036854775807 := by omega
  have b4 := textB_size d.object
  have f4 : (numB d.server).size + (numB d.number).size + (numB d.kind).size + (textB d.actor).size + (textB d.object).size ≤ 9223372036854775807 := by omega
  have b5 := textB_size d.text
  have f5 : (numB d.server).size + (numB d.number).size + (numB d.kind).size + (textB d.actor).size + (textB d.object).size + (textB d.text).size ≤ 9223372036854775807 := by omega
  clear hlt hr
  go_enter Tryz.func164, Tryz.ntmps164
  go_wp2
  refine wp_region_wd x (by kernel_rfl) (by kernel_rfl) ?_
  repeat (go_big_quiet_step (first | (go_at_call 106; exact Wd.call _ (RNum_any _ _ (by omega))) | (go_at_call 108; exact Wd.call _ (RText_any _ _ (by omega)))))
  refine wpQuiet_nil ?_
  rintro w'' ⟨z, rfl⟩
  generalize hS3 : ((((((numB d.server) ++ (numB d.number)) ++ (numB d.kind)) ++ (textB d.actor)) ++ (textB d.object)) ++ (textB d.text)) = S3
  have s3 : S3.size ≤ 4000000 := by rw [← hS3]; simp only [ByteArray.size_append]; omega
  have H3 := Lib.hid hS3
  clear hS3 f1 f2 f3 f4 f5 b0 b1 b2 b3 b4 b5
  have f0 : S3.size + (listB d.to).size ≤ 9223372036854775807 := by omega
  have b1 := numB_size d.n
  have f1 : S3.size + (listB d.to).size + (numB d.n).size ≤ 9223372036854775807 := by omega
  have b2 := numB_size d.start
  have f2 : S3.size + (listB d.to).size + (numB d.n).size + (numB d.start).size ≤ 9223372036854775807 := by omega
  have b3 := numB_size d.stop
  have f3 : S3.size + (listB d.to).size + (numB d.n).size + (numB d.start).size + (numB d.stop).size ≤ 9223372036854775807 := by omega
  have HR : Hid (((((S3 ++ (listB d.to)) ++ (numB d.n)) ++ (numB d.start)) ++ (numB d.stop)) = ⟨(decL d).toArray⟩) := Lib.hid (by
    apply ba_ext
    rw [ba_list, ← H3.out]
    simp only [ba_append, textB_list, numL_eq, listB_list, decL, List.append_assoc])
  go_wp2
  refine wp_region_wd z (by kernel_rfl) (by kernel_rfl) ?_
  repeat (go_big_quiet_step (first | (go_at_call 106; exact Wd.call _ (RNum_any _ _ (by omega))) | (go_at_call 56; exact Wd.call _ (RList_any _ _ _ _ (hS _) (by omega) (by omega)))))
  refine wpQuiet_nil ?_
  rintro w'' ⟨z2, rfl⟩
  go_wp2
  go_ret
  exact ⟨by rw [← HR.out]; rfl, Q.trans hq1 z2.q⟩
end Go.Proofs.YtomkeaeegdjhnaaGreatDoor.Item

namespace Go.Proofs.YtomkeaeegdjhnaaGreatDoor.Item
open Go.RowKit Grp Mem _root_.Go.Proofs.YtomkeaeegdjhnaaGreatDoor.Code Sha Sign _root_.Go.Proofs.YtomkeaeegdjhnaaGreatDoor.Known

set_option maxRecDepth 100000 in
set_option maxHeartbeats 16000000 in
theorem rdecided_0 (d : DecR) (w : World) (hI : DecIn w d) (ho : DecOk d) (hk : d.kind = 0) (g1 : withinB d.server 0 19 = true) (g2 : withinB d.number 0 1073741824 = true) (g3 : withinB d.kind 0 9 = true) (g4 : withinB d.start 0 1099511627776 = true) (g5 : withinB d.stop 0 1099511627776 = true) (g6 : d.start < d.stop) (g7 : (inOrd d.e && inOrd d.s) = true) : Calls Tryz.prog 173 #[.agg (decA d)] w fun e w' => e = .returned (.bool (termsB d)) ∧ Q w w' := by
  obtain ⟨w1, x, hx, hq1, hlt, hr⟩ := boxed2 w 44 d.cells
  have hx : w.alloc (.cells (decA d) 44) = x.w := hx
  have c0 := Wd.at0 hlt hr 0 rfl
  have c1 := Wd.at0 hlt hr 1 rfl
  have c2 := Wd.at0 hlt hr 2 rfl
  have c3 := Wd.at0 hlt hr 3 rfl
  have c4 := Wd.at0 hlt hr 4 rfl
  have c5 := Wd.at0 hlt hr 5 rfl
  have c6 := Wd.at0 hlt hr 6 rfl
  have c7 := Wd.at0 hlt hr 7 rfl
  have c8 := Wd.at0 hlt hr 8 rfl
  have c9 := Wd.at0 hlt hr 9 rfl
  have c10 := Wd.at0 hlt hr 10 rfl
  have c11 := Wd.at0 hlt hr 11 rfl
  have hS : ∀ y : Wd w1, Strs y.w d.toA d.to := fun y => (hI.q (Q.trans hq1 y.q)).to
  have hlen : d.to.length ≤ 9223372036854775807 := hI.toLen
  have hzt : ∀ s ∈ d.to, s.size ≤ maxLen := ho.to
  have hza : d.actor.size ≤ maxLen := ho.strs _ (by simp)
  clear hlt hr ho
  rw [hk] at c2 g3
  go_enter Tryz.func173, Tryz.ntmps173
  go_wp2_with (first | (go_at_call 225; refine (from_at _ _ _ _ _ rfl).mono ?_; rintro e w' ⟨rfl, rfl⟩) | (go_at_call 226; refine (rsig_any _ _ _).mono ?_; rintro e w' ⟨rfl, hq2⟩; obtain ⟨y, rfl⟩ := Wd.next _ hq2; clear hq2) | (go_at_call 223; refine (ridRight_any _ _ hza).mono ?_; rintro e w' ⟨rfl, rfl⟩) | (go_at_call 227; refine (rids_any _ _ _ _ (hS _) hlen hzt).mono ?_; rintro e w' ⟨rfl, hq2⟩; obtain ⟨y, rfl⟩ := Wd.next _ hq2; clear hq2))
  all_goals
    go_ret
    refine ⟨?_, Q.trans hq1 (Wd.q _)⟩
    clear c0 c1 c2 c3 c4 c5 c6 c7 c8 c9 c10 c11 hx hS g1 g2 g3 g4 g5 g6 g7 hza hzt hlen
    simp_all [termsB, plainD, shortB, digestB, empty_none, cast0, cast32, toList_nil, cast500, cast4096, le500, lt500, le4096, lt4096, intz2]
  all_goals (first | omega | (intro h; omega) | (intros; simp_all) | (intros; omega))
set_option maxRecDepth 100000 in
set_option maxHeartbeats 16000000 in
theorem rdecided_1 (d : DecR) (w : World) (hI : DecIn w d) (ho : DecOk d) (hk : d.kind = 1) (g1 : withinB d.server 0 19 = true) (g2 : withinB d.number 0 1073741824 = true) (g3 : withinB d.kind 0 9 = true) (g4 : withinB d.start 0 1099511627776 = true) (g5 : withinB d.stop 0 1099511627776 = true) (g6 : d.start < d.stop) (g7 : (inOrd d.e && inOrd d.s) = true) : Calls Tryz.prog 173 #[.agg (decA d)] w fun e w' => e = .returned (.bool (termsB d)) ∧ Q w w' := by
  obtain ⟨w1, x, hx, hq1, hlt, hr⟩ := boxed2 w 44 d.cells
  have hx : w.alloc (.cells (decA d) 44) = x.w := hx
  have c0 := Wd.at0 hlt hr 0 rfl
  have c1 := Wd.at0 hlt hr 1 rfl
  have c2 := Wd.at0 hlt hr 2 rfl
  have c3 := Wd.at0 hlt hr 3 rfl
  have c4 := Wd.at0 hlt hr 4 rfl
  have c5 := Wd.at0 hlt hr 5 rfl
  have c6 := Wd.at0 hlt hr 6 rfl
  have c7 := Wd.at0 hlt hr 7 rfl
  have c8 := Wd.at0 hlt hr 8 rfl
  have c9 := Wd.at0 hlt hr 9 rfl
  have c10 := Wd.at0 hlt hr 10 rfl
  have c11 := Wd.at0 hlt hr 11 rfl
  have hS : ∀ y : Wd w1, Strs y.w d.toA d.to := fun y => (hI.q (Q.trans hq1 y.q)).to
  have hlen : d.to.length ≤ 9223372036854775807 := hI.toLen
  have hzt : ∀ s ∈ d.to, s.size ≤ maxLen := ho.to
  have hza : d.actor.size ≤ maxLen := ho.strs _ (by simp)
  clear hlt hr ho
  rw [hk] at c2 g3
  go_enter Tryz.func173, Tryz.ntmps173
  go_wp2_with (first | (go_at_call 225; refine (from_at _ _ _ _ _ rfl).mono ?_; rintro e w' ⟨rfl, rfl⟩) | (go_at_call 226; refine (rsig_any _ _ _).mono ?_; rintro e w' ⟨rfl, hq2⟩; obtain ⟨y, rfl⟩ := Wd.next _ hq2; clear hq2) | (go_at_call 223; refine (ridRight_any _ _ hza).mono ?_; rintro e w' ⟨rfl, rfl⟩) | (go_at_call 227; refine (rids_any _ _ _ _ (hS _) hlen hzt).mono ?_; rintro e w' ⟨rfl, hq2⟩; obtain ⟨y, rfl⟩ := Wd.next _ hq2; clear hq2))
  all_goals
    go_ret
    refine ⟨?_, Q.trans hq1 (Wd.q _)⟩
    clear c0 c1 c2 c3 c4 c5 c6 c7 c8 c9 c10 c11 hx hS g1 g2 g3 g4 g5 g6 g7 hza hzt hlen
    simp_all [termsB, plainD, shortB, digestB, empty_none, cast0, cast32, toList_nil, cast500, cast4096, le500, lt500, le4096, lt4096, intz2]
  all_goals (first | omega | (intro h; omega) | (intros; simp_all) | (intros; omega))
set_option maxRecDepth 100000 in
set_option maxHeartbeats 16000000 in
theorem rdecided_2 (d : DecR) (w : World) (hI : DecIn w d) (ho : DecOk d) (hk : d.kind = 2) (g1 : withinB d.server 0 19 = true) (g2 : withinB d.number 0 1073741824 = true) (g3 : withinB d.kind 0 9 = true) (g4 : withinB d.start 0 1099511627776 = true) (g5 : withinB d.stop 0 1099511627776 = true) (g6 : d.start < d.stop) (g7 : (inOrd d.e && inOrd d.s) = true) : Calls Tryz.prog 173 #[.agg (decA d)] w fun e w' => e = .returned (.bool (termsB d)) ∧ Q w w' := by
  obtain ⟨w1, x, hx, hq1, hlt, hr⟩ := boxed2 w 44 d.cells
  have hx : w.alloc (.cells (decA d) 44) = x.w := hx
  have c0 := Wd.at0 hlt hr 0 rfl
  have c1 := Wd.at0 hlt hr 1 rfl
  have c2 := Wd.at0 hlt hr 2 rfl
  have c3 := Wd.at0 hlt hr 3 rfl
  have c4 := Wd.at0 hlt hr 4 rfl
  have c5 := Wd.at0 hlt hr 5 rfl
  have c6 := Wd.at0 hlt hr 6 rfl
  have c7 := Wd.at0 hlt hr 7 rfl
  have c8 := Wd.at0 hlt hr 8 rfl
  have c9 := Wd.at0 hlt hr 9 rfl
  have c10 := Wd.at0 hlt hr 10 rfl
  have c11 := Wd.at0 hlt hr 11 rfl
  have hS : ∀ y : Wd w1, Strs y.w d.toA d.to := fun y => (hI.q (Q.trans hq1 y.q)).to
  have hlen : d.to.length ≤ 9223372036854775807 := hI.toLen
  have hzt : ∀ s ∈ d.to, s.size ≤ maxLen := ho.to
  have hza : d.actor.size ≤ maxLen := ho.strs _ (by simp)
  clear hlt hr ho
  rw [hk] at c2 g3
  go_enter Tryz.func173, Tryz.ntmps173
  go_wp2_with (first | (go_at_call 225; refine (from_at _ _ _ _ _ rfl).mono ?_; rintro e w' ⟨rfl, rfl⟩) | (go_at_call 226; refine (rsig_any _ _ _).mono ?_; rintro e w' ⟨rfl, hq2⟩; obtain ⟨y, rfl⟩ := Wd.next _ hq2; clear hq2) | (go_at_call 223; refine (ridRight_any _ _ hza).mono ?_; rintro e w' ⟨rfl, rfl⟩) | (go_at_call 227; refine (rids_any _ _ _ _ (hS _) hlen hzt).mono ?_; rintro e w' ⟨rfl, hq2⟩; obtain ⟨y, rfl⟩ := Wd.next _ hq2; clear hq2))
  all_goals
    go_ret
    refine ⟨?_, Q.trans hq1 (Wd.q _)⟩
    clear c0 c1 c2 c3 c4 c5 c6 c7 c8 c9 c10 c11 hx hS g1 g2 g3 g4 g5 g6 g7 hza hzt hlen
    simp_all [termsB, plainD, shortB, digestB, empty_none, cast0, cast32, toList_nil, cast500, cast4096, le500, lt500, le4096, lt4096, intz2]
  all_goals (first | omega | (intro h; omega) | (intros; simp_all) | (intros; omega))
set_option maxRecDepth 100000 in
set_option maxHeartbeats 16000000 in
theorem rdecided_3 (d : DecR) (w : World) (hI : DecIn w d) (ho : DecOk d) (hk : d.kind = 3) (g1 : withinB d.server 0 19 = true) (g2 : withinB d.number 0 1073741824 = true) (g3 : withinB d.kind 0 9 = true) (g4 : withinB d.start 0 1099511627776 = true) (g5 : withinB d.stop 0 1099511627776 = true) (g6 : d.start < d.stop) (g7 : (inOrd d.e && inOrd d.s) = true) : Calls Tryz.prog 173 #[.agg (decA d)] w fun e w' => e = .returned (.bool (termsB d)) ∧ Q w w' := by
  obtain ⟨w1, x, hx, hq1, hlt, hr⟩ := boxed2 w 44 d.cells
  have hx : w.alloc (.cells (decA d) 44) = x.w := hx
  have c0 := Wd.at0 hlt hr 0 rfl
  have c1 := Wd.at0 hlt hr 1 rfl
  have c2 := Wd.at0 hlt hr 2 rfl
  have c3 := Wd.at0 hlt hr 3 rfl
  have c4 := Wd.at0 hlt hr 4 rfl
  have c5 := Wd.at0 hlt hr 5 rfl
  have c6 := Wd.at0 hlt hr 6 rfl
  have c7 := Wd.at0 hlt hr 7 rfl
  have c8 := Wd.at0 hlt hr 8 rfl
  have c9 := Wd.at0 hlt hr 9 rfl
  have c10 := Wd.at0 hlt hr 10 rfl
  have c11 := Wd.at0 hlt hr 11 rfl
  have hS : ∀ y : Wd w1, Strs y.w d.toA d.to := fun y => (hI.q (Q.trans hq1 y.q)).to
  have hlen : d.to.length ≤ 9223372036854775807 := hI.toLen
  have hzt : ∀ s ∈ d.to, s.size ≤ maxLen := ho.to
  have hza : d.actor.size ≤ maxLen := ho.strs _ (by simp)
  clear hlt hr ho
  rw [hk] at c2 g3
  go_enter Tryz.func173, Tryz.ntmps173
  go_wp2_with (first | (go_at_call 225; refine (from_at _ _ _ _ _ rfl).mono ?_; rintro e w' ⟨rfl, rfl⟩) | (go_at_call 226; refine (rsig_any _ _ _).mono ?_; rintro e w' ⟨rfl, hq2⟩; obtain ⟨y, rfl⟩ := Wd.next _ hq2; clear hq2) | (go_at_call 223; refine (ridRight_any _ _ hza).mono ?_; rintro e w' ⟨rfl, rfl⟩) | (go_at_call 227; refine (rids_any _ _ _ _ (hS _) hlen hzt).mono ?_; rintro e w' ⟨rfl, hq2⟩; obtain ⟨y, rfl⟩ := Wd.next _ hq2; clear hq2))
  all_goals
    go_ret
    refine ⟨?_, Q.trans hq1 (Wd.q _)⟩
    clear c0 c1 c2 c3 c4 c5 c6 c7 c8 c9 c10 c11 hx hS g1 g2 g3 g4 g5 g6 g7 hza hzt hlen
    simp_all [termsB, plainD, shortB, digestB, empty_none, cast0, cast32, toList_nil, cast500, cast4096, le500, lt500, le4096, lt4096, intz2]
  all_goals (first | omega | (intro h; omega) | (intros; simp_all) | (intros; omega))
set_option maxRecDepth 100000 in
set_option maxHeartbeats 16000000 in
theorem rdecided_4 (d : DecR) (w : World) (hI : DecIn w d) (ho : DecOk d) (hk : d.kind = 4) (g1 : withinB d.server 0 19 = true) (g2 : withinB d.number 0 1073741824 = true) (g3 : withinB d.kind 0 9 = true) (g4 : withinB d.start 0 1099511627776 = true) (g5 : withinB d.stop 0 1099511627776 = true) (g6 : d.start < d.stop) (g7 : (inOrd d.e && inOrd d.s) = true) : Calls Tryz.prog 173 #[.agg (decA d)] w fun e w' => e = .returned (.bool (termsB d)) ∧ Q w w' := by
  obtain ⟨w1, x, hx, hq1, hlt, hr⟩ := boxed2 w 44 d.cells
  have hx : w.alloc (.cells (decA d) 44) = x.w := hx
  have c0 := Wd.at0 hlt hr 0 rfl
  have c1 := Wd.at0 hlt hr 1 rfl
  have c2 := Wd.at0 hlt hr 2 rfl
  have c3 := Wd.at0 hlt hr 3 rfl
  have c4 := Wd.at0 hlt hr 4 rfl
  have c5 := Wd.at0 hlt hr 5 rfl
  have c6 := Wd.at0 hlt hr 6 rfl
  have c7 := Wd.at0 hlt hr 7 rfl
  have c8 := Wd.at0 hlt hr 8 rfl
  have c9 := Wd.at0 hlt hr 9 rfl
  have c10 := Wd.at0 hlt hr 10 rfl
  have c11 := Wd.at0 hlt hr 11 rfl
  have hS : ∀ y : Wd w1, Strs y.w d.toA d.to := fun y => (hI.q (Q.trans hq1 y.q)).to
  have hlen : d.to.length ≤ 9223372036854775807 := hI.toLen
  have hzt : ∀ s ∈ d.to, s.size ≤ maxLen := ho.to
  have hza : d.actor.size ≤ maxLen := ho.strs _ (by simp)
  clear hlt hr ho
  rw [hk] at c2 g3
  go_enter Tryz.func173, Tryz.ntmps173
  go_wp2_with (first | (go_at_call 225; refine (from_at _ _ _ _ _ rfl).mono ?_; rintro e w' ⟨rfl, rfl⟩) | (go_at_call 226; refine (rsig_any _ _ _).mono ?_; rintro e w' ⟨rfl, hq2⟩; obtain ⟨y, rfl⟩ := Wd.next _ hq2; clear hq2) | (go_at_call 223; refine (ridRight_any _ _ hza).mono ?_; rintro e w' ⟨rfl, rfl⟩) | (go_at_call 227; refine (rids_any _ _ _ _ (hS _) hlen hzt).mono ?_; rintro e w' ⟨rfl, hq2⟩; obtain ⟨y, rfl⟩ := Wd.next _ hq2; clear hq2))
  all_goals
    go_ret
    refine ⟨?_, Q.trans hq1 (Wd.q _)⟩
    clear c0 c1 c2 c3 c4 c5 c6 c7 c8 c9 c10 c11 hx hS g1 g2 g3 g4 g5 g6 g7 hza hzt hlen
    simp_all [termsB, plainD, shortB, digestB, empty_none, cast0, cast32, toList_nil, cast500, cast4096, le500, lt500, le4096, lt4096, intz2]
  all_goals (first | omega | (intro h; omega) | (intros; simp_all) | (intros; omega))
end Go.Proofs.YtomkeaeegdjhnaaGreatDoor.Item

namespace Go.Proofs.YtomkeaeegdjhnaaGreatDoor.Item
open Go.RowKit Grp Mem _root_.Go.Proofs.YtomkeaeegdjhnaaGreatDoor.Code Sha Sign _root_.Go.Proofs.YtomkeaeegdjhnaaGreatDoor.Known

set_option maxRecDepth 100000 in
set_option maxHeartbeats 16000000 in
theorem rdecided_5 (d : DecR) (w : World) (hI : DecIn w d) (ho : DecOk d) (hk : d.kind = 5) (g1 : withinB d.server 0 19 = true) (g2 : withinB d.number 0 1073741824 = true) (g3 : withinB d.kind 0 9 = true) (g4 : withinB d.start 0 1099511627776 = true) (g5 : withinB d.stop 0 1099511627776 = true) (g6 : d.start < d.stop) (g7 : (inOrd d.e && inOrd d.s) = true) : Calls Tryz.prog 173 #[.agg (decA d)] w fun e w' => e = .returned (.bool (termsB d)) ∧ Q w w' := by
  obtain ⟨w1, x, hx, hq1, hlt, hr⟩ := boxed2 w 44 d.cells
  have hx : w.alloc (.cells (decA d) 44) = x.w := hx
  have c0 := Wd.at0 hlt hr 0 rfl
  have c1 := Wd.at0 hlt hr 1 rfl
  have c2 := Wd.at0 hlt hr 2 rfl
  have c3 := Wd.at0 hlt hr 3 rfl
  have c4 := Wd.at0 hlt hr 4 rfl
  have c5 := Wd.at0 hlt hr 5 rfl
  have c6 := Wd.at0 hlt hr 6 rfl
  have c7 := Wd.at0 hlt hr 7 rfl
  have c8 := Wd.at0 hlt hr 8 rfl
  have c9 := Wd.at0 hlt hr 9 rfl
  have c10 := Wd.at0 hlt hr 10 rfl
  have c11 := Wd.at0 hlt hr 11 rfl
  have hS : ∀ y : Wd w1, Strs y.w d.toA d.to := fun y => (hI.q (Q.trans hq1 y.q)).to
  have hlen : d.to.length ≤ 9223372036854775807 := hI.toLen
  have hzt : ∀ s ∈ d.to, s.size ≤ maxLen := ho.to
  have hza : d.actor.size ≤ maxLen := ho.strs _ (by simp)
  clear hlt hr ho
  rw [hk] at c2 g3
  go_enter Tryz.func173, Tryz.ntmps173
  go_wp2_with (first | (go_at_call 225; refine (from_at _ _ _ _ _ rfl).mono ?_; rintro e w' ⟨rfl, rfl⟩) | (go_at_call 226; refine (rsig_any _ _ _).mono ?_; rintro e w' ⟨rfl, hq2⟩; obtain ⟨y, rfl⟩ := Wd.next _ hq2; clear hq2) | (go_at_call 223; refine (ridRight_any _ _ hza).mono ?_; rintro e w' ⟨rfl, rfl⟩) | (go_at_call 227; refine (rids_any _ _ _ _ (hS _) hlen hzt).mono ?_; rintro e w' ⟨rfl, hq2⟩; obtain ⟨y, rfl⟩ := Wd.next _ hq2; clear hq2))
  all_goals
    go_ret
    refine ⟨?_, Q.trans hq1 (Wd.q _)⟩
    clear c0 c1 c2 c3 c4 c5 c6 c7 c8 c9 c10 c11 hx hS g1 g2 g3 g4 g5 g6 g7 hza hzt hlen
    simp_all [termsB, plainD, shortB, digestB, empty_none, cast0, cast32, toList_nil, cast500, cast4096, le500, lt500, le4096, lt4096, intz2]
  all_goals (first | omega | (intro h; omega) | (intros; simp_all) | (intros; omega))
set_option maxRecDepth 100000 in
set_option maxHeartbeats 16000000 in
theorem rdecided_6 (d : DecR) (w : World) (hI : DecIn w d) (ho : DecOk d) (hk : d.kind = 6) (g1 : withinB d.server 0 19 = true) (g2 : withinB d.number 0 1073741824 = true) (g3 : withinB d.kind 0 9 = true) (g4 : withinB d.start 0 1099511627776 = true) (g5 : withinB d.stop 0 1099511627776 = true) (g6 : d.start < d.stop) (g7 : (inOrd d.e && inOrd d.s) = true) : Calls Tryz.prog 173 #[.agg (decA d)] w fun e w' => e = .returned (.bool (termsB d)) ∧ Q w w' := by
  obtain ⟨w1, x, hx, hq1, hlt, hr⟩ := boxed2 w 44 d.cells
  have hx : w.alloc (.cells (decA d) 44) = x.w := hx
  have c0 := Wd.at0 hlt hr 0 rfl
  have c1 := Wd.at0 hlt hr 1 rfl
  have c2 := Wd.at0 hlt hr 2 rfl
  have c3 := Wd.at0 hlt hr 3 rfl
  have c4 := Wd.at0 hlt hr 4 rfl
  have c5 := Wd.at0 hlt hr 5 rfl
  have c6 := Wd.at0 hlt hr 6 rfl
  have c7 := Wd.at0 hlt hr 7 rfl
  have c8 := Wd.at0 hlt hr 8 rfl
  have c9 := Wd.at0 hlt hr 9 rfl
  have c10 := Wd.at0 hlt hr 10 rfl
  have c11 := Wd.at0 hlt hr 11 rfl
  have hS : ∀ y : Wd w1, Strs y.w d.toA d.to := fun y => (hI.q (Q.trans hq1 y.q)).to
  have hlen : d.to.length ≤ 9223372036854775807 := hI.toLen
  have hzt : ∀ s ∈ d.to, s.size ≤ maxLen := ho.to
  have hza : d.actor.size ≤ maxLen := ho.strs _ (by simp)
  clear hlt hr ho
  rw [hk] at c2 g3
  go_enter Tryz.func173, Tryz.ntmps173
  go_wp2_with (first | (go_at_call 225; refine (from_at _ _ _ _ _ rfl).mono ?_; rintro e w' ⟨rfl, rfl⟩) | (go_at_call 226; refine (rsig_any _ _ _).mono ?_; rintro e w' ⟨rfl, hq2⟩; obtain ⟨y, rfl⟩ := Wd.next _ hq2; clear hq2) | (go_at_call 223; refine (ridRight_any _ _ hza).mono ?_; rintro e w' ⟨rfl, rfl⟩) | (go_at_call 227; refine (rids_any _ _ _ _ (hS _) hlen hzt).mono ?_; rintro e w' ⟨rfl, hq2⟩; obtain ⟨y, rfl⟩ := Wd.next _ hq2; clear hq2))
  all_goals
    go_ret
    refine ⟨?_, Q.trans hq1 (Wd.q _)⟩
    clear c0 c1 c2 c3 c4 c5 c6 c7 c8 c9 c10 c11 hx hS g1 g2 g3 g4 g5 g6 g7 hza hzt hlen
    simp_all [termsB, plainD, shortB, digestB, empty_none, cast0, cast32, toList_nil, cast500, cast4096, le500, lt500, le4096, lt4096, intz2]
  all_goals (first | omega | (intro h; omega) | (intros; simp_all) | (intros; omega))
set_option maxRecDepth 100000 in
set_option maxHeartbeats 16000000 in
theorem rdecided_7 (d : DecR) (w : World) (hI : DecIn w d) (ho : DecOk d) (hk : d.kind = 7) (g1 : withinB d.server 0 19 = true) (g2 : withinB d.number 0 1073741824 = true) (g3 : withinB d.kind 0 9 = true) (g4 : withinB d.start 0 1099511627776 = true) (g5 : withinB d.stop 0 1099511627776 = true) (g6 : d.start < d.stop) (g7 : (inOrd d.e && inOrd d.s) = true) : Calls Tryz.prog 173 #[.agg (decA d)] w fun e w' => e = .returned (.bool (termsB d)) ∧ Q w w' := by
  obtain ⟨w1, x, hx, hq1, hlt, hr⟩ := boxed2 w 44 d.cells
  have hx : w.alloc (.cells (decA d) 44) = x.w := hx
  have c0 := Wd.at0 hlt hr 0 rfl
  have c1 := Wd.at0 hlt hr 1 rfl
  have c2 := Wd.at0 hlt hr 2 rfl
  have c3 := Wd.at0 hlt hr 3 rfl
  have c4 := Wd.at0 hlt hr 4 rfl
  have c5 := Wd.at0 hlt hr 5 rfl
  have c6 := Wd.at0 hlt hr 6 rfl
  have c7 := Wd.at0 hlt hr 7 rfl
  have c8 := Wd.at0 hlt hr 8 rfl
  have c9 := Wd.at0 hlt hr 9 rfl
  have c10 := Wd.at0 hlt hr 10 rfl
  have c11 := Wd.at0 hlt hr 11 rfl
  have hS : ∀ y : Wd w1, Strs y.w d.toA d.to := fun y => (hI.q (Q.trans hq1 y.q)).to
  have hlen : d.to.length ≤ 9223372036854775807 := hI.toLen
  have hzt : ∀ s ∈ d.to, s.size ≤ maxLen := ho.to
  have hza : d.actor.size ≤ maxLen := ho.strs _ (by simp)
  clear hlt hr ho
  rw [hk] at c2 g3
  go_enter Tryz.func173, Tryz.ntmps173
  go_wp2_with (first | (go_at_call 225; refine (from_at _ _ _ _ _ rfl).mono ?_; rintro e w' ⟨rfl, rfl⟩) | (go_at_call 226; refine (rsig_any _ _ _).mono ?_; rintro e w' ⟨rfl, hq2⟩; obtain ⟨y, rfl⟩ := Wd.next _ hq2; clear hq2) | (go_at_call 223; refine (ridRight_any _ _ hza).mono ?_; rintro e w' ⟨rfl, rfl⟩) | (go_at_call 227; refine (rids_any _ _ _ _ (hS _) hlen hzt).mono ?_; rintro e w' ⟨rfl, hq2⟩; obtain ⟨y, rfl⟩ := Wd.next _ hq2; clear hq2))
  all_goals
    go_ret
    refine ⟨?_, Q.trans hq1 (Wd.q _)⟩
    clear c0 c1 c2 c3 c4 c5 c6 c7 c8 c9 c10 c11 hx hS g1 g2 g3 g4 g5 g6 g7 hza hzt hlen
    simp_all [termsB, plainD, shortB, digestB, empty_none, cast0, cast32, toList_nil, cast500, cast4096, le500, lt500, le4096, lt4096, intz2]
  all_goals (first | omega | (intro h; omega) | (intros; simp_all) | (intros; omega))
set_option maxRecDepth 100000 in
set_option maxHeartbeats 16000000 in
theorem rdecided_9 (d : DecR) (w : World) (hI : DecIn w d) (ho : DecOk d) (hk : d.kind = 9) (g1 : withinB d.server 0 19 = true) (g2 : withinB d.number 0 1073741824 = true) (g3 : withinB d.kind 0 9 = true) (g4 : withinB d.start 0 1099511627776 = true) (g5 : withinB d.stop 0 1099511627776 = true) (g6 : d.start < d.stop) (g7 : (inOrd d.e && inOrd d.s) = true) : Calls Tryz.prog 173 #[.agg (decA d)] w fun e w' => e = .returned (.bool (termsB d)) ∧ Q w w' := by
  obtain ⟨w1, x, hx, hq1, hlt, hr⟩ := boxed2 w 44 d.cells
  have hx : w.alloc (.cells (decA d) 44) = x.w := hx
  have c0 := Wd.at0 hlt hr 0 rfl
  have c1 := Wd.at0 hlt hr 1 rfl
  have c2 := Wd.at0 hlt hr 2 rfl
  have c3 := Wd.at0 hlt hr 3 rfl
  have c4 := Wd.at0 hlt hr 4 rfl
  have c5 := Wd.at0 hlt hr 5 rfl
  have c6 := Wd.at0 hlt hr 6 rfl
  have c7 := Wd.at0 hlt hr 7 rfl
  have c8 := Wd.at0 hlt hr 8 rfl
  have c9 := Wd.at0 hlt hr 9 rfl
  have c10 := Wd.at0 hlt hr 10 rfl
  have c11 := Wd.at0 hlt hr 11 rfl
  have hS : ∀ y : Wd w1, Strs y.w d.toA d.to := fun y => (hI.q (Q.trans hq1 y.q)).to
  have hlen : d.to.length ≤ 9223372036854775807 := hI.toLen
  have hzt : ∀ s ∈ d.to, s.size ≤ maxLen := ho.to
  have hza : d.actor.size ≤ maxLen := ho.strs _ (by simp)
  clear hlt hr ho
  rw [hk] at c2 g3
  go_enter Tryz.func173, Tryz.ntmps173
  go_wp2_with (first | (go_at_call 225; refine (from_at _ _ _ _ _ rfl).mono ?_; rintro e w' ⟨rfl, rfl⟩) | (go_at_call 226; refine (rsig_any _ _ _).mono ?_; rintro e w' ⟨rfl, hq2⟩; obtain ⟨y, rfl⟩ := Wd.next _ hq2; clear hq2) | (go_at_call 223; refine (ridRight_any _ _ hza).mono ?_; rintro e w' ⟨rfl, rfl⟩) | (go_at_call 227; refine (rids_any _ _ _ _ (hS _) hlen hzt).mono ?_; rintro e w' ⟨rfl, hq2⟩; obtain ⟨y, rfl⟩ := Wd.next _ hq2; clear hq2))
  all_goals
    go_ret
    refine ⟨?_, Q.trans hq1 (Wd.q _)⟩
    clear c0 c1 c2 c3 c4 c5 c6 c7 c8 c9 c10 c11 hx hS g1 g2 g3 g4 g5 g6 g7 hza hzt hlen
    simp_all [termsB, plainD, shortB, digestB, empty_none, cast0, cast32, toList_nil, cast500, cast4096, le500, lt500, le4096, lt4096, intz2]
  all_goals (first | omega | (intro h; omega) | (intros; simp_all) | (intros; omega))
end Go.Proofs.YtomkeaeegdjhnaaGreatDoor.Item

namespace Go.Proofs.YtomkeaeegdjhnaaGreatDoor.Item
open Go.RowKit Grp Mem _root_.Go.Proofs.YtomkeaeegdjhnaaGreatDoor.Code Sha Sign _root_.Go.Proofs.YtomkeaeegdjhnaaGreatDoor.Known

set_option maxRecDepth 100000 in
set_option maxHeartbeats 8000000 in
theorem rdecided_8 (d : DecR) (w : World) (hI : DecIn w d) (ho : DecOk d) (hk : d.kind = 8) (g1 : withinB d.server 0 19 = true) (g2 : withinB d.number 0 1073741824 = true) (g3 : withinB d.kind 0 9 = true) (g4 : withinB d.start 0 1099511627776 = true) (g5 : withinB d.stop 0 1099511627776 = true) (g6 : d.start < d.stop) (g7 : (inOrd d.e && inOrd d.s) = true) : Calls Tryz.prog 173 #[.agg (decA d)] w fun e w' => e = .returned (.bool (termsB d)) ∧ Q w w' := by
  obtain ⟨w1, x, hx, hq1, hlt, hr⟩ := boxed2 w 44 d.cells
  have hx : w.alloc (.cells (decA d) 44) = x.w := hx
  have c0 := Wd.at0 hlt hr 0 rfl
  have c1 := Wd.at0 hlt hr 1 rfl
  have c2 := Wd.at0 hlt hr 2 rfl
  have c3 := Wd.at0 hlt hr 3 rfl
  have c4 := Wd.at0 hlt hr 4 rfl
  have c5 := Wd.at0 hlt hr 5 rfl
  have c6 := Wd.at0 hlt hr 6 rfl
  have c7 := Wd.at0 hlt hr 7 rfl
  have c8 := Wd.at0 hlt hr 8 rfl
  have c9 := Wd.at0 hlt hr 9 rfl
  have c10 := Wd.at0 hlt hr 10 rfl
  have c11 := Wd.at0 hlt hr 11 rfl
  have hS : ∀ y : Wd w1, Strs y.w d.toA d.to := fun y => (hI.q (Q.trans hq1 y.q)).to
  have hlen : d.to.length ≤ 9223372036854775807 := hI.toLen
  have hzt : ∀ s ∈ d.to, s.size ≤ maxLen := ho.to
  have hza : d.actor.size ≤ maxLen := ho.strs _ (by simp)
  clear hlt hr ho
  have HT := Lib.hid (show termsB d = (noneB d.actor && (noneB d.object && (shortB d.text && (idsB d.to && withinB d.n 1 d.to.length)))) by unfold termsB; rw [if_neg (by omega), if_neg (by omega), if_pos hk])
  rw [hk] at c2 g3
  clear hk
  have ea := empty_none d.actor
  have eo := empty_none d.object
  have et := cast500 d.text.size
  rcases ways5 (noneB d.actor) (noneB d.object) (shortB d.text) (idsB d.to) (withinB d.n 1 d.to.length) with k1 | ⟨k1, k2⟩ | ⟨k1, k2, k3⟩ | ⟨k1, k2, k3, k4⟩ | ⟨k1, k2, k3, k4, k5⟩ | ⟨k1, k2, k3, k4, k5⟩
  · have HR := Lib.hid (show termsB d = false by rw [HT.out, k1]; rfl)
    rw [k1] at ea
    clear et HT k1
    by_cases p1 : d.to.length = 0
    · have p2 : ((d.to.length : Int) == 0) = true := by rw [p1]; rfl
      by_cases p3 : d.n = 0
      · have p4 : (d.n == 0) = true := by simp [p3]
        clear p1 p3
        go_enter Tryz.func173, Tryz.ntmps173
        go_wp2_with (first | (go_at_call 225; refine (from_at _ _ _ _ _ rfl).mono ?_; rintro e w' ⟨rfl, rfl⟩) | (go_at_call 226; refine (rsig_any _ _ _).mono ?_; rintro e w' ⟨rfl, hq2⟩; obtain ⟨y, rfl⟩ := Wd.next _ hq2; clear hq2) | (go_at_call 223; refine (ridRight_any _ _ hza).mono ?_; rintro e w' ⟨rfl, rfl⟩) | (go_at_call 227; refine (rids_any _ _ _ _ (hS _) hlen hzt).mono ?_; rintro e w' ⟨rfl, hq2⟩; obtain ⟨y, rfl⟩ := Wd.next _ hq2; clear hq2))
        all_goals go_ret
        all_goals exact ⟨by rw [HR.out]; rfl, Q.trans hq1 (Wd.q _)⟩
      · have p4 : (d.n == 0) = false := by simpa using p3
        clear p1 p3
        go_enter Tryz.func173, Tryz.ntmps173
        go_wp2_with (first | (go_at_call 225; refine (from_at _ _ _ _ _ rfl).mono ?_; rintro e w' ⟨rfl, rfl⟩) | (go_at_call 226; refine (rsig_any _ _ _).mono ?_; rintro e w' ⟨rfl, hq2⟩; obtain ⟨y, rfl⟩ := Wd.next _ hq2; clear hq2) | (go_at_call 223; refine (ridRight_any _ _ hza).mono ?_; rintro e w' ⟨rfl, rfl⟩) | (go_at_call 227; refine (rids_any _ _ _ _ (hS _) hlen hzt).mono ?_; rintro e w' ⟨rfl, hq2⟩; obtain ⟨y, rfl⟩ := Wd.next _ hq2; clear hq2))
        all_goals go_ret
        all_goals exact ⟨by rw [HR.out]; rfl, Q.trans hq1 (Wd.q _)⟩
    · have p2 : ((d.to.length : Int) == 0) = false := beq_eq_false_iff_ne.2 (by omega)
      clear p1
      go_enter Tryz.func173, Tryz.ntmps173
      go_wp2_with (first | (go_at_call 225; refine (from_at _ _ _ _ _ rfl).mono ?_; rintro e w' ⟨rfl, rfl⟩) | (go_at_call 226; refine (rsig_any _ _ _).mono ?_; rintro e w' ⟨rfl, hq2⟩; obtain ⟨y, rfl⟩ := Wd.next _ hq2; clear hq2) | (go_at_call 223; refine (ridRight_any _ _ hza).mono ?_; rintro e w' ⟨rfl, rfl⟩) | (go_at_call 227; refine (rids_any _ _ _ _ (hS _) hlen hzt).mono ?_; rintro e w' ⟨rfl, hq2⟩; obtain ⟨y, rfl⟩ := Wd.next _ hq2; clear hq2))
      all_goals go_ret
      all_goals exact ⟨by rw [HR.out]; rfl, Q.trans hq1 (Wd.q _)⟩
  · have HR := Lib.hid (show termsB d = false by rw [HT.out, k1, k2]; rfl)
    rw [k1] at ea
    rw [k2] at eo
    clear et HT k1
    by_cases p1 : d.to.length = 0
    · have p2 : ((d.to.length : Int) == 0) = true := by rw [p1]; rfl
      by_cases p3 : d.n = 0
      · have p4 : (d.n == 0) = true := by simp [p3]
        clear p1 p3
        go_enter Tryz.func173, Tryz.ntmps173
        go_wp2_with (first | (go_at_call 225; refine (from_at _ _ _ _ _ rfl).mono ?_; rintro e w' ⟨rfl, rfl⟩) | (go_at_call 226; refine (rsig_any _ _ _).mono ?_; rintro e w' ⟨rfl, hq2⟩; obtain ⟨y, rfl⟩ := Wd.next _ hq2; clear hq2) | (go_at_call 223; refine (ridRight_any _ _ hza).mono ?_; rintro e w' ⟨rfl, rfl⟩) | (go_at_call 227; refine (rids_any _ _ _ _ (hS _) hlen hzt).mono ?_; rintro e w' ⟨rfl, hq2⟩; obtain ⟨y, rfl⟩ := Wd.next _ hq2; clear hq2))
        all_goals go_ret
        all_goals exact ⟨by rw [HR.out]; rfl, Q.trans hq1 (Wd.q _)⟩
      · have p4 : (d.n == 0) = false := by simpa using p3
        clear p1 p3
        go_enter Tryz.func173, Tryz.ntmps173
        go_wp2_with (first | (go_at_call 225; refine (from_at _ _ _ _ _ rfl).mono ?_; rintro e w' ⟨rfl, rfl⟩) | (go_at_call 226; refine (rsig_any _ _ _).mono ?_; rintro e w' ⟨rfl, hq2⟩; obtain ⟨y, rfl⟩ := Wd.next _ hq2; clear hq2) | (go_at_call 223; refine (ridRight_any _ _ hza).mono ?_; rintro e w' ⟨rfl, rfl⟩) | (go_at_call 227; refine (rids_any _ _ _ _ (hS _) hlen hzt).mono ?_; rintro e w' ⟨rfl, hq2⟩; obtain ⟨y, rfl⟩ := Wd.next _ hq2; clear hq2))
        all_goals go_ret
        all_goals exact ⟨by rw [HR.out]; rfl, Q.trans hq1 (Wd.q _)⟩
    · have p2 : ((d.to.length : Int) == 0) = false := beq_eq_false_iff_ne.2 (by omega)
      clear p1
      go_enter Tryz.func173, Tryz.ntmps173
      go_wp2_with (first | (go_at_call 225; refine (from_at _ _ _ _ _ rfl).mono ?_; rintro e w' ⟨rfl, rfl⟩) | (go_at_call 226; refine (rsig_any _ _ _).mono ?_; rintro e w' ⟨rfl, hq2⟩; obtain ⟨y, rfl⟩ := Wd.next _ hq2; clear hq2) | (go_at_call 223; refine (ridRight_any _ _ hza).mono ?_; rintro e w' ⟨rfl, rfl⟩) | (go_at_call 227; refine (rids_any _ _ _ _ (hS _) hlen hzt).mono ?_; rintro e w' ⟨rfl, hq2⟩; obtain ⟨y, rfl⟩ := Wd.next _ hq2; clear hq2))
      all_goals go_ret
      all_goals exact ⟨by rw [HR.out]; rfl, Q.trans hq1 (Wd.q _)⟩
  · have HR := Lib.hid (show termsB d = false by rw [HT.out, k1, k2, k3]; rfl)
    rw [k1] at ea
    rw [k2] at eo
    have et2 : ¬ (d.text.size : Int) ≤ 500 := by simp [shortB] at k3; omega
    clear et HT k1
    by_cases p1 : d.to.length = 0
    · have p2 : ((d.to.length : Int) == 0) = true := by rw [p1]; rfl
      by_cases p3 : d.n = 0
      · have p4 : (d.n == 0) = true := by simp [p3]
        clear p1 p3
        go_enter Tryz.func173, Tryz.ntmps173
        go_wp2_with (first | (go_at_call 225; refine (from_at _ _ _ _ _ rfl).mono ?_; rintro e w' ⟨rfl, rfl⟩) | (go_at_call 226; refine (rsig_any _ _ _).mono ?_; rintro e w' ⟨rfl, hq2⟩; obtain ⟨y, rfl⟩ := Wd.next _ hq2; clear hq2) | (go_at_call 223; refine (ridRight_any _ _ hza).mono ?_; rintro e w' ⟨rfl, rfl⟩) | (go_at_call 227; refine (rids_any _ _ _ _ (hS _) hlen hzt).mono ?_; rintro e w' ⟨rfl, hq2⟩; obtain ⟨y, rfl⟩ := Wd.next _ hq2; clear hq2))
        all_goals go_ret
        all_goals exact ⟨by rw [HR.out]; rfl, Q.trans hq1 (Wd.q _)⟩
      · have p4 : (d.n == 0) = false := by simpa using p3
        clear p1 p3
        go_enter Tryz.func173, Tryz.ntmps173
        go_wp2_with (first | (go_at_call 225; refine (from_at _ _ _ _ _ rfl).mono ?_; rintro e w' ⟨rfl, rfl⟩) | (go_at_call 226; refine (rsig_any _ _ _).mono ?_; rintro e w' ⟨rfl, hq2⟩; obtain ⟨y, rfl⟩ := Wd.next _ hq2; clear hq2) | (go_at_call 223; refine (ridRight_any _ _ hza).mono ?_; rintro e w' ⟨rfl, rfl⟩) | (go_at_call 227; refine (rids_any _ _ _ _ (hS _) hlen hzt).mono ?_; rintro e w' ⟨rfl, hq2⟩; obtain ⟨y, rfl⟩ := Wd.next _ hq2; clear hq2))
        all_goals go_ret
        all_goals exact ⟨by rw [HR.out]; rfl, Q.trans hq1 (Wd.q _)⟩
    · have p2 : ((d.to.length : Int) == 0) = false := beq_eq_false_iff_ne.2 (by omega)
      clear p1
      go_enter Tryz.func173, Tryz.ntmps173
      go_wp2_with (first | (go_at_call 225; refine (from_at _ _ _ _ _ rfl).mono ?_; rintro e w' ⟨rfl, rfl⟩) | (go_at_call 226; refine (rsig_any _ _ _).mono ?_; rintro e w' ⟨rfl, hq2⟩; obtain ⟨y, rfl⟩ := Wd.next _ hq2; clear hq2) | (go_at_call 223; refine (ridRight_any _ _ hza).mono ?_; rintro e w' ⟨rfl, rfl⟩) | (go_at_call 227; refine (rids_any _ _ _ _ (hS _) hlen hzt).mono ?_; rintro e w' ⟨rfl, hq2⟩; obtain ⟨y, rfl⟩ := Wd.next _ hq2; clear hq2))
      all_goals go_ret
      all_goals exact ⟨by rw [HR.out]; rfl, Q.trans hq1 (Wd.q _)⟩
  · have HR := Lib.hid (show termsB d = false by rw [HT.out, k1, k2, k3, k4]; rfl)
    rw [k1] at ea
    rw [k2] at eo
    have et2 : (d.text.size : Int) ≤ 500 := by simp [shortB] at k3; omega
    clear et HT k1
    by_cases p1 : d.to.length = 0
    · have p2 : ((d.to.length : Int) == 0) = true := by rw [p1]; rfl
      by_cases p3 : d.n = 0
      · have p4 : (d.n == 0) = true := by simp [p3]
        clear p1 p3
        go_enter Tryz.func173, Tryz.ntmps173
        go_wp2_with (first | (go_at_call 225; refine (from_at _ _ _ _ _ rfl).mono ?_; rintro e w' ⟨rfl, rfl⟩) | (go_at_call 226; refine (rsig_any _ _ _).mono ?_; rintro e w' ⟨rfl, hq2⟩; obtain ⟨y, rfl⟩ := Wd.next _ hq2; clear hq2) | (go_at_call 223; refine (ridRight_any _ _ hza).mono ?_; rintro e w' ⟨rfl, rfl⟩) | (go_at_call 227; refine (rids_any _ _ _ _ (hS _) hlen hzt).mono ?_; rintro e w' ⟨rfl, hq2⟩; obtain ⟨y, rfl⟩ := Wd.next _ hq2; clear hq2))
        all_goals go_ret
        all_goals exact ⟨by rw [HR.out]; rfl, Q.trans hq1 (Wd.q _)⟩
      · have p4 : (d.n == 0) = false := by simpa using p3
        clear p1 p3
        go_enter Tryz.func173, Tryz.ntmps173
        go_wp2_with (first | (go_at_call 225; refine (from_at _ _ _ _ _ rfl).mono ?_; rintro e w' ⟨rfl, rfl⟩) | (go_at_call 226; refine (rsig_any _ _ _).mono ?_; rintro e w' ⟨rfl, hq2⟩; obtain ⟨y, rfl⟩ := Wd.next _ hq2; clear hq2) | (go_at_call 223; refine (ridRight_any _ _ hza).mono ?_; rintro e w' ⟨rfl, rfl⟩) | (go_at_call 227; refine (rids_any _ _ _ _ (hS _) hlen hzt).mono ?_; rintro e w' ⟨rfl, hq2⟩; obtain ⟨y, rfl⟩ := Wd.next _ hq2; clear hq2))
        all_goals go_ret
        all_goals exact ⟨by rw [HR.out]; rfl, Q.trans hq1 (Wd.q _)⟩
    · have p2 : ((d.to.length : Int) == 0) = false := beq_eq_false_iff_ne.2 (by omega)
      clear p1
      go_enter Tryz.func173, Tryz.ntmps173
      go_wp2_with (first | (go_at_call 225; refine (from_at _ _ _ _ _ rfl).mono ?_; rintro e w' ⟨rfl, rfl⟩) | (go_at_call 226; refine (rsig_any _ _ _).mono ?_; rintro e w' ⟨rfl, hq2⟩; obtain ⟨y, rfl⟩ := Wd.next _ hq2; clear hq2) | (go_at_call 223; refine (ridRight_any _ _ hza).mono ?_; rintro e w' ⟨rfl, rfl⟩) | (go_at_call 227; refine (rids_any _ _ _ _ (hS _) hlen hzt).mono ?_; rintro e w' ⟨rfl, hq2⟩; obtain ⟨y, rfl⟩ := Wd.next _ hq2; clear hq2))
      all_goals go_ret
      all_goals exact ⟨by rw [HR.out]; rfl, Q.trans hq1 (Wd.q _)⟩
  · have HR := Lib.hid (show termsB d = false by rw [HT.out, k1, k2, k3, k4, k5]; rfl)
    rw [k1] at ea
    rw [k2] at eo
    have et2 : (d.text.size : Int) ≤ 500 := by simp [shortB] at k3; omega
    clear et HT k1
    by_cases p1 : d.to.length = 0
    · have p2 : ((d.to.length : Int) == 0) = true := by rw [p1]; rfl
      by_cases p3 : d.n = 0
      · have p4 : (d.n == 0) = true := by simp [p3]
        clear p1 p3
        go_enter Tryz.func173, Tryz.ntmps173
        go_wp2_with (first | (go_at_call 225; refine (from_at _ _ _ _ _ rfl).mono ?_; rintro e w' ⟨rfl, rfl⟩) | (go_at_call 226; refine (rsig_any _ _ _).mono ?_; rintro e w' ⟨rfl, hq2⟩; obtain ⟨y, rfl⟩ := Wd.next _ hq2; clear hq2) | (go_at_call 223; refine (ridRight_any _ _ hza).mono ?_; rintro e w' ⟨rfl, rfl⟩) | (go_at_call 227; refine (rids_any _ _ _ _ (hS _) hlen hzt).mono ?_; rintro e w' ⟨rfl, hq2⟩; obtain ⟨y, rfl⟩ := Wd.next _ hq2; clear hq2))
        all_goals go_ret
        all_goals exact ⟨by rw [HR.out]; rfl, Q.trans hq1 (Wd.q _)⟩
      · have p4 : (d.n == 0) = false := by simpa using p3
        clear p1 p3
        go_enter Tryz.func173, Tryz.ntmps173
        go_wp2_with (first | (go_at_call 225; refine (from_at _ _ _ _ _ rfl).mono ?_; rintro e w' ⟨rfl, rfl⟩) | (go_at_call 226; refine (rsig_any _ _ _).mono ?_; rintro e w' ⟨rfl, hq2⟩; obtain ⟨y, rfl⟩ := Wd.next _ hq2; clear hq2) | (go_at_call 223; refine (ridRight_any _ _ hza).mono ?_; rintro e w' ⟨rfl, rfl⟩) | (go_at_call 227; refine (rids_any _ _ _ _ (hS _) hlen hzt).mono ?_; rintro e w' ⟨rfl, hq2⟩; obtain ⟨y, rfl⟩ := Wd.next _ hq2; clear hq2))
        all_goals go_ret
        all_goals exact ⟨by rw [HR.out]; rfl, Q.trans hq1 (Wd.q _)⟩
    · have p2 : ((d.to.length : Int) == 0) = false := beq_eq_false_iff_ne.2 (by omega)
      clear p1
      go_enter Tryz.func173, Tryz.ntmps173
      go_wp2_with (first | (go_at_call 225; refine (from_at _ _ _ _ _ rfl).mono ?_; rintro e w' ⟨rfl, rfl⟩) | (go_at_call 226; refine (rsig_any _ _ _).mono ?_; rintro e w' ⟨rfl, hq2⟩; obtain ⟨y, rfl⟩ := Wd.next _ hq2; clear hq2) | (go_at_call 223; refine (ridRight_any _ _ hza).mono ?_; rintro e w' ⟨rfl, rfl⟩) | (go_at_call 227; refine (rids_any _ _ _ _ (hS _) hlen hzt).mono ?_; rintro e w' ⟨rfl, hq2⟩; obtain ⟨y, rfl⟩ := Wd.next _ hq2; clear hq2))
      all_goals go_ret
      all_goals exact ⟨by rw [HR.out]; rfl, Q.trans hq1 (Wd.q _)⟩
  · have HR := Lib.hid (show termsB d = true by rw [HT.out, k1, k2, k3, k4, k5]; rfl)
    rw [k1] at ea
    rw [k2] at eo
    have et2 : (d.text.size : Int) ≤ 500 := by simp [shortB] at k3; omega
    clear et HT k1
    by_cases p1 : d.to.length = 0
    · have p2 : ((d.to.length : Int) == 0) = true := by rw [p1]; rfl
      by_cases p3 : d.n = 0
      · have p4 : (d.n == 0) = true := by simp [p3]
        clear p1 p3
        go_enter Tryz.func173, Tryz.ntmps173
        go_wp2_with (first | (go_at_call 225; refine (from_at _ _ _ _ _ rfl).mono ?_; rintro e w' ⟨rfl, rfl⟩) | (go_at_call 226; refine (rsig_any _ _ _).mono ?_; rintro e w' ⟨rfl, hq2⟩; obtain ⟨y, rfl⟩ := Wd.next _ hq2; clear hq2) | (go_at_call 223; refine (ridRight_any _ _ hza).mono ?_; rintro e w' ⟨rfl, rfl⟩) | (go_at_call 227; refine (rids_any _ _ _ _ (hS _) hlen hzt).mono ?_; rintro e w' ⟨rfl, hq2⟩; obtain ⟨y, rfl⟩ := Wd.next _ hq2; clear hq2))
        all_goals go_ret
        all_goals exact ⟨by rw [HR.out]; rfl, Q.trans hq1 (Wd.q _)⟩
      · have p4 : (d.n == 0) = false := by simpa using p3
        clear p1 p3
        go_enter Tryz.func173, Tryz.ntmps173
        go_wp2_with (first | (go_at_call 225; refine (from_at _ _ _ _ _ rfl).mono ?_; rintro e w' ⟨rfl, rfl⟩) | (go_at_call 226; refine (rsig_any _ _ _).mono ?_; rintro e w' ⟨rfl, hq2⟩; obtain ⟨y, rfl⟩ := Wd.next _ hq2; clear hq2) | (go_at_call 223; refine (ridRight_any _ _ hza).mono ?_; rintro e w' ⟨rfl, rfl⟩) | (go_at_call 227; refine (rids_any _ _ _ _ (hS _) hlen hzt).mono ?_; rintro e w' ⟨rfl, hq2⟩; obtain ⟨y, rfl⟩ := Wd.next _ hq2; clear hq2))
        all_goals go_ret
        all_goals exact ⟨by rw [HR.out]; rfl, Q.trans hq1 (Wd.q _)⟩
    · have p2 : ((d.to.length : Int) == 0) = false := beq_eq_false_iff_ne.2 (by omega)
      clear p1
      go_enter Tryz.func173, Tryz.ntmps173
      go_wp2_with (first | (go_at_call 225; refine (from_at _ _ _ _ _ rfl).mono ?_; rintro e w' ⟨rfl, rfl⟩) | (go_at_call 226; refine (rsig_any _ _ _).mono ?_; rintro e w' ⟨rfl, hq2⟩; obtain ⟨y, rfl⟩ := Wd.next _ hq2; clear hq2) | (go_at_call 223; refine (ridRight_any _ _ hza).mono ?_; rintro e w' ⟨rfl, rfl⟩) | (go_at_call 227; refine (rids_any _ _ _ _ (hS _) hlen hzt).mono ?_; rintro e w' ⟨rfl, hq2⟩; obtain ⟨y, rfl⟩ := Wd.next _ hq2; clear hq2))
      all_goals go_ret
      all_goals exact ⟨by rw [HR.out]; rfl, Q.trans hq1 (Wd.q _)⟩
end Go.Proofs.YtomkeaeegdjhnaaGreatDoor.Item
