/-
  Package item's tests of claims, ballots and decisions.
-/
import Derived.Test.YtjfcllanochhmaaGreatDoorActB
set_option linter.unusedVariables false
set_option linter.unusedSimpArgs false
namespace Go.Proofs.YtjfcllanochhmaaGreatDoor.Item
open Go.RowKit Grp Mem _root_.Go.Proofs.YtjfcllanochhmaaGreatDoor.Code Sha Sign

/-- At the head of a function: a struct that came in by value. -/
theorem boxed2 (w : World) (t : TypeId) (cs : List Value) : ∃ (w1 : World) (x : Wd w1), w.alloc (.cells cs.toArray t) = x.w ∧ Q w w1 ∧ w.heap.size < w1.heap.size ∧ w1.rangeAt w.heap.size 0 cs :=
  ⟨_, ⟨_, Q.refl _⟩, rfl, q_new w _ t, (Blk.new w t cs.toArray).lt, Blk.range (Blk.new w t cs.toArray)⟩
theorem iwithin_at (n lo hi : Int) (r : Bool) (w : World) (h : withinB n lo hi = r) : Calls Tryz.prog 91 #[.int .i64 n, .int .i64 lo, .int .i64 hi] w fun e w' => e = .returned (.bool r) ∧ w = w' := by
  subst h
  by_cases h1 : lo ≤ n
  · go_enter Tryz.func91, Tryz.ntmps91
    go_wp2
    go_ret
    exact ⟨by simp [withinB, h1], rfl⟩
  · have h2 : decide (lo ≤ n) = false := by simpa using h1
    go_enter Tryz.func91, Tryz.ntmps91
    go_wp2
    go_ret
    exact ⟨by simp only [withinB, h2, Bool.false_and]; rfl, rfl⟩
theorem iisDigest_at (s : ByteArray) (r : Bool) (w : World) (h : digestB s = r) : Calls Tryz.prog 92 #[.string s] w fun e w' => e = .returned (.bool r) ∧ w = w' := by
  subst h
  go_enter Tryz.func92, Tryz.ntmps92
  go_wp2
  go_ret
  exact ⟨by by_cases h : s.size = 32 <;> simp [digestB, h] <;> omega, rfl⟩
theorem isServer_any (n : Int) (w : World) : Calls Tryz.prog 93 #[.int .i64 n] w fun e w' => e = .returned (.bool (withinB n 0 19)) ∧ w = w' := by
  go_enter Tryz.func93, Tryz.ntmps93
  go_wp2_with (go_at_call 91; refine (iwithin_at _ _ _ _ _ rfl).mono ?_; rintro e w' ⟨rfl, rfl⟩)
  go_ret
  exact ⟨rfl, rfl⟩
theorem isTime_any (n : Int) (w : World) : Calls Tryz.prog 94 #[.int .i64 n] w fun e w' => e = .returned (.bool (withinB n 0 1099511627776)) ∧ w = w' := by
  go_enter Tryz.func94, Tryz.ntmps94
  go_wp2_with (go_at_call 91; refine (iwithin_at _ _ _ _ _ rfl).mono ?_; rintro e w' ⟨rfl, rfl⟩)
  go_ret
  exact ⟨rfl, rfl⟩
theorem ways5 (b1 b2 b3 b4 b5 : Bool) : b1 = false ∨ (b1 = true ∧ b2 = false) ∨ (b1 = true ∧ b2 = true ∧ b3 = false) ∨ (b1 = true ∧ b2 = true ∧ b3 = true ∧ b4 = false) ∨ (b1 = true ∧ b2 = true ∧ b3 = true ∧ b4 = true ∧ b5 = false) ∨ (b1 = true ∧ b2 = true ∧ b3 = true ∧ b4 = true ∧ b5 = true) := by
  cases b1 <;> cases b2 <;> cases b3 <;> cases b4 <;> cases b5 <;> simp
def claimA (c : ClaimV) : Array Value := c.cells.toArray
def ballotA (b : BallotV) : Array Value := b.cells.toArray
def decA (d : DecR) : Array Value := d.cells.toArray
set_option maxHeartbeats 2000000 in
theorem rightSig_any (e s : Int) (w : World) : Calls Tryz.prog 95 #[.agg #[.int .i64 e, .int .i64 s]] w fun r w' => r = .returned (.bool (inOrd e && inOrd s)) ∧ Q w w' := by
  have hq := q_new w #[.int .i64 e, .int .i64 s] 37
  go_enter Tryz.func95, Tryz.ntmps95
  go_wp2_with (go_at_call 91; refine (iwithin_at _ _ _ _ _ rfl).mono ?_; rintro e w' ⟨rfl, rfl⟩)
  all_goals
    go_ret
    refine ⟨?_, hq⟩
    simp_all [inOrd]
theorem DecIn.q {w w' : World} {d : DecR} (h : DecIn w d) (hq : Q w w') : DecIn w' d := ⟨h.to.q hq, h.toC⟩
theorem DecIn.toLen {w : World} {d : DecR} (h : DecIn w d) : d.to.length ≤ 9223372036854775807 := by
  have := h.toC
  unfold maxLen at this
  omega
set_option maxRecDepth 100000 in
set_option maxHeartbeats 4000000 in
theorem rightClaim_any (c : ClaimV) (w : World) : Calls Tryz.prog 58 #[.agg (claimA c)] w fun e w' => e = .returned (.bool (claimRight c)) ∧ Q w w' := by
  obtain ⟨w1, x, hx, hq1, hlt, hr⟩ := boxed2 w 41 c.cells
  have hx : w.alloc (.cells (claimA c) 41) = x.w := hx
  have c0 := Wd.at0 hlt hr 0 rfl
  have c1 := Wd.at0 hlt hr 1 rfl
  have c2 := Wd.at0 hlt hr 2 rfl
  have c3 := Wd.at0 hlt hr 3 rfl
  have c4 := Wd.at0 hlt hr 4 rfl
  have c5 := Wd.at0 hlt hr 5 rfl
  have c6 := Wd.at0 hlt hr 6 rfl
  have c7 := Wd.at0 hlt hr 7 rfl
  have c8 := Wd.at0 hlt hr 8 rfl
  clear hlt hr
  go_enter Tryz.func58, Tryz.ntmps58
  go_wp2_with (first | (go_at_call 91; refine (iwithin_at _ _ _ _ _ rfl).mono ?_; rintro e w' ⟨rfl, rfl⟩) | (go_at_call 92; refine (iisDigest_at _ _ _ rfl).mono ?_; rintro e w' ⟨rfl, rfl⟩) | (go_at_call 93; refine (isServer_any _ _).mono ?_; rintro e w' ⟨rfl, rfl⟩) | (go_at_call 94; refine (isTime_any _ _).mono ?_; rintro e w' ⟨rfl, rfl⟩) | (go_at_call 86; refine (idRight_any _ _).mono ?_; rintro e w' ⟨rfl, hq2⟩; obtain ⟨y, rfl⟩ := Wd.next _ hq2; clear hq2) | (go_at_call 95; refine (rightSig_any _ _ _).mono ?_; rintro e w' ⟨rfl, hq2⟩; obtain ⟨y, rfl⟩ := Wd.next _ hq2; clear hq2))
  all_goals
    go_ret
    refine ⟨?_, Q.trans hq1 (Wd.q _)⟩
    simp_all [claimRight]
set_option maxRecDepth 100000 in
set_option maxHeartbeats 4000000 in
theorem rightBallot_any (b : BallotV) (w : World) : Calls Tryz.prog 59 #[.agg (ballotA b)] w fun e w' => e = .returned (.bool (ballotRight b)) ∧ Q w w' := by
  obtain ⟨w1, x, hx, hq1, hlt, hr⟩ := boxed2 w 43 b.cells
  have hx : w.alloc (.cells (ballotA b) 43) = x.w := hx
  have c0 := Wd.at0 hlt hr 0 rfl
  have c1 := Wd.at0 hlt hr 1 rfl
  have c2 := Wd.at0 hlt hr 2 rfl
  have c3 := Wd.at0 hlt hr 3 rfl
  have c4 := Wd.at0 hlt hr 4 rfl
  have c5 := Wd.at0 hlt hr 5 rfl
  have c6 := Wd.at0 hlt hr 6 rfl
  clear hlt hr
  go_enter Tryz.func59, Tryz.ntmps59
  go_wp2_with (first | (go_at_call 91; refine (iwithin_at _ _ _ _ _ rfl).mono ?_; rintro e w' ⟨rfl, rfl⟩) | (go_at_call 92; refine (iisDigest_at _ _ _ rfl).mono ?_; rintro e w' ⟨rfl, rfl⟩) | (go_at_call 93; refine (isServer_any _ _).mono ?_; rintro e w' ⟨rfl, rfl⟩) | (go_at_call 94; refine (isTime_any _ _).mono ?_; rintro e w' ⟨rfl, rfl⟩) | (go_at_call 86; refine (idRight_any _ _).mono ?_; rintro e w' ⟨rfl, hq2⟩; obtain ⟨y, rfl⟩ := Wd.next _ hq2; clear hq2) | (go_at_call 95; refine (rightSig_any _ _ _).mono ?_; rintro e w' ⟨rfl, hq2⟩; obtain ⟨y, rfl⟩ := Wd.next _ hq2; clear hq2))
  all_goals
    go_ret
    refine ⟨?_, Q.trans hq1 (Wd.q _)⟩
    simp_all [ballotRight]
end Go.Proofs.YtjfcllanochhmaaGreatDoor.Item
