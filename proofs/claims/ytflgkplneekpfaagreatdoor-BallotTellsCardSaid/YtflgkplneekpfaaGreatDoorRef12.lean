/-
  The contracts of package agoraref12's small tests.
-/
import Derived.Test.YtflgkplneekpfaaGreatDoorRef11
import Derived.Test.YtflgkplneekpfaaGreatDoorActE
set_option linter.unusedVariables false
set_option linter.unusedSimpArgs false
namespace Go.Proofs.YtflgkplneekpfaaGreatDoor.Item
open Go.RowKit Grp Mem _root_.Go.Proofs.YtflgkplneekpfaaGreatDoor.Code Sha Sign

theorem rpublic_any (n : Int) (w : World) : Calls Tryz.prog 274 #[.int .i64 n] w fun e w' => e = .returned (.bool (publicB n)) ∧ w = w' := by
  by_cases h1 : 1 ≤ n
  · go_enter Tryz.func274, Tryz.ntmps274
    go_wp2
    go_ret
    refine ⟨?_, rfl⟩
    by_cases h : n ≤ 2305843009213693950 <;> simp [publicB, withinB, h1, h] <;> omega
  · have h2 : decide (1 ≤ n) = false := by simpa using h1
    go_enter Tryz.func274, Tryz.ntmps274
    go_wp2
    go_ret
    exact ⟨by simp only [publicB, withinB, h2, Bool.false_and]; rfl, rfl⟩
set_option maxHeartbeats 1000000 in
theorem rboxed_any (n d t : ByteArray) (w : World) : Calls Tryz.prog 288 #[.agg #[.string n, .string d, .string t]] w fun e w' => e = .returned (.bool (sealedB n d t)) ∧ Q w w' := by
  obtain ⟨w1, x, hx, hq1, hlt, hr⟩ := boxed w 41 [.string n, .string d, .string t]
  have c0 := Wd.at0 hlt hr 0 rfl
  have c1 := Wd.at0 hlt hr 1 rfl
  have c2 := Wd.at0 hlt hr 2 rfl
  clear hr
  go_enter Tryz.func288, Tryz.ntmps288
  go_wp2
  all_goals
    go_ret
    refine ⟨?_, Q.trans hq1 x.q⟩
    simp_all [sealedB, shortB, cast32, cast16]
  all_goals omega
set_option maxHeartbeats 1000000 in
theorem rempty_any (n d t : ByteArray) (w : World) : Calls Tryz.prog 287 #[.agg #[.string n, .string d, .string t]] w fun e w' => e = .returned (.bool (noneB n && (noneB d && noneB t))) ∧ Q w w' := by
  obtain ⟨w1, x, hx, hq1, hlt, hr⟩ := boxed w 41 [.string n, .string d, .string t]
  have c0 := Wd.at0 hlt hr 0 rfl
  have c1 := Wd.at0 hlt hr 1 rfl
  have c2 := Wd.at0 hlt hr 2 rfl
  clear hr
  go_enter Tryz.func287, Tryz.ntmps287
  go_wp2
  all_goals
    go_ret
    refine ⟨?_, Q.trans hq1 x.q⟩
    simp_all [empty_none, toList_nil]
def rgroupB (a : ActR) : Bool := if a.scope = 2 then nameB a.group else noneB a.group
set_option maxHeartbeats 1000000 in
theorem rgroup_any (a : ActR) (w : World) (hz : a.group.size ≤ maxLen) : Calls Tryz.prog 278 #[.agg (actA a)] w fun e w' => e = .returned (.bool (rgroupB a)) ∧ Q w w' := by
  obtain ⟨w1, x, hx, hq1, hA⟩ := ActAt.box w a 44
  have c7 := hA.get 7 rfl
  have c8 := hA.get 8 rfl
  clear hA
  go_enter Tryz.func278, Tryz.ntmps278
  go_wp2_with (go_at_call 275; refine (rname_any _ _ hz).mono ?_; rintro e w' ⟨rfl, rfl⟩)
  all_goals
    go_ret
    refine ⟨?_, Q.trans hq1 x.q⟩
    simp_all [rgroupB, empty_none, toList_nil]
set_option maxHeartbeats 2000000 in
theorem raudience_any (a : ActR) (w : World) (hI : ActIn w a) (ho : ActOk a) : Calls Tryz.prog 276 #[.agg (actA a)] w fun e w' => e = .returned (.bool (audienceB a)) ∧ Q w w' := by
  obtain ⟨w1, x, hx, hq1, hA⟩ := ActAt.box w a 44
  have c7 := hA.get 7 rfl
  have c8 := hA.get 8 rfl
  have c9 := hA.get 9 rfl
  have c10 := hA.get 10 rfl
  have c11 := hA.get 11 rfl
  have c12 := hA.get 12 rfl
  have c13 := hA.get 13 rfl
  have c14 := hA.get 14 rfl
  have hL := hA.load
  have hS' : ∀ y : Wd w1, ActIn y.w a := fun y => hI.q (Q.trans hq1 y.q)
  have hS : ∀ y : Wd w1, Strs y.w a.toA a.to := fun y => (hS' y).to
  have hlen : a.to.length ≤ 9223372036854775807 := hI.toLen
  have hzg : a.group.size ≤ maxLen := ho.strs _ (by simp)
  have hzt : ∀ s ∈ a.to, s.size ≤ maxLen := ho.to
  clear hA ho
  cases g1 : idsB a.to
  all_goals
   go_enter Tryz.func276, Tryz.ntmps276
   go_wp2_with (first | (refine wpList_load_run 44 (.tmp 1) (.pointer (some ⟨w.heap.size, 0, none⟩)) (.agg (actA a)) ?_ ?_ ?_ ?_ ?_; rfl; rfl; rfl; exact hL _) | (go_at_call 261; refine (rids_any _ _ _ _ (hS _) hlen hzt).mono ?_; rintro e w' ⟨rfl, hq2⟩; obtain ⟨y, rfl⟩ := Wd.next _ hq2; clear hq2) | (go_at_call 278; refine (rgroup_any _ _ hzg).mono ?_; rintro e w' ⟨rfl, hq2⟩; obtain ⟨y, rfl⟩ := Wd.next _ hq2; clear hq2) | (go_at_call 288; refine (rboxed_any _ _ _ _).mono ?_; rintro e w' ⟨rfl, hq2⟩; obtain ⟨y, rfl⟩ := Wd.next _ hq2; clear hq2) | (go_at_call 287; refine (rempty_any _ _ _ _).mono ?_; rintro e w' ⟨rfl, hq2⟩; obtain ⟨y, rfl⟩ := Wd.next _ hq2; clear hq2))
  all_goals
    go_ret
    refine ⟨?_, Q.trans hq1 (Wd.q _)⟩
    simp_all [audienceB, sealedScopeB, rgroupB, withinB, shortB, bodyNone, empty_none, cast0, toList_nil]
  all_goals
    first
      | (intros; omega)
      | (by_cases h2 : a.scope = 2 <;> by_cases h0 : a.scope = 0 <;> by_cases h1 : a.scope = 1 <;> by_cases h3 : a.scope = 3 <;> simp_all <;> done)
set_option maxHeartbeats 2000000 in
theorem rwrapped_any (a : ActR) (w : World) (hI : ActIn w a) : Calls Tryz.prog 279 #[.agg (actA a)] w fun e w' => e = .returned (.bool (wrappedB a)) ∧ Q w w' := by
  obtain ⟨w1, x, hx, hq1, hA⟩ := ActAt.box w a 44
  have c9 := hA.get 9 rfl
  have c13 := hA.get 15 rfl
  have hlen := hI.toLen
  have hwlen := hI.wrLen
  go_enter Tryz.func279, Tryz.ntmps279
  go_wp2_with fail
  go_loopw [3] (fun i wr => ∃ (k : Nat) (z : Wd w1), i = .int .i64 k ∧ wr = z.w ∧ k ≤ a.wraps.length ∧ Hid ((a.wraps.take k).all wrapOk = true)) (fun i _ => a.wraps.length - (intOf i).toNat)
  case atStart => exact ⟨0, x, rfl, rfl, Nat.zero_le _, Lib.hid rfl⟩
  case round =>
    obtain ⟨k, z, rfl, rfl, hk, hall⟩ := hrel
    by_cases hlt : k < a.wraps.length
    · obtain ⟨b, o, hwA, hb, hcell⟩ := (hI.wraps.q hq1) (by omega)
      have hst := all_take_snoc a.wraps wrapOk k hlt
      rw [hall.out, Bool.true_and] at hst
      have hno := all_not a.wraps wrapOk k hlt
      have k0 := Wd.get (w0 := w1) hb (hcell k hlt) 0 rfl
      have k1 := Wd.get (w0 := w1) hb (hcell k hlt) 1 rfl
      have k2 := Wd.get (w0 := w1) hb (hcell k hlt) 2 rfl
      have k3 := Wd.get (w0 := w1) hb (hcell k hlt) 3 rfl
      have k4 := Wd.get (w0 := w1) hb (hcell k hlt) 4 rfl
      simp only [Nat.add_zero] at k0
      have HST : Hid ((a.wraps.take (k + 1)).all wrapOk = wrapOk a.wraps[k]) := Lib.hid hst
      have HNO := Lib.hid hno
      clear hst hno hcell hA hx hall
      generalize a.wraps[k] = v at *
      rw [hwA] at c13
      go_wp2_with (first | (go_at_call 274; refine (rpublic_any _ _).mono ?_; rintro e w' ⟨rfl, rfl⟩) | (go_at_call 288; refine (rboxed_any _ _ _ _).mono ?_; rintro e w' ⟨rfl, hq2⟩))
      all_goals try simp only [Bool.not_eq_true', Bool.not_eq_false', Bool.not_eq_true] at *
      all_goals
        first
          | (go_ret
             exact ⟨by rw [show wrappedB a = false by unfold wrappedB; rw [HNO.out (by simp [wrapOk, *]), Bool.false_and]]; rfl, Q.trans hq1 (by first | exact Q.trans z.q (Q.trans (q_new _ _ _) hq2) | exact Q.trans z.q (q_new _ _ _))⟩)
          | exact ⟨⟨k + 1, ⟨_, Q.trans z.q (Q.trans (q_new _ _ _) hq2)⟩, by go_num, rfl, by omega, Lib.hid (by rw [HST.out]; simp [wrapOk, *])⟩, by simp only [intOf]; omega⟩
    · have hks : k = a.wraps.length := by omega
      have hres : Hid (wrappedB a = decide (a.wraps.length = a.to.length)) := by
        refine Lib.hid ?_
        have := hall.out
        rw [hks, List.take_length] at this
        simp [wrappedB, this]
      clear hks
      go_wp2
      go_ret
      refine ⟨?_, Q.trans hq1 z.q⟩
      rw [hres.out]
      by_cases h : a.wraps.length = a.to.length <;> simp [h] <;> omega
def zeroB (a : ActR) : Bool := noneB a.object && (noneB a.target && (decide (a.scope = 0) && (noneB a.group && (decide (a.to.length = 0) && (noneB a.text && (bodyNone a && (decide (a.epoch = 0) && (decide (a.wraps.length = 0) && (decide (a.n = 0) && decide (a.m = 0))))))))))
set_option maxRecDepth 100000 in
set_option maxHeartbeats 4000000 in
theorem rzero_any (a : ActR) (w : World) : Calls Tryz.prog 280 #[.agg (actA a)] w fun e w' => e = .returned (.bool (zeroB a)) ∧ Q w w' := by
  obtain ⟨w1, x, hx, hq1, hA⟩ := ActAt.box w a 44
  have c5 := hA.get 5 rfl
  have c6 := hA.get 6 rfl
  have c7 := hA.get 7 rfl
  have c8 := hA.get 8 rfl
  have c9 := hA.get 9 rfl
  have c10 := hA.get 10 rfl
  have c11 := hA.get 11 rfl
  have c12 := hA.get 12 rfl
  have c13 := hA.get 13 rfl
  have c14 := hA.get 14 rfl
  have c15 := hA.get 15 rfl
  have c16 := hA.get 16 rfl
  have c17 := hA.get 17 rfl
  clear hA
  go_enter Tryz.func280, Tryz.ntmps280
  go_wp2_with (go_at_call 287; refine (rempty_any _ _ _ _).mono ?_; rintro e w' ⟨rfl, hq2⟩; obtain ⟨y, rfl⟩ := Wd.next _ hq2; clear hq2)
  all_goals
    go_ret
    refine ⟨?_, Q.trans hq1 (Wd.q _)⟩
    simp_all [zeroB, bodyNone, empty_none, cast0, toList_nil, intz]
end Go.Proofs.YtflgkplneekpfaaGreatDoor.Item
