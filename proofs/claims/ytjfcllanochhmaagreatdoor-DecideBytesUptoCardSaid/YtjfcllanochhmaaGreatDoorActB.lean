/-
  Package act's audience, grant, label, setup and the rules of the kinds.
-/
import Derived.Test.YtjfcllanochhmaaGreatDoorActA
import Derived.Test.YtjfcllanochhmaaGreatDoorIdent2
set_option linter.unusedVariables false
set_option linter.unusedSimpArgs false
namespace Go.Proofs.YtjfcllanochhmaaGreatDoor.Item
open Go.RowKit Grp Mem _root_.Go.Proofs.YtjfcllanochhmaaGreatDoor.Code Sha Sign

theorem sealedScope_any (n : Int) (s : ByteArray) (w : World) : Calls Tryz.prog 164 #[.int .i64 n, .string s] w fun e w' => e = .returned (.bool (sealedScopeB n s)) ∧ Q w w' := by
  go_enter Tryz.func164, Tryz.ntmps164
  go_wp2_with (go_at_call 128; refine (name_any _ _).mono ?_; rintro e w' ⟨rfl, hq1⟩)
  all_goals
    go_ret
    refine ⟨?_, by first | assumption | exact Q.refl _⟩
    simp_all [sealedScopeB, empty_none]
theorem toList_nil (s : ByteArray) : (s.toList = []) = (noneB s = true) := by
  rw [← empty_none]; simp
theorem cast32 (k : Nat) : ((k : Int) = 32) = (k = 32) := propext ⟨fun h => by omega, fun h => by omega⟩
theorem cast16 (k : Nat) : ((k : Int) = 16) = (k = 16) := propext ⟨fun h => by omega, fun h => by omega⟩
theorem cast0 (k : Nat) : ((k : Int) == 0) = decide (k = 0) := by
  by_cases h : k = 0 <;> simp [h]
set_option maxHeartbeats 1000000 in
theorem isSealed_any (n d t : ByteArray) (w : World) : Calls Tryz.prog 165 #[.agg #[.string n, .string d, .string t]] w fun e w' => e = .returned (.bool (sealedB n d t)) ∧ Q w w' := by
  have hq := q_new w #[.string n, .string d, .string t] 34
  go_enter Tryz.func165, Tryz.ntmps165
  go_wp2_with (go_at_call 126; refine (isShort_at _ _ _ rfl).mono ?_; rintro e w' ⟨rfl, rfl⟩)
  all_goals
    go_ret
    refine ⟨?_, hq⟩
    simp_all [sealedB, cast32, cast16]
theorem Wrs.q {w w' : World} {A : Option Addr} {l : List WrapV} (h : Wrs w A l) (hq : Q w w') : Wrs w' A l := fun h0 => by
  obtain ⟨b, o, e, hb, hc⟩ := h h0
  exact ⟨b, o, e, Nat.lt_of_lt_of_le hb hq.size, fun j hj => range_q (hc j hj) hq hb⟩
theorem ActIn.q {w w' : World} {a : ActR} (h : ActIn w a) (hq : Q w w') : ActIn w' a := ⟨h.to.q hq, h.wraps.q hq, h.toC, h.wrC⟩
theorem ActIn.toLen {w : World} {a : ActR} (h : ActIn w a) : a.to.length ≤ 9223372036854775807 := by
  have := h.toC
  unfold maxLen at this
  omega
theorem ActIn.wrLen {w : World} {a : ActR} (h : ActIn w a) : a.wraps.length ≤ 9223372036854775807 := by
  have := h.wrC
  unfold maxLen at this
  omega
def wrCs (v : WrapV) : Array Value := #[.int .i64 v.to, .int .i64 v.eph, .string v.n, .string v.d, .string v.t]
theorem all_take_snoc {α : Type} (l : List α) (p : α → Bool) (k : Nat) (h : k < l.length) : (l.take (k + 1)).all p = ((l.take k).all p && p l[k]) := by
  rw [List.take_succ_eq_append_getElem h, List.all_append]
  simp
theorem all_not {α : Type} (l : List α) (p : α → Bool) (k : Nat) (h : k < l.length) (hp : p l[k] = false) : l.all p = false := by
  rw [Bool.eq_false_iff]
  intro ha
  rw [List.all_eq_true] at ha
  rw [ha l[k] (List.getElem_mem h)] at hp
  cases hp

set_option maxHeartbeats 2000000 in
theorem wrapped_any (a : ActR) (w : World) (hI : ActIn w a) : Calls Tryz.prog 167 #[.agg (actA a)] w fun e w' => e = .returned (.bool (wrappedB a)) ∧ Q w w' := by
  obtain ⟨w1, x, hx, hq1, hA⟩ := ActAt.box w a 39
  have c9 := hA.get 9 rfl
  have c13 := hA.get 15 rfl
  have hlen := hI.toLen
  have hwlen := hI.wrLen
  go_enter Tryz.func167, Tryz.ntmps167
  go_wp2
  go_loopw [4, 8] (fun _ i wr => ∃ (k : Nat) (z : Wd w1), i = .int .i64 k ∧ wr = z.w ∧ k ≤ a.wraps.length ∧ Hid ((a.wraps.take k).all wrapOk = true)) (fun _ i _ => a.wraps.length - (intOf i).toNat)
  case atStart => exact ⟨0, x, rfl, rfl, Nat.zero_le _, Lib.hid rfl⟩
  case round =>
    obtain ⟨k, z, rfl, rfl, hk, hall⟩ := hrel
    by_cases hlt : k < a.wraps.length
    · obtain ⟨b, o, hwA, hb, hcell⟩ := (hI.wraps.q hq1) (by omega)
      have hst := all_take_snoc a.wraps wrapOk k hlt
      rw [hall.out, Bool.true_and] at hst
      have hno := all_not a.wraps wrapOk k hlt
      have k0 := Wd.get (w0 := w1) hb (hcell k hlt) 0 rfl
      have k1 := Wd.get (w0 := w1) hb (hcell k hlt) 1 rfl
      have k2 := Wd.get (w0 := w1) hb (hcell k hlt) 2 rfl
      have k3 := Wd.get (w0 := w1) hb (hcell k hlt) 3 rfl
      have k4 := Wd.get (w0 := w1) hb (hcell k hlt) 4 rfl
      simp only [Nat.add_zero] at k0
      have HST : Hid ((a.wraps.take (k + 1)).all wrapOk = wrapOk a.wraps[k]) := Lib.hid hst
      have HNO := Lib.hid hno
      clear hst hno hcell hA hx hall
      generalize a.wraps[k] = v at *
      rw [hwA]
      go_wp2_with (first | (go_at_call 166; refine (isPublic_at _ _ _ rfl).mono ?_; rintro e w' ⟨rfl, rfl⟩) | (go_at_call 165; refine (isSealed_any _ _ _ _).mono ?_; rintro e w' ⟨rfl, hq2⟩))
      all_goals try simp only [Bool.not_eq_true', Bool.not_eq_false', Bool.not_eq_true] at *
      all_goals
        first
          | (go_ret
             exact ⟨by rw [show wrappedB a = false by unfold wrappedB; rw [HNO.out (by simp [wrapOk, *]), Bool.false_and]]; rfl, Q.trans hq1 (by first | exact Q.trans z.q (Q.trans (q_new _ _ _) hq2) | exact Q.trans z.q (q_new _ _ _))⟩)
          | exact ⟨⟨k + 1, ⟨_, Q.trans z.q (Q.trans (q_new _ _ _) hq2)⟩, by go_num, rfl, by omega, Lib.hid (by rw [HST.out]; simp [wrapOk, *])⟩, by simp only [intOf]; omega⟩
    · have hks : k = a.wraps.length := by omega
      have hres : Hid (wrappedB a = decide (a.wraps.length = a.to.length)) := by
        refine Lib.hid ?_
        have := hall.out
        rw [hks, List.take_length] at this
        simp [wrappedB, this]
      clear hks
      go_wp2
      go_ret
      refine ⟨?_, Q.trans hq1 z.q⟩
      rw [hres.out]
      by_cases h : a.wraps.length = a.to.length <;> simp [h] <;> omega
set_option maxHeartbeats 2000000 in
theorem audience_any (a : ActR) (w : World) (hI : ActIn w a) : Calls Tryz.prog 123 #[.agg (actA a)] w fun e w' => e = .returned (.bool (audienceB a)) ∧ Q w w' := by
  obtain ⟨w1, x, hx, hq1, hA⟩ := ActAt.box w a 39
  have c7 := hA.get 7 rfl
  have c8 := hA.get 8 rfl
  have c9 := hA.get 9 rfl
  have c10 := hA.get 10 rfl
  have c11 := hA.get 11 rfl
  have c12 := hA.get 12 rfl
  have c13 := hA.get 13 rfl
  have c14 := hA.get 14 rfl
  have hS' : ∀ y : Wd w1, ActIn y.w a := fun y => hI.q (Q.trans hq1 y.q)
  have hS : ∀ y : Wd w1, Strs y.w a.toA a.to := fun y => (hS' y).to
  have hlen : a.to.length ≤ 9223372036854775807 := hI.toLen
  have hB := box0Eq
  clear hA
  go_enter Tryz.func123, Tryz.ntmps123
  go_wp2_with (first | (go_at_call 88; refine (within_at _ _ _ _ _ rfl).mono ?_; rintro e w' ⟨rfl, rfl⟩) | (go_at_call 126; refine (isShort_at _ _ _ rfl).mono ?_; rintro e w' ⟨rfl, rfl⟩) | (go_at_call 131; refine (ids_any _ _ _ _ (hS _) (by with_reducible assumption)).mono ?_; rintro e w' ⟨rfl, hq2⟩; obtain ⟨y, rfl⟩ := Wd.next _ hq2; clear hq2) | (go_at_call 164; refine (sealedScope_any _ _ _).mono ?_; rintro e w' ⟨rfl, hq2⟩; obtain ⟨y, rfl⟩ := Wd.next _ hq2; clear hq2) | (go_at_call 165; refine (isSealed_any _ _ _ _).mono ?_; rintro e w' ⟨rfl, hq2⟩; obtain ⟨y, rfl⟩ := Wd.next _ hq2; clear hq2))
  all_goals
    go_ret
    refine ⟨?_, Q.trans hq1 (Wd.q _)⟩
    simp_all [audienceB, bodyNone, empty_none, cast0, toList_nil]
  all_goals (intro h; simp_all)
set_option maxHeartbeats 2000000 in
theorem grant_any (a : ActR) (w : World) (hI : ActIn w a) : Calls Tryz.prog 132 #[.agg (actA a)] w fun e w' => e = .returned (.bool (grantB a)) ∧ Q w w' := by
  obtain ⟨w1, x, hx, hq1, hA⟩ := ActAt.box w a 39
  have c7 := hA.get 7 rfl
  have c8 := hA.get 8 rfl
  have c9 := hA.get 9 rfl
  have c14 := hA.get 14 rfl
  have hL := hA.load
  have hS' : ∀ y : Wd w1, ActIn y.w a := fun y => hI.q (Q.trans hq1 y.q)
  have hS : ∀ y : Wd w1, Strs y.w a.toA a.to := fun y => (hS' y).to
  have hlen : a.to.length ≤ 9223372036854775807 := hI.toLen
  clear hA
  cases g0 : sealedScopeB a.scope a.group <;> cases g1 : withinB a.epoch 0 1073741824 <;> cases g2 : idsB a.to
  all_goals
    go_enter Tryz.func132, Tryz.ntmps132
    go_wp2_with (first | (go_at_call 88; refine (within_at _ _ _ _ _ rfl).mono ?_; rintro e w' ⟨rfl, rfl⟩) | (go_at_call 131; refine (ids_any _ _ _ _ (hS _) (by with_reducible assumption)).mono ?_; rintro e w' ⟨rfl, hq2⟩; obtain ⟨y, rfl⟩ := Wd.next _ hq2; clear hq2) | (go_at_call 164; refine (sealedScope_any _ _ _).mono ?_; rintro e w' ⟨rfl, hq2⟩; obtain ⟨y, rfl⟩ := Wd.next _ hq2; clear hq2) | (go_at_call 167; refine (wrapped_any _ _ (hS' _)).mono ?_; rintro e w' ⟨rfl, hq2⟩; obtain ⟨y, rfl⟩ := Wd.next _ hq2; clear hq2) | (refine wpList_load_run 39 (.tmp 1) (.pointer (some ⟨w.heap.size, 0, none⟩)) (.agg (actA a)) ?_ ?_ ?_ ?_ ?_; rfl; rfl; rfl; exact hL _))
  all_goals
    go_ret
    refine ⟨?_, Q.trans hq1 (Wd.q _)⟩
    simp_all [grantB]
set_option maxHeartbeats 2000000 in
theorem label_any (a : ActR) (w : World) : Calls Tryz.prog 133 #[.agg (actA a)] w fun e w' => e = .returned (.bool (labelB a)) ∧ Q w w' := by
  obtain ⟨w1, x, hx, hq1, hA⟩ := ActAt.box w a 39
  have c5 := hA.get 5 rfl
  have c6 := hA.get 6 rfl
  have c10 := hA.get 10 rfl
  have hL := hA.load
  clear hA
  cases g0 : objectB a <;> cases g1 : a.target.toList.isEmpty
  all_goals
    go_enter Tryz.func133, Tryz.ntmps133
    go_wp2_with (first | (go_at_call 128; refine (name_any _ _).mono ?_; rintro e w' ⟨rfl, hq2⟩; obtain ⟨y, rfl⟩ := Wd.next _ hq2; clear hq2) | (go_at_call 122; refine (object_any _ _).mono ?_; rintro e w' ⟨rfl, hq2⟩; obtain ⟨y, rfl⟩ := Wd.next _ hq2; clear hq2) | (go_at_call 124; refine (target_any _ _).mono ?_; rintro e w' ⟨rfl, hq2⟩; obtain ⟨y, rfl⟩ := Wd.next _ hq2; clear hq2) | (refine wpList_load_run 39 (.tmp 1) (.pointer (some ⟨w.heap.size, 0, none⟩)) (.agg (actA a)) ?_ ?_ ?_ ?_ ?_; rfl; rfl; rfl; exact hL _))
  all_goals
    go_ret
    refine ⟨?_, Q.trans hq1 (Wd.q _)⟩
    simp_all [labelB, empty_none, toList_nil]
set_option maxHeartbeats 2000000 in
theorem setup_any (a : ActR) (w : World) (hI : ActIn w a) : Calls Tryz.prog 134 #[.agg (actA a)] w fun e w' => e = .returned (.bool (setupB a)) ∧ Q w w' := by
  obtain ⟨w1, x, hx, hq1, hA⟩ := ActAt.box w a 39
  have c9 := hA.get 9 rfl
  have c16 := hA.get 16 rfl
  have c17 := hA.get 17 rfl
  have hL := hA.load
  have hS' : ∀ y : Wd w1, ActIn y.w a := fun y => hI.q (Q.trans hq1 y.q)
  have hS : ∀ y : Wd w1, Strs y.w a.toA a.to := fun y => (hS' y).to
  have hlen : a.to.length ≤ 9223372036854775807 := hI.toLen
  clear hA
  by_cases g0 : 0 < a.to.length <;> cases g1 : idsB a.to
  all_goals
    go_enter Tryz.func134, Tryz.ntmps134
    go_wp2_with (first | (go_at_call 88; refine (within_at _ _ _ _ _ rfl).mono ?_; rintro e w' ⟨rfl, rfl⟩) | (go_at_call 166; refine (isPublic_at _ _ _ rfl).mono ?_; rintro e w' ⟨rfl, rfl⟩) | (go_at_call 131; refine (ids_any _ _ _ _ (hS _) (by with_reducible assumption)).mono ?_; rintro e w' ⟨rfl, hq2⟩; obtain ⟨y, rfl⟩ := Wd.next _ hq2; clear hq2) | (go_at_call 167; refine (wrapped_any _ _ (hS' _)).mono ?_; rintro e w' ⟨rfl, hq2⟩; obtain ⟨y, rfl⟩ := Wd.next _ hq2; clear hq2) | (refine wpList_load_run 39 (.tmp 1) (.pointer (some ⟨w.heap.size, 0, none⟩)) (.agg (actA a)) ?_ ?_ ?_ ?_ ?_; rfl; rfl; rfl; exact hL _))
  all_goals
    go_ret
    refine ⟨?_, Q.trans hq1 (Wd.q _)⟩
    simp_all [setupB]
set_option maxHeartbeats 2000000 in
theorem rule1_any (a : ActR) (w : World) (hI : ActIn w a) : Calls Tryz.prog 121 #[.agg (actA a)] w fun e w' => e = .returned (.bool (objectB a && audienceB a)) ∧ Q w w' := by
  obtain ⟨w1, x, hx, hq1, hA⟩ := ActAt.box w a 39
  have hL := hA.load
  have hS' : ∀ y : Wd w1, ActIn y.w a := fun y => hI.q (Q.trans hq1 y.q)
  have hS : ∀ y : Wd w1, Strs y.w a.toA a.to := fun y => (hS' y).to
  have hlen : a.to.length ≤ 9223372036854775807 := hI.toLen
  clear hA
  cases g0 : objectB a
  all_goals
    go_enter Tryz.func121, Tryz.ntmps121
    go_wp2_with (first | (go_at_call 122; refine (object_any _ _).mono ?_; rintro e w' ⟨rfl, hq2⟩; obtain ⟨y, rfl⟩ := Wd.next _ hq2; clear hq2) | (go_at_call 123; refine (audience_any _ _ (hS' _)).mono ?_; rintro e w' ⟨rfl, hq2⟩; obtain ⟨y, rfl⟩ := Wd.next _ hq2; clear hq2) | (refine wpList_load_run 39 (.tmp 1) (.pointer (some ⟨w.heap.size, 0, none⟩)) (.agg (actA a)) ?_ ?_ ?_ ?_ ?_; rfl; rfl; rfl; exact hL _))
  all_goals
    go_ret
    refine ⟨?_, Q.trans hq1 (Wd.q _)⟩
    simp_all
set_option maxHeartbeats 2000000 in
theorem rule2_any (a : ActR) (w : World) : Calls Tryz.prog 125 #[.agg (actA a)] w fun e w' => e = .returned (.bool (objectB a && shortB a.text)) ∧ Q w w' := by
  obtain ⟨w1, x, hx, hq1, hA⟩ := ActAt.box w a 39
  have c10 := hA.get 10 rfl
  have hL := hA.load
  clear hA
  go_enter Tryz.func125, Tryz.ntmps125
  go_wp2_with (first | (go_at_call 122; refine (object_any _ _).mono ?_; rintro e w' ⟨rfl, hq2⟩; obtain ⟨y, rfl⟩ := Wd.next _ hq2; clear hq2) | (go_at_call 126; refine (isShort_at _ _ _ rfl).mono ?_; rintro e w' ⟨rfl, rfl⟩) | (refine wpList_load_run 39 (.tmp 1) (.pointer (some ⟨w.heap.size, 0, none⟩)) (.agg (actA a)) ?_ ?_ ?_ ?_ ?_; rfl; rfl; rfl; exact hL _))
  all_goals
    go_ret
    refine ⟨?_, Q.trans hq1 (Wd.q _)⟩
    simp_all
set_option maxHeartbeats 2000000 in
theorem rule3_any (a : ActR) (w : World) : Calls Tryz.prog 127 #[.agg (actA a)] w fun e w' => e = .returned (.bool (nameB a.text && homeB a)) ∧ Q w w' := by
  obtain ⟨w1, x, hx, hq1, hA⟩ := ActAt.box w a 39
  have c10 := hA.get 10 rfl
  have hL := hA.load
  clear hA
  cases g0 : nameB a.text
  all_goals
    go_enter Tryz.func127, Tryz.ntmps127
    go_wp2_with (first | (go_at_call 128; refine (name_any _ _).mono ?_; rintro e w' ⟨rfl, hq2⟩; obtain ⟨y, rfl⟩ := Wd.next _ hq2; clear hq2) | (go_at_call 129; refine (home_any _ _).mono ?_; rintro e w' ⟨rfl, hq2⟩; obtain ⟨y, rfl⟩ := Wd.next _ hq2; clear hq2) | (refine wpList_load_run 39 (.tmp 1) (.pointer (some ⟨w.heap.size, 0, none⟩)) (.agg (actA a)) ?_ ?_ ?_ ?_ ?_; rfl; rfl; rfl; exact hL _))
  all_goals
    go_ret
    refine ⟨?_, Q.trans hq1 (Wd.q _)⟩
    simp_all
set_option maxHeartbeats 2000000 in
theorem rule4_any (a : ActR) (w : World) (hI : ActIn w a) : Calls Tryz.prog 130 #[.agg (actA a)] w fun e w' => e = .returned (.bool (nameB a.group && idsB a.to)) ∧ Q w w' := by
  obtain ⟨w1, x, hx, hq1, hA⟩ := ActAt.box w a 39
  have c8 := hA.get 8 rfl
  have c9 := hA.get 9 rfl
  have hS' : ∀ y : Wd w1, ActIn y.w a := fun y => hI.q (Q.trans hq1 y.q)
  have hS : ∀ y : Wd w1, Strs y.w a.toA a.to := fun y => (hS' y).to
  have hlen : a.to.length ≤ 9223372036854775807 := hI.toLen
  clear hA
  go_enter Tryz.func130, Tryz.ntmps130
  go_wp2_with (first | (go_at_call 128; refine (name_any _ _).mono ?_; rintro e w' ⟨rfl, hq2⟩; obtain ⟨y, rfl⟩ := Wd.next _ hq2; clear hq2) | (go_at_call 131; refine (ids_any _ _ _ _ (hS _) (by with_reducible assumption)).mono ?_; rintro e w' ⟨rfl, hq2⟩; obtain ⟨y, rfl⟩ := Wd.next _ hq2; clear hq2))
  all_goals
    go_ret
    refine ⟨?_, Q.trans hq1 (Wd.q _)⟩
    simp_all
set_option maxHeartbeats 2000000 in
theorem rule5_any (a : ActR) (w : World) : Calls Tryz.prog 135 #[.agg (actA a)] w fun e w' => e = .returned (.bool (objectB a && withinB a.n 0 1)) ∧ Q w w' := by
  obtain ⟨w1, x, hx, hq1, hA⟩ := ActAt.box w a 39
  have c16 := hA.get 16 rfl
  have hL := hA.load
  clear hA
  go_enter Tryz.func135, Tryz.ntmps135
  go_wp2_with (first | (go_at_call 122; refine (object_any _ _).mono ?_; rintro e w' ⟨rfl, hq2⟩; obtain ⟨y, rfl⟩ := Wd.next _ hq2; clear hq2) | (go_at_call 88; refine (within_at _ _ _ _ _ rfl).mono ?_; rintro e w' ⟨rfl, rfl⟩) | (refine wpList_load_run 39 (.tmp 1) (.pointer (some ⟨w.heap.size, 0, none⟩)) (.agg (actA a)) ?_ ?_ ?_ ?_ ?_; rfl; rfl; rfl; exact hL _))
  all_goals
    go_ret
    refine ⟨?_, Q.trans hq1 (Wd.q _)⟩
    simp_all
set_option maxHeartbeats 2000000 in
theorem rule6_any (a : ActR) (w : World) : Calls Tryz.prog 136 #[.agg (actA a)] w fun e w' => e = .returned (.bool (targetB a && (shortB a.text && withinB a.n 0 1099511627776))) ∧ Q w w' := by
  obtain ⟨w1, x, hx, hq1, hA⟩ := ActAt.box w a 39
  have c10 := hA.get 10 rfl
  have c16 := hA.get 16 rfl
  have hL := hA.load
  clear hA
  go_enter Tryz.func136, Tryz.ntmps136
  go_wp2_with (first | (go_at_call 124; refine (target_any _ _).mono ?_; rintro e w' ⟨rfl, hq2⟩; obtain ⟨y, rfl⟩ := Wd.next _ hq2; clear hq2) | (go_at_call 126; refine (isShort_at _ _ _ rfl).mono ?_; rintro e w' ⟨rfl, rfl⟩) | (go_at_call 88; refine (within_at _ _ _ _ _ rfl).mono ?_; rintro e w' ⟨rfl, rfl⟩) | (refine wpList_load_run 39 (.tmp 1) (.pointer (some ⟨w.heap.size, 0, none⟩)) (.agg (actA a)) ?_ ?_ ?_ ?_ ?_; rfl; rfl; rfl; exact hL _))
  all_goals
    go_ret
    refine ⟨?_, Q.trans hq1 (Wd.q _)⟩
    simp_all
end Go.Proofs.YtjfcllanochhmaaGreatDoor.Item
