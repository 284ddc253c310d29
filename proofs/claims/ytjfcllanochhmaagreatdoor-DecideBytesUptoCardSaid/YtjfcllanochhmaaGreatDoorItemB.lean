/-
  Package item's test of decisions.
-/
import Derived.Test.YtjfcllanochhmaaGreatDoorItemA
set_option linter.unusedVariables false
set_option linter.unusedSimpArgs false
namespace Go.Proofs.YtjfcllanochhmaaGreatDoor.Item
open Go.RowKit Grp Mem _root_.Go.Proofs.YtjfcllanochhmaaGreatDoor.Code Sha Sign

theorem cast500 (k : Nat) : decide ((k : Int) ≤ 500) = decide (k ≤ 500) := by rw [decide_eq_decide]; omega
theorem le500 (k : Nat) : ((k : Int) ≤ 500) = (k ≤ 500) := propext ⟨fun h => by omega, fun h => by omega⟩
theorem lt500 (k : Nat) : ((500 : Int) < (k : Int)) = (500 < k) := propext ⟨fun h => by omega, fun h => by omega⟩
theorem le4096 (k : Nat) : ((k : Int) ≤ 4096) = (k ≤ 4096) := propext ⟨fun h => by omega, fun h => by omega⟩
theorem lt4096 (k : Nat) : ((4096 : Int) < (k : Int)) = (4096 < k) := propext ⟨fun h => by omega, fun h => by omega⟩
theorem intz2 (n : Int) : (n == 0) = decide (n = 0) := by
  by_cases h : n = 0 <;> simp [h]
theorem cast4096 (k : Nat) : decide ((k : Int) ≤ 4096) = decide (k ≤ 4096) := by rw [decide_eq_decide]; omega
set_option maxRecDepth 100000 in
set_option maxHeartbeats 8000000 in
theorem terms_0 (d : DecR) (w : World) (hI : DecIn w d) (hk : d.kind = 0) : Calls Tryz.prog 96 #[.agg (decA d)] w fun e w' => e = .returned (.bool (termsB d)) ∧ Q w w' := by
  obtain ⟨w1, x, hx, hq1, hlt, hr⟩ := boxed2 w 45 d.cells
  have hx : w.alloc (.cells (decA d) 45) = x.w := hx
  have c2 := Wd.at0 hlt hr 2 rfl
  have c3 := Wd.at0 hlt hr 3 rfl
  have c4 := Wd.at0 hlt hr 4 rfl
  have c5 := Wd.at0 hlt hr 5 rfl
  have c6 := Wd.at0 hlt hr 6 rfl
  have c7 := Wd.at0 hlt hr 7 rfl
  have hS' : ∀ y : Wd w1, DecIn y.w d := fun y => hI.q (Q.trans hq1 y.q)
  have hS : ∀ y : Wd w1, Strs y.w d.toA d.to := fun y => (hS' y).to
  have hlen : d.to.length ≤ 9223372036854775807 := hI.toLen
  clear hlt hr
  simp only [hk] at c2
  go_enter Tryz.func96, Tryz.ntmps96
  go_wp2_with (first | (go_at_call 91; refine (iwithin_at _ _ _ _ _ rfl).mono ?_; rintro e w' ⟨rfl, rfl⟩) | (go_at_call 92; refine (iisDigest_at _ _ _ rfl).mono ?_; rintro e w' ⟨rfl, rfl⟩) | (go_at_call 86; refine (idRight_any _ _).mono ?_; rintro e w' ⟨rfl, hq2⟩; obtain ⟨y, rfl⟩ := Wd.next _ hq2; clear hq2) | (go_at_call 131; refine (ids_any _ _ _ _ (hS _) (by with_reducible assumption)).mono ?_; rintro e w' ⟨rfl, hq2⟩; obtain ⟨y, rfl⟩ := Wd.next _ hq2; clear hq2))
  all_goals
    go_ret
    refine ⟨?_, Q.trans hq1 (Wd.q _)⟩
    simp_all [termsB, plainD, shortB, empty_none, cast0, toList_nil, cast500, cast4096, le500, lt500, le4096, lt4096, intz2]
  all_goals (first | omega | (intro h; omega) | (intros; simp_all) | (intros; omega))
set_option maxRecDepth 100000 in
set_option maxHeartbeats 8000000 in
theorem terms_1 (d : DecR) (w : World) (hI : DecIn w d) (hk : d.kind = 1) : Calls Tryz.prog 96 #[.agg (decA d)] w fun e w' => e = .returned (.bool (termsB d)) ∧ Q w w' := by
  obtain ⟨w1, x, hx, hq1, hlt, hr⟩ := boxed2 w 45 d.cells
  have hx : w.alloc (.cells (decA d) 45) = x.w := hx
  have c2 := Wd.at0 hlt hr 2 rfl
  have c3 := Wd.at0 hlt hr 3 rfl
  have c4 := Wd.at0 hlt hr 4 rfl
  have c5 := Wd.at0 hlt hr 5 rfl
  have c6 := Wd.at0 hlt hr 6 rfl
  have c7 := Wd.at0 hlt hr 7 rfl
  have hS' : ∀ y : Wd w1, DecIn y.w d := fun y => hI.q (Q.trans hq1 y.q)
  have hS : ∀ y : Wd w1, Strs y.w d.toA d.to := fun y => (hS' y).to
  have hlen : d.to.length ≤ 9223372036854775807 := hI.toLen
  clear hlt hr
  simp only [hk] at c2
  go_enter Tryz.func96, Tryz.ntmps96
  go_wp2_with (first | (go_at_call 91; refine (iwithin_at _ _ _ _ _ rfl).mono ?_; rintro e w' ⟨rfl, rfl⟩) | (go_at_call 92; refine (iisDigest_at _ _ _ rfl).mono ?_; rintro e w' ⟨rfl, rfl⟩) | (go_at_call 86; refine (idRight_any _ _).mono ?_; rintro e w' ⟨rfl, hq2⟩; obtain ⟨y, rfl⟩ := Wd.next _ hq2; clear hq2) | (go_at_call 131; refine (ids_any _ _ _ _ (hS _) (by with_reducible assumption)).mono ?_; rintro e w' ⟨rfl, hq2⟩; obtain ⟨y, rfl⟩ := Wd.next _ hq2; clear hq2))
  all_goals
    go_ret
    refine ⟨?_, Q.trans hq1 (Wd.q _)⟩
    simp_all [termsB, plainD, shortB, empty_none, cast0, toList_nil, cast500, cast4096, le500, lt500, le4096, lt4096, intz2]
  all_goals (first | omega | (intro h; omega) | (intros; simp_all) | (intros; omega))
set_option maxRecDepth 100000 in
set_option maxHeartbeats 8000000 in
theorem terms_2 (d : DecR) (w : World) (hI : DecIn w d) (hk : d.kind = 2) : Calls Tryz.prog 96 #[.agg (decA d)] w fun e w' => e = .returned (.bool (termsB d)) ∧ Q w w' := by
  obtain ⟨w1, x, hx, hq1, hlt, hr⟩ := boxed2 w 45 d.cells
  have hx : w.alloc (.cells (decA d) 45) = x.w := hx
  have c2 := Wd.at0 hlt hr 2 rfl
  have c3 := Wd.at0 hlt hr 3 rfl
  have c4 := Wd.at0 hlt hr 4 rfl
  have c5 := Wd.at0 hlt hr 5 rfl
  have c6 := Wd.at0 hlt hr 6 rfl
  have c7 := Wd.at0 hlt hr 7 rfl
  have hS' : ∀ y : Wd w1, DecIn y.w d := fun y => hI.q (Q.trans hq1 y.q)
  have hS : ∀ y : Wd w1, Strs y.w d.toA d.to := fun y => (hS' y).to
  have hlen : d.to.length ≤ 9223372036854775807 := hI.toLen
  clear hlt hr
  simp only [hk] at c2
  go_enter Tryz.func96, Tryz.ntmps96
  go_wp2_with (first | (go_at_call 91; refine (iwithin_at _ _ _ _ _ rfl).mono ?_; rintro e w' ⟨rfl, rfl⟩) | (go_at_call 92; refine (iisDigest_at _ _ _ rfl).mono ?_; rintro e w' ⟨rfl, rfl⟩) | (go_at_call 86; refine (idRight_any _ _).mono ?_; rintro e w' ⟨rfl, hq2⟩; obtain ⟨y, rfl⟩ := Wd.next _ hq2; clear hq2) | (go_at_call 131; refine (ids_any _ _ _ _ (hS _) (by with_reducible assumption)).mono ?_; rintro e w' ⟨rfl, hq2⟩; obtain ⟨y, rfl⟩ := Wd.next _ hq2; clear hq2))
  all_goals
    go_ret
    refine ⟨?_, Q.trans hq1 (Wd.q _)⟩
    simp_all [termsB, plainD, shortB, empty_none, cast0, toList_nil, cast500, cast4096, le500, lt500, le4096, lt4096, intz2]
  all_goals (first | omega | (intro h; omega) | (intros; simp_all) | (intros; omega))
set_option maxRecDepth 100000 in
set_option maxHeartbeats 8000000 in
theorem terms_3 (d : DecR) (w : World) (hI : DecIn w d) (hk : d.kind = 3) : Calls Tryz.prog 96 #[.agg (decA d)] w fun e w' => e = .returned (.bool (termsB d)) ∧ Q w w' := by
  obtain ⟨w1, x, hx, hq1, hlt, hr⟩ := boxed2 w 45 d.cells
  have hx : w.alloc (.cells (decA d) 45) = x.w := hx
  have c2 := Wd.at0 hlt hr 2 rfl
  have c3 := Wd.at0 hlt hr 3 rfl
  have c4 := Wd.at0 hlt hr 4 rfl
  have c5 := Wd.at0 hlt hr 5 rfl
  have c6 := Wd.at0 hlt hr 6 rfl
  have c7 := Wd.at0 hlt hr 7 rfl
  have hS' : ∀ y : Wd w1, DecIn y.w d := fun y => hI.q (Q.trans hq1 y.q)
  have hS : ∀ y : Wd w1, Strs y.w d.toA d.to := fun y => (hS' y).to
  have hlen : d.to.length ≤ 9223372036854775807 := hI.toLen
  clear hlt hr
  simp only [hk] at c2
  go_enter Tryz.func96, Tryz.ntmps96
  go_wp2_with (first | (go_at_call 91; refine (iwithin_at _ _ _ _ _ rfl).mono ?_; rintro e w' ⟨rfl, rfl⟩) | (go_at_call 92; refine (iisDigest_at _ _ _ rfl).mono ?_; rintro e w' ⟨rfl, rfl⟩) | (go_at_call 86; refine (idRight_any _ _).mono ?_; rintro e w' ⟨rfl, hq2⟩; obtain ⟨y, rfl⟩ := Wd.next _ hq2; clear hq2) | (go_at_call 131; refine (ids_any _ _ _ _ (hS _) (by with_reducible assumption)).mono ?_; rintro e w' ⟨rfl, hq2⟩; obtain ⟨y, rfl⟩ := Wd.next _ hq2; clear hq2))
  all_goals
    go_ret
    refine ⟨?_, Q.trans hq1 (Wd.q _)⟩
    simp_all [termsB, plainD, shortB, empty_none, cast0, toList_nil, cast500, cast4096, le500, lt500, le4096, lt4096, intz2]
  all_goals (first | omega | (intro h; omega) | (intros; simp_all) | (intros; omega))
set_option maxRecDepth 100000 in
set_option maxHeartbeats 8000000 in
theorem terms_4 (d : DecR) (w : World) (hI : DecIn w d) (hk : d.kind = 4) : Calls Tryz.prog 96 #[.agg (decA d)] w fun e w' => e = .returned (.bool (termsB d)) ∧ Q w w' := by
  obtain ⟨w1, x, hx, hq1, hlt, hr⟩ := boxed2 w 45 d.cells
  have hx : w.alloc (.cells (decA d) 45) = x.w := hx
  have c2 := Wd.at0 hlt hr 2 rfl
  have c3 := Wd.at0 hlt hr 3 rfl
  have c4 := Wd.at0 hlt hr 4 rfl
  have c5 := Wd.at0 hlt hr 5 rfl
  have c6 := Wd.at0 hlt hr 6 rfl
  have c7 := Wd.at0 hlt hr 7 rfl
  have hS' : ∀ y : Wd w1, DecIn y.w d := fun y => hI.q (Q.trans hq1 y.q)
  have hS : ∀ y : Wd w1, Strs y.w d.toA d.to := fun y => (hS' y).to
  have hlen : d.to.length ≤ 9223372036854775807 := hI.toLen
  clear hlt hr
  simp only [hk] at c2
  go_enter Tryz.func96, Tryz.ntmps96
  go_wp2_with (first | (go_at_call 91; refine (iwithin_at _ _ _ _ _ rfl).mono ?_; rintro e w' ⟨rfl, rfl⟩) | (go_at_call 92; refine (iisDigest_at _ _ _ rfl).mono ?_; rintro e w' ⟨rfl, rfl⟩) | (go_at_call 86; refine (idRight_any _ _).mono ?_; rintro e w' ⟨rfl, hq2⟩; obtain ⟨y, rfl⟩ := Wd.next _ hq2; clear hq2) | (go_at_call 131; refine (ids_any _ _ _ _ (hS _) (by with_reducible assumption)).mono ?_; rintro e w' ⟨rfl, hq2⟩; obtain ⟨y, rfl⟩ := Wd.next _ hq2; clear hq2))
  all_goals
    go_ret
    refine ⟨?_, Q.trans hq1 (Wd.q _)⟩
    simp_all [termsB, plainD, shortB, empty_none, cast0, toList_nil, cast500, cast4096, le500, lt500, le4096, lt4096, intz2]
  all_goals (first | omega | (intro h; omega) | (intros; simp_all) | (intros; omega))
set_option maxRecDepth 100000 in
set_option maxHeartbeats 8000000 in
theorem terms_5 (d : DecR) (w : World) (hI : DecIn w d) (hk : d.kind = 5) : Calls Tryz.prog 96 #[.agg (decA d)] w fun e w' => e = .returned (.bool (termsB d)) ∧ Q w w' := by
  obtain ⟨w1, x, hx, hq1, hlt, hr⟩ := boxed2 w 45 d.cells
  have hx : w.alloc (.cells (decA d) 45) = x.w := hx
  have c2 := Wd.at0 hlt hr 2 rfl
  have c3 := Wd.at0 hlt hr 3 rfl
  have c4 := Wd.at0 hlt hr 4 rfl
  have c5 := Wd.at0 hlt hr 5 rfl
  have c6 := Wd.at0 hlt hr 6 rfl
  have c7 := Wd.at0 hlt hr 7 rfl
  have hS' : ∀ y : Wd w1, DecIn y.w d := fun y => hI.q (Q.trans hq1 y.q)
  have hS : ∀ y : Wd w1, Strs y.w d.toA d.to := fun y => (hS' y).to
  have hlen : d.to.length ≤ 9223372036854775807 := hI.toLen
  clear hlt hr
  simp only [hk] at c2
  go_enter Tryz.func96, Tryz.ntmps96
  go_wp2_with (first | (go_at_call 91; refine (iwithin_at _ _ _ _ _ rfl).mono ?_; rintro e w' ⟨rfl, rfl⟩) | (go_at_call 92; refine (iisDigest_at _ _ _ rfl).mono ?_; rintro e w' ⟨rfl, rfl⟩) | (go_at_call 86; refine (idRight_any _ _).mono ?_; rintro e w' ⟨rfl, hq2⟩; obtain ⟨y, rfl⟩ := Wd.next _ hq2; clear hq2) | (go_at_call 131; refine (ids_any _ _ _ _ (hS _) (by with_reducible assumption)).mono ?_; rintro e w' ⟨rfl, hq2⟩; obtain ⟨y, rfl⟩ := Wd.next _ hq2; clear hq2))
  all_goals
    go_ret
    refine ⟨?_, Q.trans hq1 (Wd.q _)⟩
    simp_all [termsB, plainD, shortB, empty_none, cast0, toList_nil, cast500, cast4096, le500, lt500, le4096, lt4096, intz2]
  all_goals (first | omega | (intro h; omega) | (intros; simp_all) | (intros; omega))
set_option maxRecDepth 100000 in
set_option maxHeartbeats 8000000 in
theorem terms_6 (d : DecR) (w : World) (hI : DecIn w d) (hk : d.kind = 6) : Calls Tryz.prog 96 #[.agg (decA d)] w fun e w' => e = .returned (.bool (termsB d)) ∧ Q w w' := by
  obtain ⟨w1, x, hx, hq1, hlt, hr⟩ := boxed2 w 45 d.cells
  have hx : w.alloc (.cells (decA d) 45) = x.w := hx
  have c2 := Wd.at0 hlt hr 2 rfl
  have c3 := Wd.at0 hlt hr 3 rfl
  have c4 := Wd.at0 hlt hr 4 rfl
  have c5 := Wd.at0 hlt hr 5 rfl
  have c6 := Wd.at0 hlt hr 6 rfl
  have c7 := Wd.at0 hlt hr 7 rfl
  have hS' : ∀ y : Wd w1, DecIn y.w d := fun y => hI.q (Q.trans hq1 y.q)
  have hS : ∀ y : Wd w1, Strs y.w d.toA d.to := fun y => (hS' y).to
  have hlen : d.to.length ≤ 9223372036854775807 := hI.toLen
  clear hlt hr
  simp only [hk] at c2
  go_enter Tryz.func96, Tryz.ntmps96
  go_wp2_with (first | (go_at_call 91; refine (iwithin_at _ _ _ _ _ rfl).mono ?_; rintro e w' ⟨rfl, rfl⟩) | (go_at_call 92; refine (iisDigest_at _ _ _ rfl).mono ?_; rintro e w' ⟨rfl, rfl⟩) | (go_at_call 86; refine (idRight_any _ _).mono ?_; rintro e w' ⟨rfl, hq2⟩; obtain ⟨y, rfl⟩ := Wd.next _ hq2; clear hq2) | (go_at_call 131; refine (ids_any _ _ _ _ (hS _) (by with_reducible assumption)).mono ?_; rintro e w' ⟨rfl, hq2⟩; obtain ⟨y, rfl⟩ := Wd.next _ hq2; clear hq2))
  all_goals
    go_ret
    refine ⟨?_, Q.trans hq1 (Wd.q _)⟩
    simp_all [termsB, plainD, shortB, empty_none, cast0, toList_nil, cast500, cast4096, le500, lt500, le4096, lt4096, intz2]
  all_goals (first | omega | (intro h; omega) | (intros; simp_all) | (intros; omega))
set_option maxRecDepth 100000 in
set_option maxHeartbeats 8000000 in
theorem terms_7 (d : DecR) (w : World) (hI : DecIn w d) (hk : d.kind = 7) : Calls Tryz.prog 96 #[.agg (decA d)] w fun e w' => e = .returned (.bool (termsB d)) ∧ Q w w' := by
  obtain ⟨w1, x, hx, hq1, hlt, hr⟩ := boxed2 w 45 d.cells
  have hx : w.alloc (.cells (decA d) 45) = x.w := hx
  have c2 := Wd.at0 hlt hr 2 rfl
  have c3 := Wd.at0 hlt hr 3 rfl
  have c4 := Wd.at0 hlt hr 4 rfl
  have c5 := Wd.at0 hlt hr 5 rfl
  have c6 := Wd.at0 hlt hr 6 rfl
  have c7 := Wd.at0 hlt hr 7 rfl
  have hS' : ∀ y : Wd w1, DecIn y.w d := fun y => hI.q (Q.trans hq1 y.q)
  have hS : ∀ y : Wd w1, Strs y.w d.toA d.to := fun y => (hS' y).to
  have hlen : d.to.length ≤ 9223372036854775807 := hI.toLen
  clear hlt hr
  simp only [hk] at c2
  go_enter Tryz.func96, Tryz.ntmps96
  go_wp2_with (first | (go_at_call 91; refine (iwithin_at _ _ _ _ _ rfl).mono ?_; rintro e w' ⟨rfl, rfl⟩) | (go_at_call 92; refine (iisDigest_at _ _ _ rfl).mono ?_; rintro e w' ⟨rfl, rfl⟩) | (go_at_call 86; refine (idRight_any _ _).mono ?_; rintro e w' ⟨rfl, hq2⟩; obtain ⟨y, rfl⟩ := Wd.next _ hq2; clear hq2) | (go_at_call 131; refine (ids_any _ _ _ _ (hS _) (by with_reducible assumption)).mono ?_; rintro e w' ⟨rfl, hq2⟩; obtain ⟨y, rfl⟩ := Wd.next _ hq2; clear hq2))
  all_goals
    go_ret
    refine ⟨?_, Q.trans hq1 (Wd.q _)⟩
    simp_all [termsB, plainD, shortB, empty_none, cast0, toList_nil, cast500, cast4096, le500, lt500, le4096, lt4096, intz2]
  all_goals (first | omega | (intro h; omega) | (intros; simp_all) | (intros; omega))
theorem ids_len (A : Option Addr) (n c : Nat) (l : List ByteArray) (w : World) (hS : Strs w A l) (hc : l.length ≤ 9223372036854775807) (hn : n = l.length) : Calls Tryz.prog 131 #[.slice A n c] w fun e w' => e = .returned (.bool (idsB l)) ∧ Q w w' := hn ▸ ids_any A c l w hS hc
set_option maxRecDepth 100000 in
set_option maxHeartbeats 8000000 in
theorem terms_8 (d : DecR) (w : World) (hI : DecIn w d) (hk : d.kind = 8) : Calls Tryz.prog 96 #[.agg (decA d)] w fun e w' => e = .returned (.bool (termsB d)) ∧ Q w w' := by
  obtain ⟨w1, x, hx, hq1, hlt, hr⟩ := boxed2 w 45 d.cells
  have hx : w.alloc (.cells (decA d) 45) = x.w := hx
  have c2 := Wd.at0 hlt hr 2 rfl
  have c3 := Wd.at0 hlt hr 3 rfl
  have c4 := Wd.at0 hlt hr 4 rfl
  have c5 := Wd.at0 hlt hr 5 rfl
  have c6 := Wd.at0 hlt hr 6 rfl
  have c7 := Wd.at0 hlt hr 7 rfl
  have hS' : ∀ y : Wd w1, DecIn y.w d := fun y => hI.q (Q.trans hq1 y.q)
  have hS : ∀ y : Wd w1, Strs y.w d.toA d.to := fun y => (hS' y).to
  have hlen : d.to.length ≤ 9223372036854775807 := hI.toLen
  clear hlt hr
  simp only [hk] at c2
  go_enter Tryz.func96, Tryz.ntmps96
  go_wp2_with (first | (go_at_call 91; refine (iwithin_at _ _ _ _ _ rfl).mono ?_; rintro e w' ⟨rfl, rfl⟩) | (go_at_call 92; refine (iisDigest_at _ _ _ rfl).mono ?_; rintro e w' ⟨rfl, rfl⟩) | (go_at_call 86; refine (idRight_any _ _).mono ?_; rintro e w' ⟨rfl, hq2⟩; obtain ⟨y, rfl⟩ := Wd.next _ hq2; clear hq2) | (go_at_call 131; refine (ids_len d.toA _ d.toC d.to _ (hS _) (by omega) (by first | rfl | omega | simp [*])).mono ?_; rintro e w' ⟨rfl, hq2⟩; obtain ⟨y, rfl⟩ := Wd.next _ hq2; clear hq2))
  all_goals
    go_ret
    refine ⟨?_, Q.trans hq1 (Wd.q _)⟩
    simp_all [termsB, plainD, shortB, empty_none, cast0, toList_nil, cast500, cast4096, le500, lt500, le4096, lt4096, intz2]
  all_goals (first | omega | (intro h; omega) | (intros; simp_all) | (intros; omega))
set_option maxRecDepth 100000 in
set_option maxHeartbeats 8000000 in
theorem terms_9 (d : DecR) (w : World) (hI : DecIn w d) (hk : d.kind = 9) : Calls Tryz.prog 96 #[.agg (decA d)] w fun e w' => e = .returned (.bool (termsB d)) ∧ Q w w' := by
  obtain ⟨w1, x, hx, hq1, hlt, hr⟩ := boxed2 w 45 d.cells
  have hx : w.alloc (.cells (decA d) 45) = x.w := hx
  have c2 := Wd.at0 hlt hr 2 rfl
  have c3 := Wd.at0 hlt hr 3 rfl
  have c4 := Wd.at0 hlt hr 4 rfl
  have c5 := Wd.at0 hlt hr 5 rfl
  have c6 := Wd.at0 hlt hr 6 rfl
  have c7 := Wd.at0 hlt hr 7 rfl
  have hS' : ∀ y : Wd w1, DecIn y.w d := fun y => hI.q (Q.trans hq1 y.q)
  have hS : ∀ y : Wd w1, Strs y.w d.toA d.to := fun y => (hS' y).to
  have hlen : d.to.length ≤ 9223372036854775807 := hI.toLen
  clear hlt hr
  simp only [hk] at c2
  go_enter Tryz.func96, Tryz.ntmps96
  go_wp2_with (first | (go_at_call 91; refine (iwithin_at _ _ _ _ _ rfl).mono ?_; rintro e w' ⟨rfl, rfl⟩) | (go_at_call 92; refine (iisDigest_at _ _ _ rfl).mono ?_; rintro e w' ⟨rfl, rfl⟩) | (go_at_call 86; refine (idRight_any _ _).mono ?_; rintro e w' ⟨rfl, hq2⟩; obtain ⟨y, rfl⟩ := Wd.next _ hq2; clear hq2) | (go_at_call 131; refine (ids_any _ _ _ _ (hS _) (by with_reducible assumption)).mono ?_; rintro e w' ⟨rfl, hq2⟩; obtain ⟨y, rfl⟩ := Wd.next _ hq2; clear hq2))
  all_goals
    go_ret
    refine ⟨?_, Q.trans hq1 (Wd.q _)⟩
    simp_all [termsB, plainD, shortB, empty_none, cast0, toList_nil, cast500, cast4096, le500, lt500, le4096, lt4096, intz2]
  all_goals (first | omega | (intro h; omega) | (intros; simp_all) | (intros; omega))
set_option maxRecDepth 100000 in
set_option maxHeartbeats 8000000 in
theorem terms_no (d : DecR) (w : World) (hI : DecIn w d) (k0 : ¬ d.kind = 0) (k1 : ¬ d.kind = 1) (k2 : ¬ d.kind = 2) (k3 : ¬ d.kind = 3) (k4 : ¬ d.kind = 4) (k5 : ¬ d.kind = 5) (k6 : ¬ d.kind = 6) (k7 : ¬ d.kind = 7) (k8 : ¬ d.kind = 8) (k9 : ¬ d.kind = 9) : Calls Tryz.prog 96 #[.agg (decA d)] w fun e w' => e = .returned (.bool (termsB d)) ∧ Q w w' := by
  obtain ⟨w1, x, hx, hq1, hlt, hr⟩ := boxed2 w 45 d.cells
  have hx : w.alloc (.cells (decA d) 45) = x.w := hx
  have c2 := Wd.at0 hlt hr 2 rfl
  have c3 := Wd.at0 hlt hr 3 rfl
  have c4 := Wd.at0 hlt hr 4 rfl
  have c5 := Wd.at0 hlt hr 5 rfl
  have c6 := Wd.at0 hlt hr 6 rfl
  have c7 := Wd.at0 hlt hr 7 rfl
  have hS' : ∀ y : Wd w1, DecIn y.w d := fun y => hI.q (Q.trans hq1 y.q)
  have hS : ∀ y : Wd w1, Strs y.w d.toA d.to := fun y => (hS' y).to
  have hlen : d.to.length ≤ 9223372036854775807 := hI.toLen
  clear hlt hr
  have e0 : (d.kind == 0) = false := by simpa using k0
  have e1 : (d.kind == 1) = false := by simpa using k1
  have e2 : (d.kind == 2) = false := by simpa using k2
  have e3 : (d.kind == 3) = false := by simpa using k3
  have e4 : (d.kind == 4) = false := by simpa using k4
  have e5 : (d.kind == 5) = false := by simpa using k5
  have e6 : (d.kind == 6) = false := by simpa using k6
  have e7 : (d.kind == 7) = false := by simpa using k7
  have e8 : (d.kind == 8) = false := by simpa using k8
  have e9 : (d.kind == 9) = false := by simpa using k9
  go_enter Tryz.func96, Tryz.ntmps96
  go_wp2_with (first | (go_at_call 91; refine (iwithin_at _ _ _ _ _ rfl).mono ?_; rintro e w' ⟨rfl, rfl⟩) | (go_at_call 92; refine (iisDigest_at _ _ _ rfl).mono ?_; rintro e w' ⟨rfl, rfl⟩) | (go_at_call 86; refine (idRight_any _ _).mono ?_; rintro e w' ⟨rfl, hq2⟩; obtain ⟨y, rfl⟩ := Wd.next _ hq2; clear hq2) | (go_at_call 131; refine (ids_any _ _ _ _ (hS _) (by with_reducible assumption)).mono ?_; rintro e w' ⟨rfl, hq2⟩; obtain ⟨y, rfl⟩ := Wd.next _ hq2; clear hq2))
  all_goals
    go_ret
    refine ⟨?_, Q.trans hq1 (Wd.q _)⟩
    simp_all [termsB, plainD, shortB, empty_none, cast0, toList_nil, cast500, cast4096, le500, lt500, le4096, lt4096, intz2]
  all_goals (first | omega | (intro h; omega) | (intros; simp_all) | (intros; omega))
theorem terms_any (d : DecR) (w : World) (hI : DecIn w d) : Calls Tryz.prog 96 #[.agg (decA d)] w fun e w' => e = .returned (.bool (termsB d)) ∧ Q w w' := by
  by_cases k0 : d.kind = 0
  · exact terms_0 d w hI k0
  by_cases k1 : d.kind = 1
  · exact terms_1 d w hI k1
  by_cases k2 : d.kind = 2
  · exact terms_2 d w hI k2
  by_cases k3 : d.kind = 3
  · exact terms_3 d w hI k3
  by_cases k4 : d.kind = 4
  · exact terms_4 d w hI k4
  by_cases k5 : d.kind = 5
  · exact terms_5 d w hI k5
  by_cases k6 : d.kind = 6
  · exact terms_6 d w hI k6
  by_cases k7 : d.kind = 7
  · exact terms_7 d w hI k7
  by_cases k8 : d.kind = 8
  · exact terms_8 d w hI k8
  by_cases k9 : d.kind = 9
  · exact terms_9 d w hI k9
  exact terms_no d w hI k0 k1 k2 k3 k4 k5 k6 k7 k8 k9
set_option maxRecDepth 100000 in
set_option maxHeartbeats 4000000 in
theorem rightDec_any (d : DecR) (w : World) (hI : DecIn w d) : Calls Tryz.prog 60 #[.agg (decA d)] w fun e w' => e = .returned (.bool (decRight d)) ∧ Q w w' := by
  obtain ⟨w1, x, hx, hq1, hlt, hr⟩ := boxed2 w 45 d.cells
  have hx : w.alloc (.cells (decA d) 45) = x.w := hx
  have c0 := Wd.at0 hlt hr 0 rfl
  have c1 := Wd.at0 hlt hr 1 rfl
  have c8 := Wd.at0 hlt hr 8 rfl
  have c9 := Wd.at0 hlt hr 9 rfl
  have c10 := Wd.at0 hlt hr 10 rfl
  have c11 := Wd.at0 hlt hr 11 rfl
  have hL : ∀ y : Wd w1, (Instr.loadAt 45 (.pointer (some ⟨w.heap.size, 0, none⟩))).run Tryz.prog y.w = .ok (.agg (decA d)) y.w := Wd.load hlt hr Tryz.underlying45 rfl (by kernel_rfl)
  have hS' : ∀ y : Wd w1, DecIn y.w d := fun y => hI.q (Q.trans hq1 y.q)
  have hS : ∀ y : Wd w1, Strs y.w d.toA d.to := fun y => (hS' y).to
  have hlen : d.to.length ≤ 9223372036854775807 := hI.toLen
  clear hlt hr
  rcases ways5 (withinB d.server 0 19) (withinB d.number 0 1073741824) (withinB d.start 0 1099511627776) (withinB d.stop 0 1099511627776) (decide (d.start < d.stop)) with g1 | ⟨g1, g2⟩ | ⟨g1, g2, g3⟩ | ⟨g1, g2, g3, g4⟩ | ⟨g1, g2, g3, g4, g5⟩ | ⟨g1, g2, g3, g4, g5⟩
  all_goals
    go_enter Tryz.func60, Tryz.ntmps60
    go_wp2_with (first | (refine wpList_load_run 45 (.tmp 1) (.pointer (some ⟨w.heap.size, 0, none⟩)) (.agg (decA d)) ?_ ?_ ?_ ?_ ?_; rfl; rfl; rfl; exact hL _) | (go_at_call 91; refine (iwithin_at _ _ _ _ _ rfl).mono ?_; rintro e w' ⟨rfl, rfl⟩) | (go_at_call 93; refine (isServer_any _ _).mono ?_; rintro e w' ⟨rfl, rfl⟩) | (go_at_call 94; refine (isTime_any _ _).mono ?_; rintro e w' ⟨rfl, rfl⟩) | (go_at_call 95; refine (rightSig_any _ _ _).mono ?_; rintro e w' ⟨rfl, hq2⟩; obtain ⟨y, rfl⟩ := Wd.next _ hq2; clear hq2) | (go_at_call 96; refine (terms_any _ _ (hS' _)).mono ?_; rintro e w' ⟨rfl, hq2⟩; obtain ⟨y, rfl⟩ := Wd.next _ hq2; clear hq2))
  all_goals
    go_ret
    refine ⟨?_, Q.trans hq1 (Wd.q _)⟩
    simp_all [decRight]
  all_goals (intros; omega)
end Go.Proofs.YtjfcllanochhmaaGreatDoor.Item
