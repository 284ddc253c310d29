/-
  DERIVED: THE SHELF's CONTRACTS AT THIS DUMP, IN PLAIN WORDS (tools/lay-plain.mjs out of 'TryzSort.lean', which tools/lay-shelf.mjs wrote): THE SAME DECLARATIONS UNDER THE SAME NAMES: 'import', 'namespace', 'open', 'def', 'theorem' AND NOTHING ELSE: no command of the shelf's: FOR A HAND-IN. Each laying: the table of numbers ('.._ren') and one theorem, a field a fact of the dump's own or the kernel's comparison; each contract: ONE APPLICATION.
  Package item's test of decisions.
  Package item's builder: a claim, a ballot, a decision (printed by gen_itemg.py). Package item's formOf, message and signedBy. What a right item is: small; its text is not empty. No walk in this text. The contract of item.Right (printed by gen_itemf.py). Package item's Bytes, Digest and Signed. More arms of the walk: a value that is built, an operation whose run is known. Rows of things of k cells each: append of a slice, wherever it lies, onto a row of the call's own; what such a row reads. Package item's Signed, OfBallot, OfClaim. Package item's SignBallot.
  Known sets as plain data: adding an item, filling, and what these are. No walk in this text.
  What an argument's type gives: wraps, activities, claims, ballots, decisions and items (printed by gen_openitem.py).
  Known sets in memory; known.New. known.Add. known.Add, at an item that is signed. known.Find and known.Has. known.Has and known.Right. Package code's Int and Nums. known.Digest. The law's own function publics. The law's own function filled. The law's own function mixed.
  item.SignBallot for ballots whose actor may be as long as any string that a law is given (printed by gen_itbig.py).
-/
import Derived.Shelf.SlGeneric
import Derived.Shelf.SlSortCmp.InsertionK
import Derived.Ground.SlsfProg
import Derived.Test.YtflgkplneekpfaaGreatDoorProg
import Derived.Test.YtflgkplneekpfaaGreatDoorItemA
import Derived.Test.YtflgkplneekpfaaGreatDoorItemZ
import Derived.Test.YtflgkplneekpfaaGreatDoorBld2
import Derived.Test.YtflgkplneekpfaaGreatDoorRuns
import Derived.Test.YtflgkplneekpfaaGreatDoorItemE
import Derived.Test.YtflgkplneekpfaaGreatDoorStore
import Derived.Deep.Cut
import Derived.Test.YtflgkplneekpfaaGreatDoorIdent2
import Derived.Test.YtflgkplneekpfaaGreatDoorOks
import Derived.Maps.AppendAt
set_option linter.unusedVariables false
set_option linter.unusedSimpArgs false
namespace Go.Proofs
open Go.Shelf
def Tryz.insBallot_ren : Go.Shelf.Ren := ⟨fun | 20 => 265 | n => n, fun | 24 => 234 | 22 => 231 | 3 => 3 | 25 => 236 | 4 => 4 | 0 => 0 | n => n, fun | n => n⟩
theorem Tryz.insBallot : Go.Proofs.SlLaysF0.n20 Tryz.prog Tryz.insBallot_ren := {
  mixed := by kernel_rfl
  f20 := ⟨Tryz.f265.name, by decide, Tryz.func265.trans (congrArg some (by kernel_rfl))⟩
  t0 := Tryz.underlying0
  a0 := Tryz.isAgg0
  z0 := Tryz.sizeOf0
  v0 := Tryz.zeroValue0
  t3 := Tryz.underlying3
  a3 := Tryz.isAgg3
  z3 := Tryz.sizeOf3
  v3 := Tryz.zeroValue3
  t4 := Tryz.underlying4
  a4 := Tryz.isAgg4
  z4 := Tryz.sizeOf4
  v4 := Tryz.zeroValue4
  t22 := Tryz.underlying231
  a22 := Tryz.isAgg231
  z22 := Tryz.sizeOf231
  v22 := Tryz.zeroValue231
  t25 := Tryz.underlying236
  a25 := Tryz.isAgg236
  z25 := Tryz.sizeOf236
  v25 := Tryz.zeroValue236 }
def Tryz.insClaim_ren : Go.Shelf.Ren := ⟨fun | 20 => 243 | n => n, fun | 24 => 208 | 22 => 205 | 3 => 3 | 25 => 210 | 4 => 4 | 0 => 0 | n => n, fun | n => n⟩
theorem Tryz.insClaim : Go.Proofs.SlLaysF0.n20 Tryz.prog Tryz.insClaim_ren := {
  mixed := by kernel_rfl
  f20 := ⟨Tryz.f243.name, by decide, Tryz.func243.trans (congrArg some (by kernel_rfl))⟩
  t0 := Tryz.underlying0
  a0 := Tryz.isAgg0
  z0 := Tryz.sizeOf0
  v0 := Tryz.zeroValue0
  t3 := Tryz.underlying3
  a3 := Tryz.isAgg3
  z3 := Tryz.sizeOf3
  v3 := Tryz.zeroValue3
  t4 := Tryz.underlying4
  a4 := Tryz.isAgg4
  z4 := Tryz.sizeOf4
  v4 := Tryz.zeroValue4
  t22 := Tryz.underlying205
  a22 := Tryz.isAgg205
  z22 := Tryz.sizeOf205
  v22 := Tryz.zeroValue205
  t25 := Tryz.underlying210
  a25 := Tryz.isAgg210
  z25 := Tryz.sizeOf210
  v25 := Tryz.zeroValue210 }
def Tryz.insDecision_ren : Go.Shelf.Ren := ⟨fun | 20 => 224 | n => n, fun | 24 => 168 | 22 => 165 | 3 => 3 | 25 => 172 | 4 => 4 | 0 => 0 | n => n, fun | n => n⟩
theorem Tryz.insDecision : Go.Proofs.SlLaysF0.n20 Tryz.prog Tryz.insDecision_ren := {
  mixed := by kernel_rfl
  f20 := ⟨Tryz.f224.name, by decide, Tryz.func224.trans (congrArg some (by kernel_rfl))⟩
  t0 := Tryz.underlying0
  a0 := Tryz.isAgg0
  z0 := Tryz.sizeOf0
  v0 := Tryz.zeroValue0
  t3 := Tryz.underlying3
  a3 := Tryz.isAgg3
  z3 := Tryz.sizeOf3
  v3 := Tryz.zeroValue3
  t4 := Tryz.underlying4
  a4 := Tryz.isAgg4
  z4 := Tryz.sizeOf4
  v4 := Tryz.zeroValue4
  t22 := Tryz.underlying165
  a22 := Tryz.isAgg165
  z22 := Tryz.sizeOf165
  v22 := Tryz.zeroValue165
  t25 := Tryz.underlying172
  a25 := Tryz.isAgg172
  z25 := Tryz.sizeOf172
  v25 := Tryz.zeroValue172 }
end Go.Proofs

namespace Go.Proofs.YtflgkplneekpfaaGreatDoor.Item
open Go.RowKit Grp Mem _root_.Go.Proofs.YtflgkplneekpfaaGreatDoor.Code Sha Sign

theorem cast500 (k : Nat) : decide ((k : Int) ≤ 500) = decide (k ≤ 500) := by rw [decide_eq_decide]; omega
theorem le500 (k : Nat) : ((k : Int) ≤ 500) = (k ≤ 500) := propext ⟨fun h => by omega, fun h => by omega⟩
theorem lt500 (k : Nat) : ((500 : Int) < (k : Int)) = (500 < k) := propext ⟨fun h => by omega, fun h => by omega⟩
theorem le4096 (k : Nat) : ((k : Int) ≤ 4096) = (k ≤ 4096) := propext ⟨fun h => by omega, fun h => by omega⟩
theorem lt4096 (k : Nat) : ((4096 : Int) < (k : Int)) = (4096 < k) := propext ⟨fun h => by omega, fun h => by omega⟩
theorem intz2 (n : Int) : (n == 0) = decide (n = 0) := by
  by_cases h : n = 0 <;> simp [h]
theorem cast4096 (k : Nat) : decide ((k : Int) ≤ 4096) = decide (k ≤ 4096) := by rw [decide_eq_decide]; omega
set_option maxRecDepth 100000 in
set_option maxHeartbeats 8000000 in
theorem terms_0 (d : DecR) (w : World) (hI : DecIn w d) (hk : d.kind = 0) : Calls Tryz.prog 98 #[.agg (decA d)] w fun e w' => e = .returned (.bool (termsB d)) ∧ Q w w' := by
  obtain ⟨w1, x, hx, hq1, hlt, hr⟩ := boxed2 w 48 d.cells
  have hx : w.alloc (.cells (decA d) 48) = x.w := hx
  have c2 := Wd.at0 hlt hr 2 rfl
  have c3 := Wd.at0 hlt hr 3 rfl
  have c4 := Wd.at0 hlt hr 4 rfl
  have c5 := Wd.at0 hlt hr 5 rfl
  have c6 := Wd.at0 hlt hr 6 rfl
  have c7 := Wd.at0 hlt hr 7 rfl
  have hS' : ∀ y : Wd w1, DecIn y.w d := fun y => hI.q (Q.trans hq1 y.q)
  have hS : ∀ y : Wd w1, Strs y.w d.toA d.to := fun y => (hS' y).to
  have hlen : d.to.length ≤ 9223372036854775807 := hI.toLen
  clear hlt hr
  simp only [hk] at c2
  go_enter Tryz.func98, Tryz.ntmps98
  go_wp2_with (first | (go_at_call 93; refine (iwithin_at _ _ _ _ _ rfl).mono ?_; rintro e w' ⟨rfl, rfl⟩) | (go_at_call 94; refine (iisDigest_at _ _ _ rfl).mono ?_; rintro e w' ⟨rfl, rfl⟩) | (go_at_call 88; refine (idRight_any _ _).mono ?_; rintro e w' ⟨rfl, hq2⟩; obtain ⟨y, rfl⟩ := Wd.next _ hq2; clear hq2) | (go_at_call 154; refine (ids_any _ _ _ _ (hS _) (by with_reducible assumption)).mono ?_; rintro e w' ⟨rfl, hq2⟩; obtain ⟨y, rfl⟩ := Wd.next _ hq2; clear hq2))
  all_goals
    go_ret
    refine ⟨?_, Q.trans hq1 (Wd.q _)⟩
    simp_all [termsB, plainD, shortB, empty_none, cast0, toList_nil, cast500, cast4096, le500, lt500, le4096, lt4096, intz2]
  all_goals (first | omega | (intro h; omega) | (intros; simp_all) | (intros; omega))
set_option maxRecDepth 100000 in
set_option maxHeartbeats 8000000 in
theorem terms_1 (d : DecR) (w : World) (hI : DecIn w d) (hk : d.kind = 1) : Calls Tryz.prog 98 #[.agg (decA d)] w fun e w' => e = .returned (.bool (termsB d)) ∧ Q w w' := by
  obtain ⟨w1, x, hx, hq1, hlt, hr⟩ := boxed2 w 48 d.cells
  have hx : w.alloc (.cells (decA d) 48) = x.w := hx
  have c2 := Wd.at0 hlt hr 2 rfl
  have c3 := Wd.at0 hlt hr 3 rfl
  have c4 := Wd.at0 hlt hr 4 rfl
  have c5 := Wd.at0 hlt hr 5 rfl
  have c6 := Wd.at0 hlt hr 6 rfl
  have c7 := Wd.at0 hlt hr 7 rfl
  have hS' : ∀ y : Wd w1, DecIn y.w d := fun y => hI.q (Q.trans hq1 y.q)
  have hS : ∀ y : Wd w1, Strs y.w d.toA d.to := fun y => (hS' y).to
  have hlen : d.to.length ≤ 9223372036854775807 := hI.toLen
  clear hlt hr
  simp only [hk] at c2
  go_enter Tryz.func98, Tryz.ntmps98
  go_wp2_with (first | (go_at_call 93; refine (iwithin_at _ _ _ _ _ rfl).mono ?_; rintro e w' ⟨rfl, rfl⟩) | (go_at_call 94; refine (iisDigest_at _ _ _ rfl).mono ?_; rintro e w' ⟨rfl, rfl⟩) | (go_at_call 88; refine (idRight_any _ _).mono ?_; rintro e w' ⟨rfl, hq2⟩; obtain ⟨y, rfl⟩ := Wd.next _ hq2; clear hq2) | (go_at_call 154; refine (ids_any _ _ _ _ (hS _) (by with_reducible assumption)).mono ?_; rintro e w' ⟨rfl, hq2⟩; obtain ⟨y, rfl⟩ := Wd.next _ hq2; clear hq2))
  all_goals
    go_ret
    refine ⟨?_, Q.trans hq1 (Wd.q _)⟩
    simp_all [termsB, plainD, shortB, empty_none, cast0, toList_nil, cast500, cast4096, le500, lt500, le4096, lt4096, intz2]
  all_goals (first | omega | (intro h; omega) | (intros; simp_all) | (intros; omega))
set_option maxRecDepth 100000 in
set_option maxHeartbeats 8000000 in
theorem terms_2 (d : DecR) (w : World) (hI : DecIn w d) (hk : d.kind = 2) : Calls Tryz.prog 98 #[.agg (decA d)] w fun e w' => e = .returned (.bool (termsB d)) ∧ Q w w' := by
  obtain ⟨w1, x, hx, hq1, hlt, hr⟩ := boxed2 w 48 d.cells
  have hx : w.alloc (.cells (decA d) 48) = x.w := hx
  have c2 := Wd.at0 hlt hr 2 rfl
  have c3 := Wd.at0 hlt hr 3 rfl
  have c4 := Wd.at0 hlt hr 4 rfl
  have c5 := Wd.at0 hlt hr 5 rfl
  have c6 := Wd.at0 hlt hr 6 rfl
  have c7 := Wd.at0 hlt hr 7 rfl
  have hS' : ∀ y : Wd w1, DecIn y.w d := fun y => hI.q (Q.trans hq1 y.q)
  have hS : ∀ y : Wd w1, Strs y.w d.toA d.to := fun y => (hS' y).to
  have hlen : d.to.length ≤ 9223372036854775807 := hI.toLen
  clear hlt hr
  simp only [hk] at c2
  go_enter Tryz.func98, Tryz.ntmps98
  go_wp2_with (first | (go_at_call 93; refine (iwithin_at _ _ _ _ _ rfl).mono ?_; rintro e w' ⟨rfl, rfl⟩) | (go_at_call 94; refine (iisDigest_at _ _ _ rfl).mono ?_; rintro e w' ⟨rfl, rfl⟩) | (go_at_call 88; refine (idRight_any _ _).mono ?_; rintro e w' ⟨rfl, hq2⟩; obtain ⟨y, rfl⟩ := Wd.next _ hq2; clear hq2) | (go_at_call 154; refine (ids_any _ _ _ _ (hS _) (by with_reducible assumption)).mono ?_; rintro e w' ⟨rfl, hq2⟩; obtain ⟨y, rfl⟩ := Wd.next _ hq2; clear hq2))
  all_goals
    go_ret
    refine ⟨?_, Q.trans hq1 (Wd.q _)⟩
    simp_all [termsB, plainD, shortB, empty_none, cast0, toList_nil, cast500, cast4096, le500, lt500, le4096, lt4096, intz2]
  all_goals (first | omega | (intro h; omega) | (intros; simp_all) | (intros; omega))
set_option maxRecDepth 100000 in
set_option maxHeartbeats 8000000 in
theorem terms_3 (d : DecR) (w : World) (hI : DecIn w d) (hk : d.kind = 3) : Calls Tryz.prog 98 #[.agg (decA d)] w fun e w' => e = .returned (.bool (termsB d)) ∧ Q w w' := by
  obtain ⟨w1, x, hx, hq1, hlt, hr⟩ := boxed2 w 48 d.cells
  have hx : w.alloc (.cells (decA d) 48) = x.w := hx
  have c2 := Wd.at0 hlt hr 2 rfl
  have c3 := Wd.at0 hlt hr 3 rfl
  have c4 := Wd.at0 hlt hr 4 rfl
  have c5 := Wd.at0 hlt hr 5 rfl
  have c6 := Wd.at0 hlt hr 6 rfl
  have c7 := Wd.at0 hlt hr 7 rfl
  have hS' : ∀ y : Wd w1, DecIn y.w d := fun y => hI.q (Q.trans hq1 y.q)
  have hS : ∀ y : Wd w1, Strs y.w d.toA d.to := fun y => (hS' y).to
  have hlen : d.to.length ≤ 9223372036854775807 := hI.toLen
  clear hlt hr
  simp only [hk] at c2
  go_enter Tryz.func98, Tryz.ntmps98
  go_wp2_with (first | (go_at_call 93; refine (iwithin_at _ _ _ _ _ rfl).mono ?_; rintro e w' ⟨rfl, rfl⟩) | (go_at_call 94; refine (iisDigest_at _ _ _ rfl).mono ?_; rintro e w' ⟨rfl, rfl⟩) | (go_at_call 88; refine (idRight_any _ _).mono ?_; rintro e w' ⟨rfl, hq2⟩; obtain ⟨y, rfl⟩ := Wd.next _ hq2; clear hq2) | (go_at_call 154; refine (ids_any _ _ _ _ (hS _) (by with_reducible assumption)).mono ?_; rintro e w' ⟨rfl, hq2⟩; obtain ⟨y, rfl⟩ := Wd.next _ hq2; clear hq2))
  all_goals
    go_ret
    refine ⟨?_, Q.trans hq1 (Wd.q _)⟩
    simp_all [termsB, plainD, shortB, empty_none, cast0, toList_nil, cast500, cast4096, le500, lt500, le4096, lt4096, intz2]
  all_goals (first | omega | (intro h; omega) | (intros; simp_all) | (intros; omega))
set_option maxRecDepth 100000 in
set_option maxHeartbeats 8000000 in
theorem terms_4 (d : DecR) (w : World) (hI : DecIn w d) (hk : d.kind = 4) : Calls Tryz.prog 98 #[.agg (decA d)] w fun e w' => e = .returned (.bool (termsB d)) ∧ Q w w' := by
  obtain ⟨w1, x, hx, hq1, hlt, hr⟩ := boxed2 w 48 d.cells
  have hx : w.alloc (.cells (decA d) 48) = x.w := hx
  have c2 := Wd.at0 hlt hr 2 rfl
  have c3 := Wd.at0 hlt hr 3 rfl
  have c4 := Wd.at0 hlt hr 4 rfl
  have c5 := Wd.at0 hlt hr 5 rfl
  have c6 := Wd.at0 hlt hr 6 rfl
  have c7 := Wd.at0 hlt hr 7 rfl
  have hS' : ∀ y : Wd w1, DecIn y.w d := fun y => hI.q (Q.trans hq1 y.q)
  have hS : ∀ y : Wd w1, Strs y.w d.toA d.to := fun y => (hS' y).to
  have hlen : d.to.length ≤ 9223372036854775807 := hI.toLen
  clear hlt hr
  simp only [hk] at c2
  go_enter Tryz.func98, Tryz.ntmps98
  go_wp2_with (first | (go_at_call 93; refine (iwithin_at _ _ _ _ _ rfl).mono ?_; rintro e w' ⟨rfl, rfl⟩) | (go_at_call 94; refine (iisDigest_at _ _ _ rfl).mono ?_; rintro e w' ⟨rfl, rfl⟩) | (go_at_call 88; refine (idRight_any _ _).mono ?_; rintro e w' ⟨rfl, hq2⟩; obtain ⟨y, rfl⟩ := Wd.next _ hq2; clear hq2) | (go_at_call 154; refine (ids_any _ _ _ _ (hS _) (by with_reducible assumption)).mono ?_; rintro e w' ⟨rfl, hq2⟩; obtain ⟨y, rfl⟩ := Wd.next _ hq2; clear hq2))
  all_goals
    go_ret
    refine ⟨?_, Q.trans hq1 (Wd.q _)⟩
    simp_all [termsB, plainD, shortB, empty_none, cast0, toList_nil, cast500, cast4096, le500, lt500, le4096, lt4096, intz2]
  all_goals (first | omega | (intro h; omega) | (intros; simp_all) | (intros; omega))
set_option maxRecDepth 100000 in
set_option maxHeartbeats 8000000 in
theorem terms_5 (d : DecR) (w : World) (hI : DecIn w d) (hk : d.kind = 5) : Calls Tryz.prog 98 #[.agg (decA d)] w fun e w' => e = .returned (.bool (termsB d)) ∧ Q w w' := by
  obtain ⟨w1, x, hx, hq1, hlt, hr⟩ := boxed2 w 48 d.cells
  have hx : w.alloc (.cells (decA d) 48) = x.w := hx
  have c2 := Wd.at0 hlt hr 2 rfl
  have c3 := Wd.at0 hlt hr 3 rfl
  have c4 := Wd.at0 hlt hr 4 rfl
  have c5 := Wd.at0 hlt hr 5 rfl
  have c6 := Wd.at0 hlt hr 6 rfl
  have c7 := Wd.at0 hlt hr 7 rfl
  have hS' : ∀ y : Wd w1, DecIn y.w d := fun y => hI.q (Q.trans hq1 y.q)
  have hS : ∀ y : Wd w1, Strs y.w d.toA d.to := fun y => (hS' y).to
  have hlen : d.to.length ≤ 9223372036854775807 := hI.toLen
  clear hlt hr
  simp only [hk] at c2
  go_enter Tryz.func98, Tryz.ntmps98
  go_wp2_with (first | (go_at_call 93; refine (iwithin_at _ _ _ _ _ rfl).mono ?_; rintro e w' ⟨rfl, rfl⟩) | (go_at_call 94; refine (iisDigest_at _ _ _ rfl).mono ?_; rintro e w' ⟨rfl, rfl⟩) | (go_at_call 88; refine (idRight_any _ _).mono ?_; rintro e w' ⟨rfl, hq2⟩; obtain ⟨y, rfl⟩ := Wd.next _ hq2; clear hq2) | (go_at_call 154; refine (ids_any _ _ _ _ (hS _) (by with_reducible assumption)).mono ?_; rintro e w' ⟨rfl, hq2⟩; obtain ⟨y, rfl⟩ := Wd.next _ hq2; clear hq2))
  all_goals
    go_ret
    refine ⟨?_, Q.trans hq1 (Wd.q _)⟩
    simp_all [termsB, plainD, shortB, empty_none, cast0, toList_nil, cast500, cast4096, le500, lt500, le4096, lt4096, intz2]
  all_goals (first | omega | (intro h; omega) | (intros; simp_all) | (intros; omega))
set_option maxRecDepth 100000 in
set_option maxHeartbeats 8000000 in
theorem terms_6 (d : DecR) (w : World) (hI : DecIn w d) (hk : d.kind = 6) : Calls Tryz.prog 98 #[.agg (decA d)] w fun e w' => e = .returned (.bool (termsB d)) ∧ Q w w' := by
  obtain ⟨w1, x, hx, hq1, hlt, hr⟩ := boxed2 w 48 d.cells
  have hx : w.alloc (.cells (decA d) 48) = x.w := hx
  have c2 := Wd.at0 hlt hr 2 rfl
  have c3 := Wd.at0 hlt hr 3 rfl
  have c4 := Wd.at0 hlt hr 4 rfl
  have c5 := Wd.at0 hlt hr 5 rfl
  have c6 := Wd.at0 hlt hr 6 rfl
  have c7 := Wd.at0 hlt hr 7 rfl
  have hS' : ∀ y : Wd w1, DecIn y.w d := fun y => hI.q (Q.trans hq1 y.q)
  have hS : ∀ y : Wd w1, Strs y.w d.toA d.to := fun y => (hS' y).to
  have hlen : d.to.length ≤ 9223372036854775807 := hI.toLen
  clear hlt hr
  simp only [hk] at c2
  go_enter Tryz.func98, Tryz.ntmps98
  go_wp2_with (first | (go_at_call 93; refine (iwithin_at _ _ _ _ _ rfl).mono ?_; rintro e w' ⟨rfl, rfl⟩) | (go_at_call 94; refine (iisDigest_at _ _ _ rfl).mono ?_; rintro e w' ⟨rfl, rfl⟩) | (go_at_call 88; refine (idRight_any _ _).mono ?_; rintro e w' ⟨rfl, hq2⟩; obtain ⟨y, rfl⟩ := Wd.next _ hq2; clear hq2) | (go_at_call 154; refine (ids_any _ _ _ _ (hS _) (by with_reducible assumption)).mono ?_; rintro e w' ⟨rfl, hq2⟩; obtain ⟨y, rfl⟩ := Wd.next _ hq2; clear hq2))
  all_goals
    go_ret
    refine ⟨?_, Q.trans hq1 (Wd.q _)⟩
    simp_all [termsB, plainD, shortB, empty_none, cast0, toList_nil, cast500, cast4096, le500, lt500, le4096, lt4096, intz2]
  all_goals (first | omega | (intro h; omega) | (intros; simp_all) | (intros; omega))
set_option maxRecDepth 100000 in
set_option maxHeartbeats 8000000 in
theorem terms_7 (d : DecR) (w : World) (hI : DecIn w d) (hk : d.kind = 7) : Calls Tryz.prog 98 #[.agg (decA d)] w fun e w' => e = .returned (.bool (termsB d)) ∧ Q w w' := by
  obtain ⟨w1, x, hx, hq1, hlt, hr⟩ := boxed2 w 48 d.cells
  have hx : w.alloc (.cells (decA d) 48) = x.w := hx
  have c2 := Wd.at0 hlt hr 2 rfl
  have c3 := Wd.at0 hlt hr 3 rfl
  have c4 := Wd.at0 hlt hr 4 rfl
  have c5 := Wd.at0 hlt hr 5 rfl
  have c6 := Wd.at0 hlt hr 6 rfl
  have c7 := Wd.at0 hlt hr 7 rfl
  have hS' : ∀ y : Wd w1, DecIn y.w d := fun y => hI.q (Q.trans hq1 y.q)
  have hS : ∀ y : Wd w1, Strs y.w d.toA d.to := fun y => (hS' y).to
  have hlen : d.to.length ≤ 9223372036854775807 := hI.toLen
  clear hlt hr
  simp only [hk] at c2
  go_enter Tryz.func98, Tryz.ntmps98
  go_wp2_with (first | (go_at_call 93; refine (iwithin_at _ _ _ _ _ rfl).mono ?_; rintro e w' ⟨rfl, rfl⟩) | (go_at_call 94; refine (iisDigest_at _ _ _ rfl).mono ?_; rintro e w' ⟨rfl, rfl⟩) | (go_at_call 88; refine (idRight_any _ _).mono ?_; rintro e w' ⟨rfl, hq2⟩; obtain ⟨y, rfl⟩ := Wd.next _ hq2; clear hq2) | (go_at_call 154; refine (ids_any _ _ _ _ (hS _) (by with_reducible assumption)).mono ?_; rintro e w' ⟨rfl, hq2⟩; obtain ⟨y, rfl⟩ := Wd.next _ hq2; clear hq2))
  all_goals
    go_ret
    refine ⟨?_, Q.trans hq1 (Wd.q _)⟩
    simp_all [termsB, plainD, shortB, empty_none, cast0, toList_nil, cast500, cast4096, le500, lt500, le4096, lt4096, intz2]
  all_goals (first | omega | (intro h; omega) | (intros; simp_all) | (intros; omega))
theorem ids_len (A : Option Addr) (n c : Nat) (l : List ByteArray) (w : World) (hS : Strs w A l) (hc : l.length ≤ 9223372036854775807) (hn : n = l.length) : Calls Tryz.prog 154 #[.slice A n c] w fun e w' => e = .returned (.bool (idsB l)) ∧ Q w w' := hn ▸ ids_any A c l w hS hc
set_option maxRecDepth 100000 in
set_option maxHeartbeats 8000000 in
theorem terms_8 (d : DecR) (w : World) (hI : DecIn w d) (hk : d.kind = 8) : Calls Tryz.prog 98 #[.agg (decA d)] w fun e w' => e = .returned (.bool (termsB d)) ∧ Q w w' := by
  obtain ⟨w1, x, hx, hq1, hlt, hr⟩ := boxed2 w 48 d.cells
  have hx : w.alloc (.cells (decA d) 48) = x.w := hx
  have c2 := Wd.at0 hlt hr 2 rfl
  have c3 := Wd.at0 hlt hr 3 rfl
  have c4 := Wd.at0 hlt hr 4 rfl
  have c5 := Wd.at0 hlt hr 5 rfl
  have c6 := Wd.at0 hlt hr 6 rfl
  have c7 := Wd.at0 hlt hr 7 rfl
  have hS' : ∀ y : Wd w1, DecIn y.w d := fun y => hI.q (Q.trans hq1 y.q)
  have hS : ∀ y : Wd w1, Strs y.w d.toA d.to := fun y => (hS' y).to
  have hlen : d.to.length ≤ 9223372036854775807 := hI.toLen
  clear hlt hr
  simp only [hk] at c2
  go_enter Tryz.func98, Tryz.ntmps98
  go_wp2_with (first | (go_at_call 93; refine (iwithin_at _ _ _ _ _ rfl).mono ?_; rintro e w' ⟨rfl, rfl⟩) | (go_at_call 94; refine (iisDigest_at _ _ _ rfl).mono ?_; rintro e w' ⟨rfl, rfl⟩) | (go_at_call 88; refine (idRight_any _ _).mono ?_; rintro e w' ⟨rfl, hq2⟩; obtain ⟨y, rfl⟩ := Wd.next _ hq2; clear hq2) | (go_at_call 154; refine (ids_len d.toA _ d.toC d.to _ (hS _) (by omega) (by first | rfl | omega | simp [*])).mono ?_; rintro e w' ⟨rfl, hq2⟩; obtain ⟨y, rfl⟩ := Wd.next _ hq2; clear hq2))
  all_goals
    go_ret
    refine ⟨?_, Q.trans hq1 (Wd.q _)⟩
    simp_all [termsB, plainD, shortB, empty_none, cast0, toList_nil, cast500, cast4096, le500, lt500, le4096, lt4096, intz2]
  all_goals (first | omega | (intro h; omega) | (intros; simp_all) | (intros; omega))
set_option maxRecDepth 100000 in
set_option maxHeartbeats 8000000 in
theorem terms_9 (d : DecR) (w : World) (hI : DecIn w d) (hk : d.kind = 9) : Calls Tryz.prog 98 #[.agg (decA d)] w fun e w' => e = .returned (.bool (termsB d)) ∧ Q w w' := by
  obtain ⟨w1, x, hx, hq1, hlt, hr⟩ := boxed2 w 48 d.cells
  have hx : w.alloc (.cells (decA d) 48) = x.w := hx
  have c2 := Wd.at0 hlt hr 2 rfl
  have c3 := Wd.at0 hlt hr 3 rfl
  have c4 := Wd.at0 hlt hr 4 rfl
  have c5 := Wd.at0 hlt hr 5 rfl
  have c6 := Wd.at0 hlt hr 6 rfl
  have c7 := Wd.at0 hlt hr 7 rfl
  have hS' : ∀ y : Wd w1, DecIn y.w d := fun y => hI.q (Q.trans hq1 y.q)
  have hS : ∀ y : Wd w1, Strs y.w d.toA d.to := fun y => (hS' y).to
  have hlen : d.to.length ≤ 9223372036854775807 := hI.toLen
  clear hlt hr
  simp only [hk] at c2
  go_enter Tryz.func98, Tryz.ntmps98
  go_wp2_with (first | (go_at_call 93; refine (iwithin_at _ _ _ _ _ rfl).mono ?_; rintro e w' ⟨rfl, rfl⟩) | (go_at_call 94; refine (iisDigest_at _ _ _ rfl).mono ?_; rintro e w' ⟨rfl, rfl⟩) | (go_at_call 88; refine (idRight_any _ _).mono ?_; rintro e w' ⟨rfl, hq2⟩; obtain ⟨y, rfl⟩ := Wd.next _ hq2; clear hq2) | (go_at_call 154; refine (ids_any _ _ _ _ (hS _) (by with_reducible assumption)).mono ?_; rintro e w' ⟨rfl, hq2⟩; obtain ⟨y, rfl⟩ := Wd.next _ hq2; clear hq2))
  all_goals
    go_ret
    refine ⟨?_, Q.trans hq1 (Wd.q _)⟩
    simp_all [termsB, plainD, shortB, empty_none, cast0, toList_nil, cast500, cast4096, le500, lt500, le4096, lt4096, intz2]
  all_goals (first | omega | (intro h; omega) | (intros; simp_all) | (intros; omega))
set_option maxRecDepth 100000 in
set_option maxHeartbeats 8000000 in
theorem terms_no (d : DecR) (w : World) (hI : DecIn w d) (k0 : ¬ d.kind = 0) (k1 : ¬ d.kind = 1) (k2 : ¬ d.kind = 2) (k3 : ¬ d.kind = 3) (k4 : ¬ d.kind = 4) (k5 : ¬ d.kind = 5) (k6 : ¬ d.kind = 6) (k7 : ¬ d.kind = 7) (k8 : ¬ d.kind = 8) (k9 : ¬ d.kind = 9) : Calls Tryz.prog 98 #[.agg (decA d)] w fun e w' => e = .returned (.bool (termsB d)) ∧ Q w w' := by
  obtain ⟨w1, x, hx, hq1, hlt, hr⟩ := boxed2 w 48 d.cells
  have hx : w.alloc (.cells (decA d) 48) = x.w := hx
  have c2 := Wd.at0 hlt hr 2 rfl
  have c3 := Wd.at0 hlt hr 3 rfl
  have c4 := Wd.at0 hlt hr 4 rfl
  have c5 := Wd.at0 hlt hr 5 rfl
  have c6 := Wd.at0 hlt hr 6 rfl
  have c7 := Wd.at0 hlt hr 7 rfl
  have hS' : ∀ y : Wd w1, DecIn y.w d := fun y => hI.q (Q.trans hq1 y.q)
  have hS : ∀ y : Wd w1, Strs y.w d.toA d.to := fun y => (hS' y).to
  have hlen : d.to.length ≤ 9223372036854775807 := hI.toLen
  clear hlt hr
  have e0 : (d.kind == 0) = false := by simpa using k0
  have e1 : (d.kind == 1) = false := by simpa using k1
  have e2 : (d.kind == 2) = false := by simpa using k2
  have e3 : (d.kind == 3) = false := by simpa using k3
  have e4 : (d.kind == 4) = false := by simpa using k4
  have e5 : (d.kind == 5) = false := by simpa using k5
  have e6 : (d.kind == 6) = false := by simpa using k6
  have e7 : (d.kind == 7) = false := by simpa using k7
  have e8 : (d.kind == 8) = false := by simpa using k8
  have e9 : (d.kind == 9) = false := by simpa using k9
  go_enter Tryz.func98, Tryz.ntmps98
  go_wp2_with (first | (go_at_call 93; refine (iwithin_at _ _ _ _ _ rfl).mono ?_; rintro e w' ⟨rfl, rfl⟩) | (go_at_call 94; refine (iisDigest_at _ _ _ rfl).mono ?_; rintro e w' ⟨rfl, rfl⟩) | (go_at_call 88; refine (idRight_any _ _).mono ?_; rintro e w' ⟨rfl, hq2⟩; obtain ⟨y, rfl⟩ := Wd.next _ hq2; clear hq2) | (go_at_call 154; refine (ids_any _ _ _ _ (hS _) (by with_reducible assumption)).mono ?_; rintro e w' ⟨rfl, hq2⟩; obtain ⟨y, rfl⟩ := Wd.next _ hq2; clear hq2))
  all_goals
    go_ret
    refine ⟨?_, Q.trans hq1 (Wd.q _)⟩
    simp_all [termsB, plainD, shortB, empty_none, cast0, toList_nil, cast500, cast4096, le500, lt500, le4096, lt4096, intz2]
  all_goals (first | omega | (intro h; omega) | (intros; simp_all) | (intros; omega))
theorem terms_any (d : DecR) (w : World) (hI : DecIn w d) : Calls Tryz.prog 98 #[.agg (decA d)] w fun e w' => e = .returned (.bool (termsB d)) ∧ Q w w' := by
  by_cases k0 : d.kind = 0
  · exact terms_0 d w hI k0
  by_cases k1 : d.kind = 1
  · exact terms_1 d w hI k1
  by_cases k2 : d.kind = 2
  · exact terms_2 d w hI k2
  by_cases k3 : d.kind = 3
  · exact terms_3 d w hI k3
  by_cases k4 : d.kind = 4
  · exact terms_4 d w hI k4
  by_cases k5 : d.kind = 5
  · exact terms_5 d w hI k5
  by_cases k6 : d.kind = 6
  · exact terms_6 d w hI k6
  by_cases k7 : d.kind = 7
  · exact terms_7 d w hI k7
  by_cases k8 : d.kind = 8
  · exact terms_8 d w hI k8
  by_cases k9 : d.kind = 9
  · exact terms_9 d w hI k9
  exact terms_no d w hI k0 k1 k2 k3 k4 k5 k6 k7 k8 k9
set_option maxRecDepth 100000 in
set_option maxHeartbeats 4000000 in
theorem rightDec_any (d : DecR) (w : World) (hI : DecIn w d) : Calls Tryz.prog 48 #[.agg (decA d)] w fun e w' => e = .returned (.bool (decRight d)) ∧ Q w w' := by
  obtain ⟨w1, x, hx, hq1, hlt, hr⟩ := boxed2 w 48 d.cells
  have hx : w.alloc (.cells (decA d) 48) = x.w := hx
  have c0 := Wd.at0 hlt hr 0 rfl
  have c1 := Wd.at0 hlt hr 1 rfl
  have c8 := Wd.at0 hlt hr 8 rfl
  have c9 := Wd.at0 hlt hr 9 rfl
  have c10 := Wd.at0 hlt hr 10 rfl
  have c11 := Wd.at0 hlt hr 11 rfl
  have hL : ∀ y : Wd w1, (Instr.loadAt 48 (.pointer (some ⟨w.heap.size, 0, none⟩))).run Tryz.prog y.w = .ok (.agg (decA d)) y.w := Wd.load hlt hr Tryz.underlying48 rfl (by kernel_rfl)
  have hS' : ∀ y : Wd w1, DecIn y.w d := fun y => hI.q (Q.trans hq1 y.q)
  have hS : ∀ y : Wd w1, Strs y.w d.toA d.to := fun y => (hS' y).to
  have hlen : d.to.length ≤ 9223372036854775807 := hI.toLen
  clear hlt hr
  rcases ways5 (withinB d.server 0 19) (withinB d.number 0 1073741824) (withinB d.start 0 1099511627776) (withinB d.stop 0 1099511627776) (decide (d.start < d.stop)) with g1 | ⟨g1, g2⟩ | ⟨g1, g2, g3⟩ | ⟨g1, g2, g3, g4⟩ | ⟨g1, g2, g3, g4, g5⟩ | ⟨g1, g2, g3, g4, g5⟩
  all_goals
    go_enter Tryz.func48, Tryz.ntmps48
    go_wp2_with (first | (refine wpList_load_run 48 (.tmp 1) (.pointer (some ⟨w.heap.size, 0, none⟩)) (.agg (decA d)) ?_ ?_ ?_ ?_ ?_; rfl; rfl; rfl; exact hL _) | (go_at_call 93; refine (iwithin_at _ _ _ _ _ rfl).mono ?_; rintro e w' ⟨rfl, rfl⟩) | (go_at_call 95; refine (isServer_any _ _).mono ?_; rintro e w' ⟨rfl, rfl⟩) | (go_at_call 96; refine (isTime_any _ _).mono ?_; rintro e w' ⟨rfl, rfl⟩) | (go_at_call 97; refine (rightSig_any _ _ _).mono ?_; rintro e w' ⟨rfl, hq2⟩; obtain ⟨y, rfl⟩ := Wd.next _ hq2; clear hq2) | (go_at_call 98; refine (terms_any _ _ (hS' _)).mono ?_; rintro e w' ⟨rfl, hq2⟩; obtain ⟨y, rfl⟩ := Wd.next _ hq2; clear hq2))
  all_goals
    go_ret
    refine ⟨?_, Q.trans hq1 (Wd.q _)⟩
    simp_all [decRight]
  all_goals (intros; omega)
end Go.Proofs.YtflgkplneekpfaaGreatDoor.Item

namespace Go.Proofs.YtflgkplneekpfaaGreatDoor.Item
open Go.RowKit Grp Mem _root_.Go.Proofs.YtflgkplneekpfaaGreatDoor.Code Sha Sign

set_option maxRecDepth 100000 in
set_option maxHeartbeats 4000000 in
theorem bclaim_any (B g : Nat) (L : List UInt8) (i : ItemR) (w : World) (hb : Bld B g w L) (hL : L.length ≤ 1000000) (h_actor : i.claim.actor.size ≤ 1000000) (h_prev : i.claim.prev.size ≤ 1000000) (hn : ∀ n ∈ [i.claim.base, i.claim.gen, i.claim.home, i.claim.pub, i.claim.time], n ≤ 9223372036854775807) :
    Calls Tryz.prog 130 #[.pointer (some ⟨g, 0, none⟩), .agg (itA i)] w fun e w' => e = .returned (.tuple #[]) ∧ (Bld B g w' (L ++ claimL i.claim) ∧ Tk B g w w') := by
  obtain ⟨w1, x, hx, hq1, hl, hr⟩ := boxed w 50 i.cells
  have hx : w.alloc (.cells (itA i) 50) = x.w := hx
  have hAc := item_claim hl hr
  have hg := hb.stay
  have hbx := Lib.hid ((hb.q hq1).q x.q)
  have hqx := Lib.hid (Q.trans hq1 x.q)
  have hsx : w.heap.size < x.w.heap.size := Nat.lt_of_lt_of_le hl x.q.size
  clear hr hb
  go_enter Tryz.func130, Tryz.ntmps130
  go_wp2_with (first | (refine wpList_load_run 37 (.tmp 5) (.pointer (some ⟨w.heap.size, 21, none⟩)) (.agg (claimA i.claim)) ?_ ?_ ?_ ?_ ?_; rfl; rfl; rfl; exact hAc _) | (refine wpList_store_blk (Blk.new x.w 37 claim0.cells.toArray) rfl 37 (.tmp 4) (.tmp 6) i.claim.cells rfl rfl rfl (by kernel_rfl) (claim_all _) (Nat.le_refl 9) ?_))
  intro W hW hbel
  rw [splice_all _ _ (by rfl)] at hW
  have hqW : Q w W := hbel _ _ (by omega) (Below.alloc hqx.out (by omega) _)
  have hbW : Bld B g W L := hbx.out.q (hbel _ _ (Nat.le_refl _) (q_new _ _ _))
  have hst : Stay B g W x.w.heap.size := Stay.blk hW (by omega) (by decide)
  have c0 := Kd.cell (v := .string i.claim.actor) hW hst 0 rfl
  have c1 := Kd.cell (v := .int .i64 i.claim.base) hW hst 1 rfl
  have c2 := Kd.cell (v := .string i.claim.prev) hW hst 2 rfl
  have c3 := Kd.cell (v := .int .i64 i.claim.gen) hW hst 3 rfl
  have c4 := Kd.cell (v := .int .i64 i.claim.home) hW hst 4 rfl
  have c5 := Kd.cell (v := .int .i64 i.claim.pub) hW hst 5 rfl
  have c6 := Kd.cell (v := .int .i64 i.claim.time) hW hst 6 rfl
  obtain ⟨y, hy⟩ := Kd.first B g W
  have hby : Bld B g y.w L := hy ▸ hbW
  rw [hy]
  have HW := Lib.hid hqW
  have HS := Lib.hid hst
  have HWB := Lib.hid hW
  clear hW hbel hAc hst hx hy hqW hbW
  have t_actor := textL_length i.claim.actor
  have t_prev := textL_length i.claim.prev
  have n_base := numL_bd i.claim.base
  have b_base := hn i.claim.base (by simp)
  have n_gen := numL_bd i.claim.gen
  have b_gen := hn i.claim.gen (by simp)
  have n_home := numL_bd i.claim.home
  have b_home := hn i.claim.home (by simp)
  have n_pub := numL_bd i.claim.pub
  have b_pub := hn i.claim.pub (by simp)
  have n_time := numL_bd i.claim.time
  have b_time := hn i.claim.time (by simp)
  clear hn
  go_wp2_with (go_at_call 187; refine (texts_lit hby [i.claim.actor] _ _ 1000000 _ rfl rfl rfl (by simp) (by simpa using h_actor) (by simp only [List.length_append, List.flatMap_cons, List.flatMap_nil, List.length_cons, List.length_nil]; omega)).mono ?_; rintro e w' ⟨rfl, hb1, hk1⟩; obtain ⟨y1, rfl⟩ := Kd.next _ hk1; clear hk1)
  go_wp2_with (go_at_call 77; refine (nums_lit hb1 [i.claim.base] _ _ _ rfl rfl rfl (by simp; omega) (by simp only [List.length_append, List.flatMap_cons, List.flatMap_nil, List.length_cons, List.length_nil]; omega)).mono ?_; rintro e w' ⟨rfl, hb2, hk1⟩; obtain ⟨y2, rfl⟩ := Kd.next _ hk1; clear hk1)
  go_wp2_with (go_at_call 187; refine (texts_lit hb2 [i.claim.prev] _ _ 1000000 _ rfl rfl rfl (by simp) (by simpa using h_prev) (by simp only [List.length_append, List.flatMap_cons, List.flatMap_nil, List.length_cons, List.length_nil]; omega)).mono ?_; rintro e w' ⟨rfl, hb3, hk1⟩; obtain ⟨y3, rfl⟩ := Kd.next _ hk1; clear hk1)
  go_wp2_with (go_at_call 77; refine (nums_lit hb3 [i.claim.gen, i.claim.home, i.claim.pub, i.claim.time] _ _ _ rfl rfl rfl (by simp; omega) (by simp only [List.length_append, List.flatMap_cons, List.flatMap_nil, List.length_cons, List.length_nil]; omega)).mono ?_; rintro e w' ⟨rfl, hb4, hk1⟩; obtain ⟨y4, rfl⟩ := Kd.next _ hk1; clear hk1)
  go_end0
  refine ⟨rfl, ?_, (Tk.of_q HW.out).trans y4.q⟩
  have e : (((L ++ [i.claim.actor].flatMap textL) ++ [i.claim.base].flatMap numL) ++ [i.claim.prev].flatMap textL) ++ [i.claim.gen, i.claim.home, i.claim.pub, i.claim.time].flatMap numL = L ++ claimL i.claim := by
    simp only [claimL, List.flatMap_cons, List.flatMap_nil, List.append_nil, List.append_assoc]
  rw [← e]
  exact hb4

set_option maxRecDepth 100000 in
set_option maxHeartbeats 4000000 in
theorem bballot_any (B g : Nat) (L : List UInt8) (i : ItemR) (w : World) (hb : Bld B g w L) (hL : L.length ≤ 1000000) (h_actor : i.ballot.actor.size ≤ 1000000) (h_claim : i.ballot.claim.size ≤ 1000000) (hn : ∀ n ∈ [i.ballot.server, i.ballot.gen, i.ballot.time], n ≤ 9223372036854775807) :
    Calls Tryz.prog 131 #[.pointer (some ⟨g, 0, none⟩), .agg (itA i)] w fun e w' => e = .returned (.tuple #[]) ∧ (Bld B g w' (L ++ ballotL i.ballot) ∧ Tk B g w w') := by
  obtain ⟨w1, x, hx, hq1, hl, hr⟩ := boxed w 50 i.cells
  have hx : w.alloc (.cells (itA i) 50) = x.w := hx
  have hAc := item_ballot hl hr
  have hg := hb.stay
  have hbx := Lib.hid ((hb.q hq1).q x.q)
  have hqx := Lib.hid (Q.trans hq1 x.q)
  have hsx : w.heap.size < x.w.heap.size := Nat.lt_of_lt_of_le hl x.q.size
  clear hr hb
  go_enter Tryz.func131, Tryz.ntmps131
  go_wp2_with (first | (refine wpList_load_run 46 (.tmp 5) (.pointer (some ⟨w.heap.size, 30, none⟩)) (.agg (ballotA i.ballot)) ?_ ?_ ?_ ?_ ?_; rfl; rfl; rfl; exact hAc _) | (refine wpList_store_blk (Blk.new x.w 46 ballot0.cells.toArray) rfl 46 (.tmp 4) (.tmp 6) i.ballot.cells rfl rfl rfl (by kernel_rfl) (ballot_all _) (Nat.le_refl 7) ?_))
  intro W hW hbel
  rw [splice_all _ _ (by rfl)] at hW
  have hqW : Q w W := hbel _ _ (by omega) (Below.alloc hqx.out (by omega) _)
  have hbW : Bld B g W L := hbx.out.q (hbel _ _ (Nat.le_refl _) (q_new _ _ _))
  have hst : Stay B g W x.w.heap.size := Stay.blk hW (by omega) (by decide)
  have c0 := Kd.cell (v := .int .i64 i.ballot.server) hW hst 0 rfl
  have c1 := Kd.cell (v := .string i.ballot.actor) hW hst 1 rfl
  have c2 := Kd.cell (v := .int .i64 i.ballot.gen) hW hst 2 rfl
  have c3 := Kd.cell (v := .string i.ballot.claim) hW hst 3 rfl
  have c4 := Kd.cell (v := .int .i64 i.ballot.time) hW hst 4 rfl
  obtain ⟨y, hy⟩ := Kd.first B g W
  have hby : Bld B g y.w L := hy ▸ hbW
  rw [hy]
  have HW := Lib.hid hqW
  have HS := Lib.hid hst
  have HWB := Lib.hid hW
  clear hW hbel hAc hst hx hy hqW hbW
  have t_actor := textL_length i.ballot.actor
  have t_claim := textL_length i.ballot.claim
  have n_server := numL_bd i.ballot.server
  have b_server := hn i.ballot.server (by simp)
  have n_gen := numL_bd i.ballot.gen
  have b_gen := hn i.ballot.gen (by simp)
  have n_time := numL_bd i.ballot.time
  have b_time := hn i.ballot.time (by simp)
  clear hn
  go_wp2_with (go_at_call 77; refine (nums_lit hby [i.ballot.server] _ _ _ rfl rfl rfl (by simp; omega) (by simp only [List.length_append, List.flatMap_cons, List.flatMap_nil, List.length_cons, List.length_nil]; omega)).mono ?_; rintro e w' ⟨rfl, hb1, hk1⟩; obtain ⟨y1, rfl⟩ := Kd.next _ hk1; clear hk1)
  go_wp2_with (go_at_call 187; refine (texts_lit hb1 [i.ballot.actor] _ _ 1000000 _ rfl rfl rfl (by simp) (by simpa using h_actor) (by simp only [List.length_append, List.flatMap_cons, List.flatMap_nil, List.length_cons, List.length_nil]; omega)).mono ?_; rintro e w' ⟨rfl, hb2, hk1⟩; obtain ⟨y2, rfl⟩ := Kd.next _ hk1; clear hk1)
  go_wp2_with (go_at_call 77; refine (nums_lit hb2 [i.ballot.gen] _ _ _ rfl rfl rfl (by simp; omega) (by simp only [List.length_append, List.flatMap_cons, List.flatMap_nil, List.length_cons, List.length_nil]; omega)).mono ?_; rintro e w' ⟨rfl, hb3, hk1⟩; obtain ⟨y3, rfl⟩ := Kd.next _ hk1; clear hk1)
  go_wp2_with (go_at_call 187; refine (texts_lit hb3 [i.ballot.claim] _ _ 1000000 _ rfl rfl rfl (by simp) (by simpa using h_claim) (by simp only [List.length_append, List.flatMap_cons, List.flatMap_nil, List.length_cons, List.length_nil]; omega)).mono ?_; rintro e w' ⟨rfl, hb4, hk1⟩; obtain ⟨y4, rfl⟩ := Kd.next _ hk1; clear hk1)
  go_wp2_with (go_at_call 77; refine (nums_lit hb4 [i.ballot.time] _ _ _ rfl rfl rfl (by simp; omega) (by simp only [List.length_append, List.flatMap_cons, List.flatMap_nil, List.length_cons, List.length_nil]; omega)).mono ?_; rintro e w' ⟨rfl, hb5, hk1⟩; obtain ⟨y5, rfl⟩ := Kd.next _ hk1; clear hk1)
  go_end0
  refine ⟨rfl, ?_, (Tk.of_q HW.out).trans y5.q⟩
  have e : ((((L ++ [i.ballot.server].flatMap numL) ++ [i.ballot.actor].flatMap textL) ++ [i.ballot.gen].flatMap numL) ++ [i.ballot.claim].flatMap textL) ++ [i.ballot.time].flatMap numL = L ++ ballotL i.ballot := by
    simp only [ballotL, List.flatMap_cons, List.flatMap_nil, List.append_nil, List.append_assoc]
  rw [← e]
  exact hb5

set_option maxRecDepth 100000 in
set_option maxHeartbeats 4000000 in
theorem bdec_any (B g : Nat) (L : List UInt8) (i : ItemR) (w : World) (w0 : World) (hBw : B = w0.heap.size) (hq0 : Q w0 w) (hD : DecIn w0 i.dec) (hlo : (listL i.dec.to).length ≤ 100000000) (hlt : i.dec.to.length ≤ 1000000) (hb : Bld B g w L) (hL : L.length ≤ 1000000) (h_actor : i.dec.actor.size ≤ 1000000) (h_object : i.dec.object.size ≤ 1000000) (h_text : i.dec.text.size ≤ 1000000) (hn : ∀ n ∈ [i.dec.server, i.dec.number, i.dec.kind, i.dec.n, i.dec.start, i.dec.stop], n ≤ 9223372036854775807) :
    Calls Tryz.prog 132 #[.pointer (some ⟨g, 0, none⟩), .agg (itA i)] w fun e w' => e = .returned (.tuple #[]) ∧ (Bld B g w' (L ++ decL i.dec) ∧ Tk B g w w') := by
  obtain ⟨w1, x, hx, hq1, hl, hr⟩ := boxed w 50 i.cells
  have hx : w.alloc (.cells (itA i) 50) = x.w := hx
  have hAc := item_dec hl hr
  have hg := hb.stay
  have hbx := Lib.hid ((hb.q hq1).q x.q)
  have hqx := Lib.hid (Q.trans hq1 x.q)
  have hsx : w.heap.size < x.w.heap.size := Nat.lt_of_lt_of_le hl x.q.size
  clear hr hb
  go_enter Tryz.func132, Tryz.ntmps132
  go_wp2_with (first | (refine wpList_load_run 48 (.tmp 5) (.pointer (some ⟨w.heap.size, 37, none⟩)) (.agg (decA i.dec)) ?_ ?_ ?_ ?_ ?_; rfl; rfl; rfl; exact hAc _) | (refine wpList_store_blk (Blk.new x.w 48 dec0.cells.toArray) rfl 48 (.tmp 4) (.tmp 6) i.dec.cells rfl rfl rfl (by kernel_rfl) (dec_all _) (Nat.le_refl 12) ?_))
  intro W hW hbel
  rw [splice_all _ _ (by rfl)] at hW
  have hqW : Q w W := hbel _ _ (by omega) (Below.alloc hqx.out (by omega) _)
  have hbW : Bld B g W L := hbx.out.q (hbel _ _ (Nat.le_refl _) (q_new _ _ _))
  have hst : Stay B g W x.w.heap.size := Stay.blk hW (by omega) (by decide)
  have c0 := Kd.cell (v := .int .i64 i.dec.server) hW hst 0 rfl
  have c1 := Kd.cell (v := .int .i64 i.dec.number) hW hst 1 rfl
  have c2 := Kd.cell (v := .int .i64 i.dec.kind) hW hst 2 rfl
  have c3 := Kd.cell (v := .string i.dec.actor) hW hst 3 rfl
  have c4 := Kd.cell (v := .string i.dec.object) hW hst 4 rfl
  have c5 := Kd.cell (v := .string i.dec.text) hW hst 5 rfl
  have c6 := Kd.cell (v := .slice i.dec.toA i.dec.to.length i.dec.toC) hW hst 6 rfl
  have c7 := Kd.cell (v := .int .i64 i.dec.n) hW hst 7 rfl
  have c8 := Kd.cell (v := .int .i64 i.dec.start) hW hst 8 rfl
  have c9 := Kd.cell (v := .int .i64 i.dec.stop) hW hst 9 rfl
  obtain ⟨y, hy⟩ := Kd.first B g W
  have hby : Bld B g y.w L := hy ▸ hbW
  rw [hy]
  have HW := Lib.hid hqW
  have HS := Lib.hid hst
  have HWB := Lib.hid hW
  clear hW hbel hAc hst hx hy hqW hbW
  have t_actor := textL_length i.dec.actor
  have t_object := textL_length i.dec.object
  have t_text := textL_length i.dec.text
  have n_server := numL_bd i.dec.server
  have b_server := hn i.dec.server (by simp)
  have n_number := numL_bd i.dec.number
  have b_number := hn i.dec.number (by simp)
  have n_kind := numL_bd i.dec.kind
  have b_kind := hn i.dec.kind (by simp)
  have n_n := numL_bd i.dec.n
  have b_n := hn i.dec.n (by simp)
  have n_start := numL_bd i.dec.start
  have b_start := hn i.dec.start (by simp)
  have n_stop := numL_bd i.dec.stop
  have b_stop := hn i.dec.stop (by simp)
  clear hn
  go_wp2_with (go_at_call 77; refine (nums_lit hby [i.dec.server, i.dec.number, i.dec.kind] _ _ _ rfl rfl rfl (by simp; omega) (by simp only [List.length_append, List.flatMap_cons, List.flatMap_nil, List.length_cons, List.length_nil]; omega)).mono ?_; rintro e w' ⟨rfl, hb1, hk1⟩; obtain ⟨y1, rfl⟩ := Kd.next _ hk1; clear hk1)
  go_wp2_with (go_at_call 187; refine (texts_lit hb1 [i.dec.actor, i.dec.object, i.dec.text] _ _ 1000000 _ rfl rfl rfl (by simp) (by simpa using ⟨h_actor, h_object, h_text⟩) (by simp only [List.length_append, List.flatMap_cons, List.flatMap_nil, List.length_cons, List.length_nil]; omega)).mono ?_; rintro e w' ⟨rfl, hb2, hk1⟩; obtain ⟨y2, rfl⟩ := Kd.next _ hk1; clear hk1)
  go_wp2_with fail
  obtain ⟨hB, v, hgv, hown⟩ := hb2
  have hqy : Q w0 y2.w := Tk.q y2.q hBw (Q.trans hq0 HW.out)
  have hS : ∀ z : Wd y2.w, Strs z.w i.dec.toA i.dec.to := fun z => hD.to.q (Q.trans hqy z.q)
  have cg : ∀ z : Wd y2.w, z.w.cell? ⟨g, 0, none⟩ = some v := fun z => (z.q.cell (p := ⟨g, 0, none⟩) hgv.lt).trans (hgv.cell 0)
  have cs : ∀ z : Wd y2.w, z.w.cell? ⟨x.w.heap.size, 6, none⟩ = some (.slice i.dec.toA i.dec.to.length i.dec.toC) := fun z => (z.q.cell (p := ⟨x.w.heap.size, 6, none⟩) (Nat.lt_of_lt_of_le HS.out.lt y2.q.size)).trans (c6 y2)
  have hll := listB_size i.dec.to
  obtain ⟨i0, hi, hz0, hz1, hz2⟩ := info_parts Code.byte_info
  have hHll := Lib.hid hll
  clear hll
  have htc := hD.toC
  have HBw := Lib.hid hBw
  clear hBw
  refine wp_region_wd_parts (⟨_, Q.refl _⟩ : Wd y2.w) 1 8 (by kernel_rfl) (by kernel_rfl) (by intro c d v a w h; cases d <;> exact h) ?_
  simp only [List.take_succ_cons, List.take_zero, List.drop_succ_cons, List.drop_zero]
  refine wpPure_move _ _ rfl rfl rfl (wpPure_nil ?_)
  simp only [Act.put, List.setIfInBounds_toArray, List.set_cons_succ, List.set_cons_zero]
  repeat (go_big_quiet_step (exact Wd.call _ (List_any _ _ _ _ (hS _) (by omega) (by omega))))
  refine wpQuiet_nil ?_
  rintro w'' ⟨z, rfl⟩
  have hown' := hown.q z.q
  have hg' := hgv.q z.q
  generalize hY : ((L ++ [i.dec.server, i.dec.number, i.dec.kind].flatMap numL) ++ [i.dec.actor, i.dec.object, i.dec.text].flatMap textL) = Y at *
  have hYl : Y.length ≤ 5000000 := by
    rw [← hY]
    simp only [List.length_append, List.flatMap_cons, List.flatMap_nil, List.length_cons, List.length_nil]
    omega
  have HYY := Lib.hid hY
  clear hY
  have hlB : (listB i.dec.to).size ≤ 100000000 := by rw [hHll.out]; exact hlo
  go_wp2_with (at_builtin; refine wpList_append_owns_string _ rfl (.tmp 29) (.tmp 32) 121 9 rfl B 5 i0 Tryz.underlying121 Tryz.underlying9 hi hz0 hz1 hz2 v Y.length (cellsOf Y) rfl hown' (listB i.dec.to) rfl ?_ ?_ ?_ ?_)
  · simp only [maxLen]; omega
  · omega
  · have := hg'.lt; omega
  intro v2 w2 hown2 hgr
  rw [strCells_eq, hHll.out, listB_list, ← cellsOf_append, ← List.length_append] at hown2
  have hg2 := Bld.at2 hg' hown' hgr
  have z0 : w2.cell? ⟨g, 0, none⟩ = some v := hg2.cell 0
  have z1 := hg2.frozen 0
  obtain ⟨hb2, hk2⟩ := Bld.step (L' := Y ++ listL i.dec.to) hB hg' hown' hown2 hgr
  obtain ⟨A2, cap2, rfl, -, -⟩ := hown2.shape
  rw [List.length_append] at hb2 hk2
  obtain ⟨y3, hy3⟩ := Kd.next y2 ((Tk.of_q z.q).trans hk2)
  have hb3 := hb2
  have HY3 := Lib.hid hy3
  have d7 : (w2.setCell ⟨g, 0, none⟩ (.slice A2 (Y.length + (listL i.dec.to).length) cap2)).cell? ⟨x.w.heap.size, 7, none⟩ = some (.int .i64 i.dec.n) := hy3 ▸ c7 y3
  have d8 : (w2.setCell ⟨g, 0, none⟩ (.slice A2 (Y.length + (listL i.dec.to).length) cap2)).cell? ⟨x.w.heap.size, 8, none⟩ = some (.int .i64 i.dec.start) := hy3 ▸ c8 y3
  have d9 : (w2.setCell ⟨g, 0, none⟩ (.slice A2 (Y.length + (listL i.dec.to).length) cap2)).cell? ⟨x.w.heap.size, 9, none⟩ = some (.int .i64 i.dec.stop) := hy3 ▸ c9 y3
  clear hb2 hown2 hown' hown hg2 cg cs hk2 hy3 hgr hS
  go_wp2_with (go_at_call 77; refine (nums_lit hb3 [i.dec.n, i.dec.start, i.dec.stop] _ _ _ (by simp) rfl rfl (by simp; omega) (by simp only [List.length_append, List.flatMap_cons, List.flatMap_nil, List.length_cons, List.length_nil]; omega)).mono ?_; rintro e w' ⟨rfl, hb4, hk1⟩; obtain ⟨y4, rfl⟩ := Kd.next y3 (HY3.out ▸ hk1); clear hk1)
  go_end0
  refine ⟨rfl, ?_, (Tk.of_q HW.out).trans y4.q⟩
  have e : ((((L ++ [i.dec.server, i.dec.number, i.dec.kind].flatMap numL) ++ [i.dec.actor, i.dec.object, i.dec.text].flatMap textL) ++ listL i.dec.to) ++ [i.dec.n, i.dec.start, i.dec.stop].flatMap numL) = L ++ decL i.dec := by
    simp only [decL, List.flatMap_cons, List.flatMap_nil, List.append_nil, List.append_assoc]
  rw [← e, HYY.out]
  exact hb4

end Go.Proofs.YtflgkplneekpfaaGreatDoor.Item

namespace Go.Proofs.YtflgkplneekpfaaGreatDoor.Item
open Go.RowKit Grp Mem _root_.Go.Proofs.YtflgkplneekpfaaGreatDoor.Code Sha Sign

def coreF (i : ItemR) : Nat := if i.kind = 1 then 130 else if i.kind = 2 then 131 else 132
def formA (i : ItemR) : List Value := [.string (nameT i), .func (.func (coreF i)) #[] #[], .int .i64 (sigV i).1, .int .i64 (sigV i).2]
theorem formA1 {i : ItemR} (h : i.kind = 1) : formA i = [.string claimT, .func (.func 130) #[] #[], .int .i64 i.claim.e, .int .i64 i.claim.s] := by
  unfold formA nameT coreF sigV
  rw [if_pos h, if_pos h, if_pos h]
theorem formA2 {i : ItemR} (h : i.kind = 2) : formA i = [.string ballotT, .func (.func 131) #[] #[], .int .i64 i.ballot.e, .int .i64 i.ballot.s] := by
  have h1 : ¬ i.kind = 1 := by omega
  unfold formA nameT coreF sigV
  rw [if_neg h1, if_neg h1, if_neg h1, if_pos h, if_pos h, if_pos h]
theorem formA3 {i : ItemR} (h1 : ¬ i.kind = 1) (h : ¬ i.kind = 2) : formA i = [.string decisionT, .func (.func 132) #[] #[], .int .i64 i.dec.e, .int .i64 i.dec.s] := by
  unfold formA nameT coreF sigV
  rw [if_neg h1, if_neg h1, if_neg h1, if_neg h, if_neg h, if_neg h]
def form0 : List Value := [.string emptyT, .nilFunc, .int .i64 0, .int .i64 0]
theorem cell_of {w1 : World} {g : Nat} {cs : List Value} (hl : g < w1.heap.size) (hr : w1.rangeAt g 0 cs) (j : Nat) (v : Value) (hv : cs[j]? = some v) : ∀ y : Wd w1, y.w.cell? ⟨g, j, none⟩ = some v := Wd.at0 hl hr j hv

set_option maxRecDepth 100000 in
set_option maxHeartbeats 2000000 in
theorem formOf_any (i : ItemR) (w : World) : Calls Tryz.prog 79 #[.agg (itA i)] w fun e w' => e = .returned (.agg (formA i).toArray) ∧ Q w w' := by
  obtain ⟨w1, x, hx, hq1, hl, hr⟩ := boxed w 50 i.cells
  have hx : w.alloc (.cells (itA i) 50) = x.w := hx
  have c0 := cell_of hl hr 0 (.int .i64 i.kind) rfl
  have c28 := cell_of hl hr 28 (.int .i64 i.claim.e) rfl
  have c29 := cell_of hl hr 29 (.int .i64 i.claim.s) rfl
  have c35 := cell_of hl hr 35 (.int .i64 i.ballot.e) rfl
  have c36 := cell_of hl hr 36 (.int .i64 i.ballot.s) rfl
  have c47 := cell_of hl hr 47 (.int .i64 i.dec.e) rfl
  have c48 := cell_of hl hr 48 (.int .i64 i.dec.s) rfl
  have hsx : w.heap.size < x.w.heap.size := Nat.lt_of_lt_of_le hl x.q.size
  have hqx := Lib.hid (Q.trans hq1 x.q)
  clear hr
  by_cases h1 : i.kind = 1
  · have HF := Lib.hid (formA1 h1)
    go_enter Tryz.func79, Tryz.ntmps79
    go_wp2_with fail
    exact bodyPost_ret (results_cell_row rfl _ _ x.w.heap.size 128 _ (0, 0) _ rfl (Blk.new x.w _ _) Tryz.underlying128 rfl (by kernel_rfl)) rfl ⟨by rw [HF.out]; rfl, Q.trans hqx.out (q_new _ _ _)⟩
  · by_cases h2 : i.kind = 2
    · have HF := Lib.hid (formA2 h2)
      go_enter Tryz.func79, Tryz.ntmps79
      go_wp2_with fail
      exact bodyPost_ret (results_cell_row rfl _ _ x.w.heap.size 128 _ (0, 0) _ rfl (Blk.new x.w _ _) Tryz.underlying128 rfl (by kernel_rfl)) rfl ⟨by rw [HF.out]; rfl, Q.trans hqx.out (q_new _ _ _)⟩
    · have HF := Lib.hid (formA3 h1 h2)
      go_enter Tryz.func79, Tryz.ntmps79
      go_wp2_with fail
      exact bodyPost_ret (results_cell_row rfl _ _ x.w.heap.size 128 _ (0, 0) _ rfl (Blk.new x.w _ _) Tryz.underlying128 rfl (by kernel_rfl)) rfl ⟨by rw [HF.out]; rfl, Q.trans hqx.out (q_new _ _ _)⟩

/-- The sizes that the builder wants: what a right claim, ballot or decision has; and one that is not signed yet. -/
structure SmallI (i : ItemR) : Prop where
  claim : i.kind = 1 → i.claim.actor.size ≤ 1000000 ∧ i.claim.prev.size ≤ 1000000 ∧ ∀ n ∈ [i.claim.base, i.claim.gen, i.claim.home, i.claim.pub, i.claim.time], n ≤ 9223372036854775807
  ballot : i.kind = 2 → i.ballot.actor.size ≤ 1000000 ∧ i.ballot.claim.size ≤ 1000000 ∧ ∀ n ∈ [i.ballot.server, i.ballot.gen, i.ballot.time], n ≤ 9223372036854775807
  dec : ¬ i.kind = 1 → ¬ i.kind = 2 → i.dec.actor.size ≤ 1000000 ∧ i.dec.object.size ≤ 1000000 ∧ i.dec.text.size ≤ 1000000 ∧ (∀ n ∈ [i.dec.server, i.dec.number, i.dec.kind, i.dec.n, i.dec.start, i.dec.stop], n ≤ 9223372036854775807) ∧ (listL i.dec.to).length ≤ 100000000 ∧ i.dec.to.length ≤ 1000000
theorem core_enter (i : ItemR) (args : Array Value) (w : World) : (callFunc (coreF i) args).run Tryz.prog w = .ok (.enter (coreF i) args) w := by
  unfold coreF
  split
  · exact enter_run (fn := Tryz.f130) Tryz.func130 (by kernel_rfl) rfl args w
  · split
    · exact enter_run (fn := Tryz.f131) Tryz.func131 (by kernel_rfl) rfl args w
    · exact enter_run (fn := Tryz.f132) Tryz.func132 (by kernel_rfl) rfl args w
/-- The method that a form holds. -/
theorem bcore_any (B g : Nat) (L : List UInt8) (i : ItemR) (w w0 : World) (hBw : B = w0.heap.size) (hq0 : Q w0 w) (hD : DecIn w0 i.dec) (hs : SmallI i) (hb : Bld B g w L) (hL : L.length ≤ 1000000) :
    Calls Tryz.prog (coreF i) #[.pointer (some ⟨g, 0, none⟩), .agg (itA i)] w fun e w' => e = .returned (.tuple #[]) ∧ (Bld B g w' (L ++ itemL i) ∧ Tk B g w w') := by
  unfold coreF itemL
  by_cases h1 : i.kind = 1
  · rw [if_pos h1, if_pos h1]
    obtain ⟨a, b, c⟩ := hs.claim h1
    exact bclaim_any B g L i w hb hL a b c
  · rw [if_neg h1, if_neg h1]
    by_cases h2 : i.kind = 2
    · rw [if_pos h2, if_pos h2]
      obtain ⟨a, b, c⟩ := hs.ballot h2
      exact bballot_any B g L i w hb hL a b c
    · rw [if_neg h2, if_neg h2]
      obtain ⟨a, b, c, d, e, f⟩ := hs.dec h1 h2
      exact bdec_any B g L i w w0 hBw hq0 hD e f hb hL a b c d
theorem form_all (i : ItemR) : (formA i).toArray.all (·.oneCell') = true := by simp [formA, Value.oneCell']
theorem nameT_size (i : ItemR) : (nameT i).size ≤ 8 := by
  unfold nameT
  split
  · decide
  · split <;> decide

set_option maxRecDepth 100000 in
set_option maxHeartbeats 4000000 in
theorem message_any (i : ItemR) (w : World) (hD : DecIn w i.dec) (hs : SmallI i) : Calls Tryz.prog 114 #[.agg (itA i)] w fun e w' => e = .returned (.string (messageB i)) ∧ Q w w' := by
  obtain ⟨w1, x, hx, hq1, hbk⟩ := boxedB w 50 i.cells
  have hl := hbk.lt
  have hr := Blk.range hbk
  have hx : w.alloc (.cells (itA i) 50) = x.w := hx
  have hIt : ∀ y : Wd w1, (Instr.loadAt 50 (.pointer (some ⟨w.heap.size, 0, none⟩))).run Tryz.prog y.w = .ok (.agg (itA i)) y.w := Wd.load hl hr Tryz.underlying50 rfl (by kernel_rfl)
  have hqx := Lib.hid (Q.trans hq1 x.q)
  have hsx : w.heap.size < x.w.heap.size := Nat.lt_of_lt_of_le hl x.q.size
  have hn := nameT_size i
  have hcr := core_enter i
  go_enter Tryz.func114, Tryz.ntmps114
  go_wp2_with (first | (refine wpList_load_run 50 (.tmp 1) (.pointer (some ⟨w.heap.size, 0, none⟩)) (.agg (itA i)) ?_ ?_ ?_ ?_ ?_; rfl; rfl; rfl; exact hIt _) | (go_at_call 79; refine (formOf_any _ _).mono ?_; rintro e w' ⟨rfl, hq2⟩; obtain ⟨y, rfl⟩ := Wd.next _ hq2; clear hq2) | (refine wpList_store_blk (Blk.new y.w 128 form0.toArray) rfl 128 (.tmp 3) (.tmp 6) (formA i) rfl rfl rfl (by kernel_rfl) (form_all i) (Nat.le_refl 4) ?_))
  intro W hW hbel
  rw [splice_all _ _ (by rfl)] at hW
  have hyx : w.heap.size < y.w.heap.size := Nat.lt_of_lt_of_le hl y.q.size
  have hqW1 : Q w1 W := hbel _ _ y.q.size (Q.trans y.q (q_new _ _ _))
  have hqW : Q w W := Q.trans hq1 hqW1
  have hnew := Bld.new W (B := w.heap.size) hqW.size
  have hq2 := q_new W #[.slice none 0 0] 123
  have hne : y.w.heap.size < W.heap.size := hW.lt
  have hst : Stay w.heap.size W.heap.size (W.alloc (.cells #[.slice none 0 0] 123)) y.w.heap.size := Stay.blk (hW.q hq2) (by omega) (by decide)
  have hsi : Stay w.heap.size W.heap.size (W.alloc (.cells #[.slice none 0 0] 123)) w.heap.size := Stay.blk ((hbk.q hqW1).q hq2) (by omega) (by decide)
  have f0 := Kd.cell (v := .string (nameT i)) (hW.q hq2) hst 0 rfl
  have f1 := Kd.cell (v := .func (.func (coreF i)) #[] #[]) (hW.q hq2) hst 1 rfl
  have hIt2 := Kd.load (P := Tryz.prog) (ty := 50) hsi (range_q hr (Q.trans hqW1 hq2) hl) Tryz.underlying50 rfl (by kernel_rfl)
  have hqq := Lib.hid (Q.trans hqW hq2)
  clear hst hsi hIt hr hbk hqW1 hq1 hx
  generalize hW2 : W.alloc (.cells #[.slice none 0 0] 123) = W2 at *
  obtain ⟨y2, hy2⟩ := Kd.first w.heap.size W.heap.size W2
  have hb2 : Bld w.heap.size W.heap.size y2.w [] := hy2 ▸ hnew
  rw [hy2] at hW2
  clear hy2 hW hbel hnew hq2
  go_wp2_with (first | (go_at_call 187; refine (texts_lit hb2 [nameT i] _ _ 1000000 _ rfl rfl rfl (by simp) (by simp; omega) (by simp)).mono ?_; rintro e w' ⟨rfl, hb3, hk1⟩; obtain ⟨y3, rfl⟩ := Kd.next _ hk1; clear hk1) | (refine wpList_load_run 50 (.tmp 1) (.pointer (some ⟨w.heap.size, 0, none⟩)) (.agg (itA i)) ?_ ?_ ?_ ?_ ?_; rfl; rfl; rfl; exact hIt2 _))
  refine (bcore_any _ _ _ i _ w rfl (Tk.q y3.q rfl hqq.out) hD hs hb3 (by have := textL_length (nameT i); simp; omega)).mono ?_
  rintro e w' ⟨rfl, hb4, hk2⟩
  obtain ⟨y4, rfl⟩ := Kd.next _ hk2
  clear hk2
  obtain ⟨-, v, hgv, hown⟩ := hb4
  have cv : y4.w.cell? ⟨W.heap.size, 0, none⟩ = some v := hgv.cell 0
  have hcv := run_string_of_owns (P := Tryz.prog) y4.w w.heap.size 121 9 5 _ _ Tryz.underlying121 Tryz.underlying5 Tryz.underlying9 hown
  have HQ := Lib.hid (Tk.q y4.q rfl hqq.out)
  clear hown hgv hb3 hb2
  go_wp2
  go_ret
  exact ⟨rfl, HQ.out⟩

theorem formField (i : ItemR) (w : World) : (Instr.field 128 (.agg (formA i).toArray) 2).run Tryz.prog w = .ok (keyV (sigV i)) w := by
  have h1 := Tryz.underlying128
  have u3 := Tryz.underlying35
  have a3 := Tryz.isAgg35
  have z3 := Tryz.sizeOf35
  unfold Instr.field formA keyV
  go_simp
  rfl
theorem itemL_le (i : ItemR) (hs : SmallI i) : (itemL i).length ≤ 110000000 := by
  unfold itemL
  split
  · rename_i h
    obtain ⟨h1, h2, -⟩ := hs.claim h
    unfold claimL
    simp only [List.length_append]
    have t1 := textL_length i.claim.actor
    have t2 := textL_length i.claim.prev
    have n1 := numL_bd i.claim.base
    have n2 := numL_bd i.claim.gen
    have n3 := numL_bd i.claim.home
    have n4 := numL_bd i.claim.pub
    have n5 := numL_bd i.claim.time
    omega
  · rename_i h
    split
    · rename_i h'
      obtain ⟨h1, h2, -⟩ := hs.ballot h'
      unfold ballotL
      simp only [List.length_append]
      have t1 := textL_length i.ballot.actor
      have t2 := textL_length i.ballot.claim
      have n1 := numL_bd i.ballot.server
      have n2 := numL_bd i.ballot.gen
      have n3 := numL_bd i.ballot.time
      omega
    · rename_i h'
      obtain ⟨h1, h2, h3, -, h4, -⟩ := hs.dec h h'
      unfold decL
      simp only [List.length_append]
      have t1 := textL_length i.dec.actor
      have t2 := textL_length i.dec.object
      have t3 := textL_length i.dec.text
      have n1 := numL_bd i.dec.server
      have n2 := numL_bd i.dec.number
      have n3 := numL_bd i.dec.kind
      have n4 := numL_bd i.dec.n
      have n5 := numL_bd i.dec.start
      have n6 := numL_bd i.dec.stop
      omega
theorem message_size (i : ItemR) (hs : SmallI i) : (messageB i).size ≤ 140737488355200 := by
  unfold messageB
  rw [ba_size, List.length_append]
  have h1 := itemL_le i hs
  have h2 := textL_length (nameT i)
  have h3 := nameT_size i
  omega
set_option maxRecDepth 100000 in
set_option maxHeartbeats 4000000 in
theorem signedBy_any (p : Int) (i : ItemR) (w : World) (hT : Tab w) (hI : ItemIn w i) (hs : SmallI i) : Calls Tryz.prog 61 #[.int .i64 p, .agg (itA i)] w fun e w' => e = .returned (.bool (verI p (messageB i) (sigV i))) ∧ Q w w' := by
  obtain ⟨w1, x, hx, hq1, hl, hr⟩ := boxed w 50 i.cells
  have hx : w.alloc (.cells (itA i) 50) = x.w := hx
  have hIt : ∀ y : Wd w1, (Instr.loadAt 50 (.pointer (some ⟨w.heap.size, 0, none⟩))).run Tryz.prog y.w = .ok (.agg (itA i)) y.w := Wd.load hl hr Tryz.underlying50 rfl (by kernel_rfl)
  have hD : ∀ y : Wd w1, DecIn y.w i.dec := fun y => hI.dec.q (Q.trans hq1 y.q)
  have hF := formField i
  have hm : (messageB i).size ≤ 140737488355200 := message_size i hs
  have hT' : ∀ y : Wd w1, Tab y.w := fun y => hT.q (Q.trans hq1 y.q)
  clear hr
  go_enter Tryz.func61, Tryz.ntmps61
  go_wp2_with fail
  refine wp_region_wd x (by kernel_rfl) (by kernel_rfl) ?_
  repeat (first | (refine wpQuiet_load_run 50 (.tmp 3) (.pointer (some ⟨w.heap.size, 0, none⟩)) (.agg (itA i)) ?_ ?_ ?_ ?_ ?_; rfl; rfl; rfl; exact hIt; dsimp only [Act.put]; simp only [List.setIfInBounds_toArray, List.set_cons_succ, List.set_cons_zero]) | go_big_quiet_step (first | (go_at_call 114; exact Wd.call _ (message_any _ _ (hD _) hs)) | (go_at_call 79; exact Wd.call _ (formOf_any _ _)) | (go_at_call 113; exact Wd.call _ (Verify_any _ _ _ _ (hT' _) hm))))
  refine wpQuiet_nil ?_
  rintro w'' ⟨z, rfl⟩
  go_wp2
  go_ret
  exact ⟨rfl, Q.trans hq1 z.q⟩
end Go.Proofs.YtflgkplneekpfaaGreatDoor.Item

namespace Go.Proofs.YtflgkplneekpfaaGreatDoor.Item
open Go.RowKit Grp Mem _root_.Go.Proofs.YtflgkplneekpfaaGreatDoor.Code Sha Sign

theorem small_dec {d : DecR} (h : decRight d = true) : d.actor.size ≤ 1000000 ∧ d.object.size ≤ 1000000 ∧ d.text.size ≤ 1000000 ∧ (∀ n ∈ [d.server, d.number, d.kind, d.n, d.start, d.stop], n ≤ 9223372036854775807) ∧ (listL d.to).length ≤ 100000000 ∧ d.to.length ≤ 1000000 := by
  simp only [decRight, Bool.and_eq_true] at h
  obtain ⟨h1, h2, h3, h4, -, h6, -, -⟩ := h
  have a1 := within_facts h1
  have a2 := within_facts h2
  have a3 := within_facts h3
  have a4 := within_facts h4
  have key : d.actor.size ≤ 16 ∧ d.object.size ≤ 32 ∧ d.text.size ≤ 4096 ∧ (d.kind ≤ 9 ∧ d.n ≤ 64) ∧ d.to.length ≤ 64 ∧ ∀ s ∈ d.to, s.size ≤ 16 := by
    unfold termsB at h6
    split at h6
    · rename_i hk
      simp only [Bool.and_eq_true, plainD, decide_eq_true_eq] at h6
      obtain ⟨b1, b2, b3, b4, b5⟩ := h6
      have c1 := idB_size b1
      have c2 := noneB_size b2
      have c3 := shortB_size b3
      exact ⟨by omega, by omega, by omega, ⟨by omega, by omega⟩, by omega, nil_all b4 _⟩
    · split at h6
      · rename_i hk
        simp only [Bool.and_eq_true, plainD, decide_eq_true_eq] at h6
        obtain ⟨b1, b2, b3, b4, b5⟩ := h6
        have c1 := noneB_size b1
        have c2 : d.object.size = 32 := by simpa [digestB] using b2
        have c3 := shortB_size b3
        exact ⟨by omega, by omega, by omega, ⟨by omega, by omega⟩, by omega, nil_all b4 _⟩
      · split at h6
        · rename_i hk
          simp only [Bool.and_eq_true] at h6
          obtain ⟨b1, b2, b3, b4, b5⟩ := h6
          have c1 := noneB_size b1
          have c2 := noneB_size b2
          have c3 := shortB_size b3
          have c4 := idsB_facts b4
          have c5 := within_facts b5
          exact ⟨by omega, by omega, by omega, ⟨by omega, by omega⟩, by omega, c4.2⟩
        · split at h6
          · rename_i hk
            simp only [Bool.and_eq_true, plainD, decide_eq_true_eq] at h6
            obtain ⟨b1, b2, b3, b4, b5⟩ := h6
            have c1 := noneB_size b1
            have c2 := noneB_size b2
            exact ⟨by omega, by omega, by omega, ⟨by omega, by omega⟩, by omega, nil_all b4 _⟩
          · cases h6
  obtain ⟨b1, b2, b3, ⟨b4, b5⟩, b6, b7⟩ := key
  have hl := listL_le d.to 16 b7
  refine ⟨by omega, by omega, by omega, ?_, by omega, by omega⟩
  simp only [List.mem_cons, List.not_mem_nil, or_false]
  rintro n (rfl | rfl | rfl | rfl | rfl | rfl) <;> omega
theorem small_claim {c : ClaimV} (h : claimRight c = true) : c.actor.size ≤ 1000000 ∧ c.prev.size ≤ 1000000 ∧ ∀ n ∈ [c.base, c.gen, c.home, c.pub, c.time], n ≤ 9223372036854775807 := by
  simp only [claimRight, Bool.and_eq_true] at h
  obtain ⟨h1, h2, h3, h4, h5, h6, h7, -, -⟩ := h
  have a1 := idB_size h1
  have a3 : c.prev.size = 32 := by simpa [digestB] using h3
  have a2 := within_facts h2
  have a4 := within_facts h4
  have a5 := within_facts h5
  have a6 := within_facts h6
  have a7 := within_facts h7
  refine ⟨by omega, by omega, ?_⟩
  simp only [List.mem_cons, List.not_mem_nil, or_false]
  rintro n (rfl | rfl | rfl | rfl | rfl) <;> omega
theorem small_ballot {b : BallotV} (h : ballotRight b = true) : b.actor.size ≤ 1000000 ∧ b.claim.size ≤ 1000000 ∧ ∀ n ∈ [b.server, b.gen, b.time], n ≤ 9223372036854775807 := by
  simp only [ballotRight, Bool.and_eq_true] at h
  obtain ⟨h1, h2, h3, h4, h5, -, -⟩ := h
  have a1 := within_facts h1
  have a2 := idB_size h2
  have a3 := within_facts h3
  have a4 : b.claim.size = 32 := by simpa [digestB] using h4
  have a5 := within_facts h5
  refine ⟨by omega, by omega, ?_⟩
  simp only [List.mem_cons, List.not_mem_nil, or_false]
  rintro n (rfl | rfl | rfl) <;> omega
theorem right_kind {i : ItemR} (h : itemRight i = true) : 0 ≤ i.kind ∧ i.kind ≤ 3 := by
  unfold itemRight at h
  split at h
  · omega
  · split at h
    · omega
    · split at h
      · omega
      · split at h
        · omega
        · cases h
/-- A right item that is no activity. -/
theorem small_right {i : ItemR} (h : itemRight i = true) (hk : ¬ i.kind = 0) : SmallI i := by
  unfold itemRight at h
  rw [if_neg hk] at h
  refine ⟨fun h1 => ?_, fun h2 => ?_, fun h1 h2 => ?_⟩
  · rw [if_pos h1, Bool.and_eq_true] at h
    exact small_claim h.1
  · rw [if_neg (by omega), if_pos h2, Bool.and_eq_true] at h
    exact small_ballot h.1
  · rw [if_neg h1, if_neg h2] at h
    split at h
    · rw [Bool.and_eq_true] at h
      exact small_dec h.1
    · cases h
theorem right_actB {i : ItemR} (h : itemRight i = true) (hk : i.kind = 0) : actRight i.act = true := by
  unfold itemRight at h
  rw [if_pos hk, Bool.and_eq_true] at h
  exact h.1
theorem actBytes_le {a : ActR} (h : actRight a = true) : (actBytes a).size ≤ 70000 := by
  unfold actBytes
  rw [if_pos h, ba_size, List.length_append, List.length_append]
  have h1 := coreL_le a h
  have h2 := numL_le a.e
  have h3 := numL_le a.s
  omega
theorem itemBytes_le (i : ItemR) : (itemBytes i).size ≤ 120000000 := by
  unfold itemBytes
  cases h : itemRight i
  · rw [if_neg Bool.false_ne_true]; decide
  · rw [if_pos rfl, ba_size]
    unfold itemBytesL
    rw [List.length_append]
    have h1 := numL_bd i.kind
    split
    · rename_i hk
      have h2 := actBytes_le (right_actB h hk)
      rw [ba_length]
      omega
    · rename_i hk
      rw [List.length_append, List.length_append]
      have h2 := itemL_le i (small_right h hk)
      have h3 := numL_bd (sigV i).1
      have h4 := numL_bd (sigV i).2
      omega
theorem varint_pos (n : Nat) : 0 < (varint n).length := by
  unfold varint
  generalize (9 : Nat) = f
  cases f with
  | zero => simp [vint]
  | succ f => unfold vint; split <;> simp
theorem itemBytes_empty (i : ItemR) : (itemBytes i).toList.isEmpty = !itemRight i := by
  unfold itemBytes
  cases h : itemRight i
  · rw [if_neg Bool.false_ne_true, ByteArray.toList_eq]; rfl
  · rw [if_pos rfl, ByteArray.toList_eq, ba_list]
    have hk := right_kind h
    have : 0 < (itemBytesL i).length := by
      unfold itemBytesL
      rw [List.length_append]
      have : 0 < (numL i.kind).length := by
        unfold numL numB
        rw [if_neg (by omega), ba_list]
        exact varint_pos _
      omega
    cases hl : itemBytesL i with
    | nil => rw [hl] at this; cases this
    | cons x r => rfl
end Go.Proofs.YtflgkplneekpfaaGreatDoor.Item

namespace Go.Proofs.YtflgkplneekpfaaGreatDoor.Item
open Go.RowKit Grp Mem _root_.Go.Proofs.YtflgkplneekpfaaGreatDoor.Code Sha Sign

theorem item0_in (w : World) : ItemIn w item0 := ⟨⟨fun h => by simp [item0, act0] at h, fun h => by simp [item0, act0] at h, ⟨Nat.le_refl _, Nat.zero_le _⟩, Nat.le_refl _, Nat.zero_le _⟩, ⟨fun h => by simp [item0, dec0] at h, Nat.le_refl _, Nat.zero_le _⟩⟩
theorem act0_in (w : World) : ActIn w act0 := (item0_in w).act
theorem dec0_in (w : World) : DecIn w dec0 := (item0_in w).dec
theorem same_act0 : act0.same act0 = true := by decide
theorem same_claim0 : claim0.same claim0 = true := by decide
theorem same_ballot0 : ballot0.same ballot0 = true := by decide
theorem same_dec0 : dec0.same dec0 = true := by decide

def rest_act (i : ItemR) : ItemR := { i with kind := 0, act := act0 }
theorem rest_act_same (i : ItemR) (h : i.kind = 0) : (actRight i.act && (rest_act i).same item0) = itemRight i := by
  unfold itemRight
  rw [if_pos h]
  simp only [rest_act, item0, ItemR.same, conj, List.foldr, same_act0, decide_true, Bool.true_and, Bool.and_true]
theorem rest_act_in {w : World} {i : ItemR} (h : ItemIn w i) : ItemIn w (rest_act i) := ⟨act0_in w, h.dec⟩
theorem rest_act_cells (i : ItemR) : splice (i.cells.set 0 (.int .i64 0)) 1 act0.cells = (rest_act i).cells := rfl
set_option maxRecDepth 100000 in
set_option maxHeartbeats 8000000 in
theorem right_act (i : ItemR) (w : World) (hI : ItemIn w i) (hk : i.kind = 0) : Calls Tryz.prog 12 #[.agg (itA i)] w fun e w' => e = .returned (.bool (itemRight i)) ∧ Q w w' := by
  obtain ⟨w1, x, hx, hq1, hbk⟩ := boxedB w 50 i.cells
  have hl := hbk.lt
  have hr := Blk.range hbk
  have hx : w.alloc (.cells (itA i) 50) = x.w := hx
  have hIt : ∀ y : Wd w1, (Instr.loadAt 50 (.pointer (some ⟨w.heap.size, 0, none⟩))).run Tryz.prog y.w = .ok (.agg (itA i)) y.w := Wd.load hl hr Tryz.underlying50 rfl (by kernel_rfl)
  have hHR := Lib.hid (rest_act_same i hk)
  have hHK := Lib.hid hk
  have hsx : w.heap.size < x.w.heap.size := Nat.lt_of_lt_of_le hl x.q.size
  clear hk
  go_enter Tryz.func12, Tryz.ntmps12
  go_wp2_with (first | (refine wpList_load_run 50 (.tmp 1) (.pointer (some ⟨w.heap.size, 0, none⟩)) (.agg (itA i)) ?_ ?_ ?_ ?_ ?_; rfl; rfl; rfl; exact hIt _) | (refine wpList_store_blk (Blk.new x.w 50 item0.cells.toArray) rfl 50 (.tmp 4) (.tmp 5) i.cells rfl rfl rfl (by kernel_rfl) (it_all i) (Nat.le_refl 49) ?_))
  intro W hW hbel
  rw [splice_all _ _ (by rfl)] at hW
  have hqW : Q w1 W := hbel _ _ x.q.size (Q.trans x.q (q_new _ _ _))
  have hb2 := hW.set_ 0 (.int .i64 0)
  have z0 : W.cell? ⟨x.w.heap.size, 0, none⟩ = some (.int .i64 i.kind) := hW.cell 0
  have z1 := hW.frozen 0
  have hq2 : Q w1 (W.setCell ⟨x.w.heap.size, 0, none⟩ (.int .i64 0)) := Below.setCell hqW (Nat.le_trans x.q.size (Nat.le_refl _)) _
  generalize hW2 : W.setCell ⟨x.w.heap.size, 0, none⟩ (.int .i64 0) = W2 at *
  have hb2 : Blk W2 x.w.heap.size 50 (i.cells.set 0 (.int .i64 0)).toArray := by simpa using hb2
  have hIW : ItemIn W2 i := (hI.q hq1).q hq2
  have hI' : ∀ y : Wd W2, ItemIn y.w i := fun y => hIW.q y.q
  have hQW := Lib.hid (Q.trans hq1 hq2)
  have c0 : ∀ y : Wd W2, y.w.cell? ⟨w.heap.size, 0, none⟩ = some (.int .i64 0) := by
    rw [← hHK.out]
    exact Wd.at0 (Nat.lt_of_lt_of_le hl hq2.size) (range_q hr hq2 hl) 0 rfl
  have hA := item_act (Nat.lt_of_lt_of_le hl hq2.size) (range_q hr hq2 hl)
  obtain ⟨y2, hy2⟩ := Wd.first W2
  rw [hy2] at hW2
  have hbk2 : ∀ y : Wd W2, Blk y.w x.w.heap.size 50 (i.cells.set 0 (.int .i64 0)).toArray := fun y => hb2.q y.q
  have HQ12 := Lib.hid hq2
  have HQ1 := Lib.hid hq1
  clear hx hIt hy2 hW hbel hqW hq1 hbk hr hq2 hb2
  go_wp2_with (first | (refine wpList_load_run 44 (.tmp 11) (.pointer (some ⟨w.heap.size, 1, none⟩)) (.agg (actA i.act)) ?_ ?_ ?_ ?_ ?_; rfl; rfl; rfl; exact hA _) | (go_at_call 45; refine (actRight_any _ _ (hI' _).act).mono ?_; rintro e w' ⟨rfl, hq3⟩; obtain ⟨y3, rfl⟩ := Wd.next _ hq3; clear hq3) | (refine wpList_store_blk (hbk2 _) rfl 44 (.tmp 15) (.tmp 14) act0.cells rfl rfl rfl (by kernel_rfl) (act_all act0) (by simp [ItemR.cells, ActR.cells, ClaimV.cells, BallotV.cells, DecR.cells]) ?_))
  intro W3 hW3 hbel3
  rw [rest_act_cells] at hW3
  have hq3 : Q w1 W3 := hbel3 _ _ x.q.size (Q.trans HQ12.out y3.q)
  have hR : ∀ y : Wd W3, (Instr.loadAt 50 (.pointer (some ⟨x.w.heap.size, 0, none⟩))).run Tryz.prog y.w = .ok (.agg (itA (rest_act i))) y.w := Wd.load hW3.lt (Blk.range hW3) Tryz.underlying50 rfl (by kernel_rfl)
  have hIR : ∀ y : Wd W3, ItemIn y.w (rest_act i) := fun y => rest_act_in ((hI.q HQ1.out).q (Q.trans hq3 y.q))
  have HQ3 := Lib.hid (Q.trans HQ1.out hq3)
  obtain ⟨z3, hz3⟩ := Wd.first W3
  rw [hz3]
  clear hW3 hbel3 hq3 hz3 hbk2 hA c0 hI' hIW
  cases hr : actRight i.act
  all_goals
    have HR2 := Lib.hid hr
    clear hr
    go_wp2_with (first | (refine wpList_load_run 50 (.tmp 4) (.pointer (some ⟨x.w.heap.size, 0, none⟩)) (.agg (itA (rest_act i))) ?_ ?_ ?_ ?_ ?_; rfl; rfl; rfl; exact hR _) | (go_at_call 49; refine (itemSame_any (rest_act i) item0 _ (hIR _) (item0_in _)).mono ?_; rintro e w' ⟨rfl, hq5⟩; obtain ⟨z, rfl⟩ := Wd.next _ hq5; clear hq5))
    go_ret
    exact ⟨by rw [← hHR.out, HR2.out]; rfl, Q.trans HQ3.out (Wd.q _)⟩
def rest_claim (i : ItemR) : ItemR := { i with kind := 0, claim := claim0 }
theorem rest_claim_same (i : ItemR) (h : i.kind = 1) : (claimRight i.claim && (rest_claim i).same item0) = itemRight i := by
  unfold itemRight
  rw [if_neg (by omega)]
  rw [if_pos h]
  simp only [rest_claim, item0, ItemR.same, conj, List.foldr, same_claim0, decide_true, Bool.true_and, Bool.and_true]
theorem rest_claim_in {w : World} {i : ItemR} (h : ItemIn w i) : ItemIn w (rest_claim i) := ⟨h.act, h.dec⟩
theorem rest_claim_cells (i : ItemR) : splice (i.cells.set 0 (.int .i64 0)) 21 claim0.cells = (rest_claim i).cells := rfl
set_option maxRecDepth 100000 in
set_option maxHeartbeats 8000000 in
theorem right_claim (i : ItemR) (w : World) (hI : ItemIn w i) (hk : i.kind = 1) : Calls Tryz.prog 12 #[.agg (itA i)] w fun e w' => e = .returned (.bool (itemRight i)) ∧ Q w w' := by
  obtain ⟨w1, x, hx, hq1, hbk⟩ := boxedB w 50 i.cells
  have hl := hbk.lt
  have hr := Blk.range hbk
  have hx : w.alloc (.cells (itA i) 50) = x.w := hx
  have hIt : ∀ y : Wd w1, (Instr.loadAt 50 (.pointer (some ⟨w.heap.size, 0, none⟩))).run Tryz.prog y.w = .ok (.agg (itA i)) y.w := Wd.load hl hr Tryz.underlying50 rfl (by kernel_rfl)
  have hHR := Lib.hid (rest_claim_same i hk)
  have hHK := Lib.hid hk
  have hsx : w.heap.size < x.w.heap.size := Nat.lt_of_lt_of_le hl x.q.size
  clear hk
  go_enter Tryz.func12, Tryz.ntmps12
  go_wp2_with (first | (refine wpList_load_run 50 (.tmp 1) (.pointer (some ⟨w.heap.size, 0, none⟩)) (.agg (itA i)) ?_ ?_ ?_ ?_ ?_; rfl; rfl; rfl; exact hIt _) | (refine wpList_store_blk (Blk.new x.w 50 item0.cells.toArray) rfl 50 (.tmp 4) (.tmp 5) i.cells rfl rfl rfl (by kernel_rfl) (it_all i) (Nat.le_refl 49) ?_))
  intro W hW hbel
  rw [splice_all _ _ (by rfl)] at hW
  have hqW : Q w1 W := hbel _ _ x.q.size (Q.trans x.q (q_new _ _ _))
  have hb2 := hW.set_ 0 (.int .i64 0)
  have z0 : W.cell? ⟨x.w.heap.size, 0, none⟩ = some (.int .i64 i.kind) := hW.cell 0
  have z1 := hW.frozen 0
  have hq2 : Q w1 (W.setCell ⟨x.w.heap.size, 0, none⟩ (.int .i64 0)) := Below.setCell hqW (Nat.le_trans x.q.size (Nat.le_refl _)) _
  generalize hW2 : W.setCell ⟨x.w.heap.size, 0, none⟩ (.int .i64 0) = W2 at *
  have hb2 : Blk W2 x.w.heap.size 50 (i.cells.set 0 (.int .i64 0)).toArray := by simpa using hb2
  have hIW : ItemIn W2 i := (hI.q hq1).q hq2
  have hI' : ∀ y : Wd W2, ItemIn y.w i := fun y => hIW.q y.q
  have hQW := Lib.hid (Q.trans hq1 hq2)
  have c0 : ∀ y : Wd W2, y.w.cell? ⟨w.heap.size, 0, none⟩ = some (.int .i64 1) := by
    rw [← hHK.out]
    exact Wd.at0 (Nat.lt_of_lt_of_le hl hq2.size) (range_q hr hq2 hl) 0 rfl
  have hA := item_claim (Nat.lt_of_lt_of_le hl hq2.size) (range_q hr hq2 hl)
  obtain ⟨y2, hy2⟩ := Wd.first W2
  rw [hy2] at hW2
  have hbk2 : ∀ y : Wd W2, Blk y.w x.w.heap.size 50 (i.cells.set 0 (.int .i64 0)).toArray := fun y => hb2.q y.q
  have HQ12 := Lib.hid hq2
  have HQ1 := Lib.hid hq1
  clear hx hIt hy2 hW hbel hqW hq1 hbk hr hq2 hb2
  go_wp2_with (first | (refine wpList_load_run 37 (.tmp 18) (.pointer (some ⟨w.heap.size, 21, none⟩)) (.agg (claimA i.claim)) ?_ ?_ ?_ ?_ ?_; rfl; rfl; rfl; exact hA _) | (go_at_call 46; refine (rightClaim_any _ _).mono ?_; rintro e w' ⟨rfl, hq3⟩; obtain ⟨y3, rfl⟩ := Wd.next _ hq3; clear hq3) | (refine wpList_store_blk (hbk2 _) rfl 37 (.tmp 22) (.tmp 21) claim0.cells rfl rfl rfl (by kernel_rfl) (claim_all claim0) (by simp [ItemR.cells, ActR.cells, ClaimV.cells, BallotV.cells, DecR.cells]) ?_))
  intro W3 hW3 hbel3
  rw [rest_claim_cells] at hW3
  have hq3 : Q w1 W3 := hbel3 _ _ x.q.size (Q.trans HQ12.out y3.q)
  have hR : ∀ y : Wd W3, (Instr.loadAt 50 (.pointer (some ⟨x.w.heap.size, 0, none⟩))).run Tryz.prog y.w = .ok (.agg (itA (rest_claim i))) y.w := Wd.load hW3.lt (Blk.range hW3) Tryz.underlying50 rfl (by kernel_rfl)
  have hIR : ∀ y : Wd W3, ItemIn y.w (rest_claim i) := fun y => rest_claim_in ((hI.q HQ1.out).q (Q.trans hq3 y.q))
  have HQ3 := Lib.hid (Q.trans HQ1.out hq3)
  obtain ⟨z3, hz3⟩ := Wd.first W3
  rw [hz3]
  clear hW3 hbel3 hq3 hz3 hbk2 hA c0 hI' hIW
  cases hr : claimRight i.claim
  all_goals
    have HR2 := Lib.hid hr
    clear hr
    go_wp2_with (first | (refine wpList_load_run 50 (.tmp 4) (.pointer (some ⟨x.w.heap.size, 0, none⟩)) (.agg (itA (rest_claim i))) ?_ ?_ ?_ ?_ ?_; rfl; rfl; rfl; exact hR _) | (go_at_call 49; refine (itemSame_any (rest_claim i) item0 _ (hIR _) (item0_in _)).mono ?_; rintro e w' ⟨rfl, hq5⟩; obtain ⟨z, rfl⟩ := Wd.next _ hq5; clear hq5))
    go_ret
    exact ⟨by rw [← hHR.out, HR2.out]; rfl, Q.trans HQ3.out (Wd.q _)⟩
def rest_ballot (i : ItemR) : ItemR := { i with kind := 0, ballot := ballot0 }
theorem rest_ballot_same (i : ItemR) (h : i.kind = 2) : (ballotRight i.ballot && (rest_ballot i).same item0) = itemRight i := by
  unfold itemRight
  rw [if_neg (by omega)]
  rw [if_neg (by omega)]
  rw [if_pos h]
  simp only [rest_ballot, item0, ItemR.same, conj, List.foldr, same_ballot0, decide_true, Bool.true_and, Bool.and_true]
theorem rest_ballot_in {w : World} {i : ItemR} (h : ItemIn w i) : ItemIn w (rest_ballot i) := ⟨h.act, h.dec⟩
theorem rest_ballot_cells (i : ItemR) : splice (i.cells.set 0 (.int .i64 0)) 30 ballot0.cells = (rest_ballot i).cells := rfl
set_option maxRecDepth 100000 in
set_option maxHeartbeats 8000000 in
theorem right_ballot (i : ItemR) (w : World) (hI : ItemIn w i) (hk : i.kind = 2) : Calls Tryz.prog 12 #[.agg (itA i)] w fun e w' => e = .returned (.bool (itemRight i)) ∧ Q w w' := by
  obtain ⟨w1, x, hx, hq1, hbk⟩ := boxedB w 50 i.cells
  have hl := hbk.lt
  have hr := Blk.range hbk
  have hx : w.alloc (.cells (itA i) 50) = x.w := hx
  have hIt : ∀ y : Wd w1, (Instr.loadAt 50 (.pointer (some ⟨w.heap.size, 0, none⟩))).run Tryz.prog y.w = .ok (.agg (itA i)) y.w := Wd.load hl hr Tryz.underlying50 rfl (by kernel_rfl)
  have hHR := Lib.hid (rest_ballot_same i hk)
  have hHK := Lib.hid hk
  have hsx : w.heap.size < x.w.heap.size := Nat.lt_of_lt_of_le hl x.q.size
  clear hk
  go_enter Tryz.func12, Tryz.ntmps12
  go_wp2_with (first | (refine wpList_load_run 50 (.tmp 1) (.pointer (some ⟨w.heap.size, 0, none⟩)) (.agg (itA i)) ?_ ?_ ?_ ?_ ?_; rfl; rfl; rfl; exact hIt _) | (refine wpList_store_blk (Blk.new x.w 50 item0.cells.toArray) rfl 50 (.tmp 4) (.tmp 5) i.cells rfl rfl rfl (by kernel_rfl) (it_all i) (Nat.le_refl 49) ?_))
  intro W hW hbel
  rw [splice_all _ _ (by rfl)] at hW
  have hqW : Q w1 W := hbel _ _ x.q.size (Q.trans x.q (q_new _ _ _))
  have hb2 := hW.set_ 0 (.int .i64 0)
  have z0 : W.cell? ⟨x.w.heap.size, 0, none⟩ = some (.int .i64 i.kind) := hW.cell 0
  have z1 := hW.frozen 0
  have hq2 : Q w1 (W.setCell ⟨x.w.heap.size, 0, none⟩ (.int .i64 0)) := Below.setCell hqW (Nat.le_trans x.q.size (Nat.le_refl _)) _
  generalize hW2 : W.setCell ⟨x.w.heap.size, 0, none⟩ (.int .i64 0) = W2 at *
  have hb2 : Blk W2 x.w.heap.size 50 (i.cells.set 0 (.int .i64 0)).toArray := by simpa using hb2
  have hIW : ItemIn W2 i := (hI.q hq1).q hq2
  have hI' : ∀ y : Wd W2, ItemIn y.w i := fun y => hIW.q y.q
  have hQW := Lib.hid (Q.trans hq1 hq2)
  have c0 : ∀ y : Wd W2, y.w.cell? ⟨w.heap.size, 0, none⟩ = some (.int .i64 2) := by
    rw [← hHK.out]
    exact Wd.at0 (Nat.lt_of_lt_of_le hl hq2.size) (range_q hr hq2 hl) 0 rfl
  have hA := item_ballot (Nat.lt_of_lt_of_le hl hq2.size) (range_q hr hq2 hl)
  obtain ⟨y2, hy2⟩ := Wd.first W2
  rw [hy2] at hW2
  have hbk2 : ∀ y : Wd W2, Blk y.w x.w.heap.size 50 (i.cells.set 0 (.int .i64 0)).toArray := fun y => hb2.q y.q
  have HQ12 := Lib.hid hq2
  have HQ1 := Lib.hid hq1
  clear hx hIt hy2 hW hbel hqW hq1 hbk hr hq2 hb2
  go_wp2_with (first | (refine wpList_load_run 46 (.tmp 25) (.pointer (some ⟨w.heap.size, 30, none⟩)) (.agg (ballotA i.ballot)) ?_ ?_ ?_ ?_ ?_; rfl; rfl; rfl; exact hA _) | (go_at_call 47; refine (rightBallot_any _ _).mono ?_; rintro e w' ⟨rfl, hq3⟩; obtain ⟨y3, rfl⟩ := Wd.next _ hq3; clear hq3) | (refine wpList_store_blk (hbk2 _) rfl 46 (.tmp 29) (.tmp 28) ballot0.cells rfl rfl rfl (by kernel_rfl) (ballot_all ballot0) (by simp [ItemR.cells, ActR.cells, ClaimV.cells, BallotV.cells, DecR.cells]) ?_))
  intro W3 hW3 hbel3
  rw [rest_ballot_cells] at hW3
  have hq3 : Q w1 W3 := hbel3 _ _ x.q.size (Q.trans HQ12.out y3.q)
  have hR : ∀ y : Wd W3, (Instr.loadAt 50 (.pointer (some ⟨x.w.heap.size, 0, none⟩))).run Tryz.prog y.w = .ok (.agg (itA (rest_ballot i))) y.w := Wd.load hW3.lt (Blk.range hW3) Tryz.underlying50 rfl (by kernel_rfl)
  have hIR : ∀ y : Wd W3, ItemIn y.w (rest_ballot i) := fun y => rest_ballot_in ((hI.q HQ1.out).q (Q.trans hq3 y.q))
  have HQ3 := Lib.hid (Q.trans HQ1.out hq3)
  obtain ⟨z3, hz3⟩ := Wd.first W3
  rw [hz3]
  clear hW3 hbel3 hq3 hz3 hbk2 hA c0 hI' hIW
  cases hr : ballotRight i.ballot
  all_goals
    have HR2 := Lib.hid hr
    clear hr
    go_wp2_with (first | (refine wpList_load_run 50 (.tmp 4) (.pointer (some ⟨x.w.heap.size, 0, none⟩)) (.agg (itA (rest_ballot i))) ?_ ?_ ?_ ?_ ?_; rfl; rfl; rfl; exact hR _) | (go_at_call 49; refine (itemSame_any (rest_ballot i) item0 _ (hIR _) (item0_in _)).mono ?_; rintro e w' ⟨rfl, hq5⟩; obtain ⟨z, rfl⟩ := Wd.next _ hq5; clear hq5))
    go_ret
    exact ⟨by rw [← hHR.out, HR2.out]; rfl, Q.trans HQ3.out (Wd.q _)⟩
def rest_dec (i : ItemR) : ItemR := { i with kind := 0, dec := dec0 }
theorem rest_dec_same (i : ItemR) (h : i.kind = 3) : (decRight i.dec && (rest_dec i).same item0) = itemRight i := by
  unfold itemRight
  rw [if_neg (by omega)]
  rw [if_neg (by omega)]
  rw [if_neg (by omega)]
  rw [if_pos h]
  simp only [rest_dec, item0, ItemR.same, conj, List.foldr, same_dec0, decide_true, Bool.true_and, Bool.and_true]
theorem rest_dec_in {w : World} {i : ItemR} (h : ItemIn w i) : ItemIn w (rest_dec i) := ⟨h.act, dec0_in w⟩
theorem rest_dec_cells (i : ItemR) : splice (i.cells.set 0 (.int .i64 0)) 37 dec0.cells = (rest_dec i).cells := rfl
set_option maxRecDepth 100000 in
set_option maxHeartbeats 8000000 in
theorem right_dec (i : ItemR) (w : World) (hI : ItemIn w i) (hk : i.kind = 3) : Calls Tryz.prog 12 #[.agg (itA i)] w fun e w' => e = .returned (.bool (itemRight i)) ∧ Q w w' := by
  obtain ⟨w1, x, hx, hq1, hbk⟩ := boxedB w 50 i.cells
  have hl := hbk.lt
  have hr := Blk.range hbk
  have hx : w.alloc (.cells (itA i) 50) = x.w := hx
  have hIt : ∀ y : Wd w1, (Instr.loadAt 50 (.pointer (some ⟨w.heap.size, 0, none⟩))).run Tryz.prog y.w = .ok (.agg (itA i)) y.w := Wd.load hl hr Tryz.underlying50 rfl (by kernel_rfl)
  have hHR := Lib.hid (rest_dec_same i hk)
  have hHK := Lib.hid hk
  have hsx : w.heap.size < x.w.heap.size := Nat.lt_of_lt_of_le hl x.q.size
  clear hk
  go_enter Tryz.func12, Tryz.ntmps12
  go_wp2_with (first | (refine wpList_load_run 50 (.tmp 1) (.pointer (some ⟨w.heap.size, 0, none⟩)) (.agg (itA i)) ?_ ?_ ?_ ?_ ?_; rfl; rfl; rfl; exact hIt _) | (refine wpList_store_blk (Blk.new x.w 50 item0.cells.toArray) rfl 50 (.tmp 4) (.tmp 5) i.cells rfl rfl rfl (by kernel_rfl) (it_all i) (Nat.le_refl 49) ?_))
  intro W hW hbel
  rw [splice_all _ _ (by rfl)] at hW
  have hqW : Q w1 W := hbel _ _ x.q.size (Q.trans x.q (q_new _ _ _))
  have hb2 := hW.set_ 0 (.int .i64 0)
  have z0 : W.cell? ⟨x.w.heap.size, 0, none⟩ = some (.int .i64 i.kind) := hW.cell 0
  have z1 := hW.frozen 0
  have hq2 : Q w1 (W.setCell ⟨x.w.heap.size, 0, none⟩ (.int .i64 0)) := Below.setCell hqW (Nat.le_trans x.q.size (Nat.le_refl _)) _
  generalize hW2 : W.setCell ⟨x.w.heap.size, 0, none⟩ (.int .i64 0) = W2 at *
  have hb2 : Blk W2 x.w.heap.size 50 (i.cells.set 0 (.int .i64 0)).toArray := by simpa using hb2
  have hIW : ItemIn W2 i := (hI.q hq1).q hq2
  have hI' : ∀ y : Wd W2, ItemIn y.w i := fun y => hIW.q y.q
  have hQW := Lib.hid (Q.trans hq1 hq2)
  have c0 : ∀ y : Wd W2, y.w.cell? ⟨w.heap.size, 0, none⟩ = some (.int .i64 3) := by
    rw [← hHK.out]
    exact Wd.at0 (Nat.lt_of_lt_of_le hl hq2.size) (range_q hr hq2 hl) 0 rfl
  have hA := item_dec (Nat.lt_of_lt_of_le hl hq2.size) (range_q hr hq2 hl)
  obtain ⟨y2, hy2⟩ := Wd.first W2
  rw [hy2] at hW2
  have hbk2 : ∀ y : Wd W2, Blk y.w x.w.heap.size 50 (i.cells.set 0 (.int .i64 0)).toArray := fun y => hb2.q y.q
  have HQ12 := Lib.hid hq2
  have HQ1 := Lib.hid hq1
  clear hx hIt hy2 hW hbel hqW hq1 hbk hr hq2 hb2
  go_wp2_with (first | (refine wpList_load_run 48 (.tmp 32) (.pointer (some ⟨w.heap.size, 37, none⟩)) (.agg (decA i.dec)) ?_ ?_ ?_ ?_ ?_; rfl; rfl; rfl; exact hA _) | (go_at_call 48; refine (rightDec_any _ _ (hI' _).dec).mono ?_; rintro e w' ⟨rfl, hq3⟩; obtain ⟨y3, rfl⟩ := Wd.next _ hq3; clear hq3) | (refine wpList_store_blk (hbk2 _) rfl 48 (.tmp 36) (.tmp 35) dec0.cells rfl rfl rfl (by kernel_rfl) (dec_all dec0) (by simp [ItemR.cells, ActR.cells, ClaimV.cells, BallotV.cells, DecR.cells]) ?_))
  intro W3 hW3 hbel3
  rw [rest_dec_cells] at hW3
  have hq3 : Q w1 W3 := hbel3 _ _ x.q.size (Q.trans HQ12.out y3.q)
  have hR : ∀ y : Wd W3, (Instr.loadAt 50 (.pointer (some ⟨x.w.heap.size, 0, none⟩))).run Tryz.prog y.w = .ok (.agg (itA (rest_dec i))) y.w := Wd.load hW3.lt (Blk.range hW3) Tryz.underlying50 rfl (by kernel_rfl)
  have hIR : ∀ y : Wd W3, ItemIn y.w (rest_dec i) := fun y => rest_dec_in ((hI.q HQ1.out).q (Q.trans hq3 y.q))
  have HQ3 := Lib.hid (Q.trans HQ1.out hq3)
  obtain ⟨z3, hz3⟩ := Wd.first W3
  rw [hz3]
  clear hW3 hbel3 hq3 hz3 hbk2 hA c0 hI' hIW
  cases hr : decRight i.dec
  all_goals
    have HR2 := Lib.hid hr
    clear hr
    go_wp2_with (first | (refine wpList_load_run 50 (.tmp 4) (.pointer (some ⟨x.w.heap.size, 0, none⟩)) (.agg (itA (rest_dec i))) ?_ ?_ ?_ ?_ ?_; rfl; rfl; rfl; exact hR _) | (go_at_call 49; refine (itemSame_any (rest_dec i) item0 _ (hIR _) (item0_in _)).mono ?_; rintro e w' ⟨rfl, hq5⟩; obtain ⟨z, rfl⟩ := Wd.next _ hq5; clear hq5))
    go_ret
    exact ⟨by rw [← hHR.out, HR2.out]; rfl, Q.trans HQ3.out (Wd.q _)⟩
set_option maxRecDepth 100000 in
set_option maxHeartbeats 8000000 in
theorem right_none (i : ItemR) (w : World) (hI : ItemIn w i) (k0 : ¬ i.kind = 0) (k1 : ¬ i.kind = 1) (k2 : ¬ i.kind = 2) (k3 : ¬ i.kind = 3) : Calls Tryz.prog 12 #[.agg (itA i)] w fun e w' => e = .returned (.bool (itemRight i)) ∧ Q w w' := by
  obtain ⟨w1, x, hx, hq1, hbk⟩ := boxedB w 50 i.cells
  have hl := hbk.lt
  have hr := Blk.range hbk
  have hx : w.alloc (.cells (itA i) 50) = x.w := hx
  have hIt : ∀ y : Wd w1, (Instr.loadAt 50 (.pointer (some ⟨w.heap.size, 0, none⟩))).run Tryz.prog y.w = .ok (.agg (itA i)) y.w := Wd.load hl hr Tryz.underlying50 rfl (by kernel_rfl)
  have hHR := Lib.hid (show itemRight i = false by unfold itemRight; rw [if_neg k0, if_neg k1, if_neg k2, if_neg k3])
  have e0 : (i.kind == 0) = false := by simpa using k0
  have e1 : (i.kind == 1) = false := by simpa using k1
  have e2 : (i.kind == 2) = false := by simpa using k2
  have e3 : (i.kind == 3) = false := by simpa using k3
  have hsx : w.heap.size < x.w.heap.size := Nat.lt_of_lt_of_le hl x.q.size
  clear k0 k1 k2 k3
  go_enter Tryz.func12, Tryz.ntmps12
  go_wp2_with (first | (refine wpList_load_run 50 (.tmp 1) (.pointer (some ⟨w.heap.size, 0, none⟩)) (.agg (itA i)) ?_ ?_ ?_ ?_ ?_; rfl; rfl; rfl; exact hIt _) | (refine wpList_store_blk (Blk.new x.w 50 item0.cells.toArray) rfl 50 (.tmp 4) (.tmp 5) i.cells rfl rfl rfl (by kernel_rfl) (it_all i) (Nat.le_refl 49) ?_))
  intro W hW hbel
  rw [splice_all _ _ (by rfl)] at hW
  have hqW : Q w1 W := hbel _ _ x.q.size (Q.trans x.q (q_new _ _ _))
  have z0 : W.cell? ⟨x.w.heap.size, 0, none⟩ = some (.int .i64 i.kind) := hW.cell 0
  have z1 := hW.frozen 0
  have hq2 : Q w1 (W.setCell ⟨x.w.heap.size, 0, none⟩ (.int .i64 0)) := Below.setCell hqW (Nat.le_trans x.q.size (Nat.le_refl _)) _
  generalize hW2 : W.setCell ⟨x.w.heap.size, 0, none⟩ (.int .i64 0) = W2 at *
  have hQW := Lib.hid (Q.trans hq1 hq2)
  have c0 : ∀ y : Wd W2, y.w.cell? ⟨w.heap.size, 0, none⟩ = some (.int .i64 i.kind) := Wd.at0 (Nat.lt_of_lt_of_le hl hq2.size) (range_q hr hq2 hl) 0 rfl
  obtain ⟨y2, hy2⟩ := Wd.first W2
  rw [hy2] at hW2
  clear hx hIt hy2 hW hbel hqW hq1 hbk hr hq2
  go_wp2_with fail
  go_ret
  exact ⟨by rw [hHR.out]; rfl, Q.trans hQW.out (Wd.q _)⟩
theorem itemRight_any (i : ItemR) (w : World) (hI : ItemIn w i) : Calls Tryz.prog 12 #[.agg (itA i)] w fun e w' => e = .returned (.bool (itemRight i)) ∧ Q w w' := by
  by_cases k0 : i.kind = 0
  · exact right_act i w hI k0
  by_cases k1 : i.kind = 1
  · exact right_claim i w hI k1
  by_cases k2 : i.kind = 2
  · exact right_ballot i w hI k2
  by_cases k3 : i.kind = 3
  · exact right_dec i w hI k3
  exact right_none i w hI k0 k1 k2 k3
end Go.Proofs.YtflgkplneekpfaaGreatDoor.Item

namespace Go.Proofs.YtflgkplneekpfaaGreatDoor.Item
open Go.RowKit Grp Mem _root_.Go.Proofs.YtflgkplneekpfaaGreatDoor.Code Sha Sign

set_option maxRecDepth 100000 in
set_option maxHeartbeats 4000000 in
theorem bytes_no (i : ItemR) (w : World) (hI : ItemIn w i) (h : itemRight i = false) : Calls Tryz.prog 38 #[.agg (itA i)] w fun e w' => e = .returned (.string (itemBytes i)) ∧ Q w w' := by
  obtain ⟨w1, x, hx, hq1, hl, hr⟩ := boxed w 50 i.cells
  have hx : w.alloc (.cells (itA i) 50) = x.w := hx
  have hIt : ∀ y : Wd w1, (Instr.loadAt 50 (.pointer (some ⟨w.heap.size, 0, none⟩))).run Tryz.prog y.w = .ok (.agg (itA i)) y.w := Wd.load hl hr Tryz.underlying50 rfl (by kernel_rfl)
  have hI' : ∀ y : Wd w1, ItemIn y.w i := fun y => hI.q (Q.trans hq1 y.q)
  have HR : Hid (itemBytes i = ⟨#[]⟩) := Lib.hid (by unfold itemBytes; rw [h]; rfl)
  clear hr
  go_enter Tryz.func38, Tryz.ntmps38
  go_wp2_with (first | (refine wpList_load_run 50 (.tmp 1) (.pointer (some ⟨w.heap.size, 0, none⟩)) (.agg (itA i)) ?_ ?_ ?_ ?_ ?_; rfl; rfl; rfl; exact hIt _) | (go_at_call 12; refine (itemRight_any _ _ (hI' _)).mono ?_; rintro e w' ⟨rfl, hq2⟩; obtain ⟨y, rfl⟩ := Wd.next _ hq2; clear hq2))
  go_ret
  exact ⟨by rw [HR.out]; rfl, Q.trans hq1 (Wd.q _)⟩

set_option maxRecDepth 100000 in
set_option maxHeartbeats 4000000 in
theorem bytes_act (i : ItemR) (w : World) (hI : ItemIn w i) (h : itemRight i = true) (hk : i.kind = 0) : Calls Tryz.prog 38 #[.agg (itA i)] w fun e w' => e = .returned (.string (itemBytes i)) ∧ Q w w' := by
  obtain ⟨w1, x, hx, hq1, hbk⟩ := boxedB w 50 i.cells
  have hl := hbk.lt
  have hr := Blk.range hbk
  have hx : w.alloc (.cells (itA i) 50) = x.w := hx
  have hIt : ∀ y : Wd w1, (Instr.loadAt 50 (.pointer (some ⟨w.heap.size, 0, none⟩))).run Tryz.prog y.w = .ok (.agg (itA i)) y.w := Wd.load hl hr Tryz.underlying50 rfl (by kernel_rfl)
  have hI' : ∀ y : Wd w1, ItemIn y.w i := fun y => hI.q (Q.trans hq1 y.q)
  have hra := right_actB h hk
  have HR : Hid (itemBytes i = ⟨(numL 0 ++ (actBytes i.act).data.toList).toArray⟩) := Lib.hid (by unfold itemBytes itemBytesL; rw [h, if_pos rfl, if_pos hk, hk])
  have hab := actBytes_le hra
  have HK := Lib.hid hk
  clear hra hk
  go_enter Tryz.func38, Tryz.ntmps38
  go_wp2_with (refine wpList_load_run 50 (.tmp 1) (.pointer (some ⟨w.heap.size, 0, none⟩)) (.agg (itA i)) ?_ ?_ ?_ ?_ ?_; rfl; rfl; rfl; exact hIt _)
  refine (itemRight_any _ _ (hI' _)).mono ?_
  rintro e w' ⟨rfl, hq2⟩
  obtain ⟨y, rfl⟩ := Wd.next _ hq2
  clear hq2
  have hqy : Q w y.w := Q.trans hq1 y.q
  have hq3 := q_new y.w #[.slice none 0 0] 123
  have hnew := Bld.new y.w (B := w.heap.size) hqy.size
  have hlt : w.heap.size < y.w.heap.size := Nat.lt_of_lt_of_le hl y.q.size
  have hsi : Stay w.heap.size y.w.heap.size (y.w.alloc (.cells #[.slice none 0 0] 123)) w.heap.size := Stay.blk ((hbk.q y.q).q hq3) (by omega) (by decide)
  have hri := range_q (range_q hr y.q hl) hq3 hlt
  have hqW := Lib.hid (Q.trans hqy hq3)
  generalize hW2 : y.w.alloc (.cells #[.slice none 0 0] 123) = W2 at *
  obtain ⟨y2, hy2⟩ := Kd.first w.heap.size y.w.heap.size W2
  have hb2 : Bld w.heap.size y.w.heap.size y2.w [] := hy2 ▸ hnew
  rw [hy2] at hW2
  have c0 : ∀ z : Kd w.heap.size y.w.heap.size W2, z.w.cell? ⟨w.heap.size, 0, none⟩ = some (.int .i64 i.kind) := fun z => (z.q.range hsi hri) 0 _ rfl
  rw [HK.out] at c0
  have hsl : ∀ z : Kd w.heap.size y.w.heap.size W2, w.heap.size < z.w.heap.size := fun z => Nat.lt_of_lt_of_le hsi.lt z.q.size
  have hAc : ∀ z : Kd w.heap.size y.w.heap.size W2, ∀ u : Wd z.w, (Instr.loadAt 44 (.pointer (some ⟨w.heap.size, 1, none⟩))).run Tryz.prog u.w = .ok (.agg (actA i.act)) u.w := fun z => item_act (hsl z) (z.q.range hsi hri)
  clear hy2 hnew hsi hri hIt hI' hx hbk hr hq3 hqy
  go_wp2_with (go_at_call 77; refine (nums_lit hb2 [0] _ _ _ rfl rfl rfl (by simp) (by simp)).mono ?_; rintro e w' ⟨rfl, hb3, hk1⟩; obtain ⟨y3, rfl⟩ := Kd.next _ hk1; clear hk1)
  obtain ⟨hB, v, hgv, hown⟩ := hb3
  have hqy3 : Q w y3.w := Tk.q y3.q rfl hqW.out
  have cg : ∀ z : Wd y3.w, z.w.cell? ⟨y.w.heap.size, 0, none⟩ = some v := fun z => (z.q.cell (p := ⟨y.w.heap.size, 0, none⟩) hgv.lt).trans (hgv.cell 0)
  have hA2 := hAc y3
  have hIA : ∀ z : Wd y3.w, ActIn z.w i.act := fun z => hI.act.q (Q.trans hqy3 z.q)
  obtain ⟨i0, hi, hz0, hz1, hz2⟩ := info_parts Code.byte_info
  refine wp_region_wd_parts (⟨_, Q.refl _⟩ : Wd y3.w) 0 5 (by kernel_rfl) (by kernel_rfl) (by intro c d v a w h; cases d <;> exact h) ?_
  simp only [List.take_succ_cons, List.take_zero, List.drop_succ_cons, List.drop_zero]
  refine wpPure_nil ?_
  repeat (first | (refine wpQuiet_load_run 44 (.tmp 17) (.pointer (some ⟨w.heap.size, 1, none⟩)) (.agg (actA i.act)) ?_ ?_ ?_ ?_ ?_; rfl; rfl; rfl; exact hA2; dsimp only [Act.put]; simp only [List.setIfInBounds_toArray, List.set_cons_succ, List.set_cons_zero]) | go_big_quiet_step (exact Wd.call _ (actBytes_any _ _ (hIA _))))
  refine wpQuiet_nil ?_
  rintro w'' ⟨z, rfl⟩
  have hown' := hown.q z.q
  have hg' := hgv.q z.q
  have hYl : ([] ++ [0].flatMap numL : List UInt8).length ≤ 10 := by simp; exact numL_bd 0
  generalize hY : ([] ++ [0].flatMap numL : List UInt8) = Y at *
  have HY : Hid (Y = numL 0) := Lib.hid (by rw [← hY]; simp)
  clear hY
  go_wp2_with (at_builtin; refine wpList_append_owns_string _ rfl (.tmp 16) (.tmp 19) 121 9 rfl w.heap.size 5 i0 Tryz.underlying121 Tryz.underlying9 hi hz0 hz1 hz2 v Y.length (cellsOf Y) rfl hown' (actBytes i.act) rfl ?_ ?_ ?_ ?_)
  · simp only [maxLen]; omega
  · omega
  · have := hg'.lt; omega
  intro v2 w2 hown2 hgr
  have hab2 : (actBytes i.act).size = (actBytes i.act).data.toList.length := by rw [ba_length]
  rw [strCells_eq, hab2, ← cellsOf_append, ← List.length_append] at hown2
  have hg2 := Bld.at2 hg' hown' hgr
  have z0 : w2.cell? ⟨y.w.heap.size, 0, none⟩ = some v := hg2.cell 0
  have z1 := hg2.frozen 0
  have hown3 := Bld.own (L' := Y ++ (actBytes i.act).data.toList) hg' hown' hown2 hgr
  have hk4 := (Bld.step (L' := Y ++ (actBytes i.act).data.toList) hB hg' hown' hown2 hgr).2
  obtain ⟨A2, cap2, rfl, -, -⟩ := hown2.shape
  have hcv := run_string_of_owns (P := Tryz.prog) _ w.heap.size 121 9 5 _ _ Tryz.underlying121 Tryz.underlying5 Tryz.underlying9 hown3
  have HQ := Lib.hid (Tk.q ((y3.q.trans (Tk.of_q z.q)).trans hk4) rfl hqW.out)
  rw [List.length_append, ← hab2] at hcv HQ
  clear hown hown' hown2 hown3 hk4 hg2 hg' hgv hgr cg hA2 hIA hab2 c0 hAc
  go_wp2
  go_ret
  exact ⟨by rw [HR.out, ← HY.out]; rfl, HQ.out⟩
theorem sig_le {i : ItemR} (h : itemRight i = true) (hk : ¬ i.kind = 0) : (sigV i).1 ≤ 9223372036854775807 ∧ (sigV i).2 ≤ 9223372036854775807 := by
  unfold itemRight at h
  rw [if_neg hk] at h
  unfold sigV
  split
  · rename_i h1
    rw [if_pos h1, Bool.and_eq_true] at h
    simp only [claimRight, Bool.and_eq_true] at h
    have a1 := within_facts h.1.2.2.2.2.2.2.2.1
    have a2 := within_facts h.1.2.2.2.2.2.2.2.2
    exact ⟨by omega, by omega⟩
  · rename_i h1
    rw [if_neg h1] at h
    split
    · rename_i h2
      rw [if_pos h2, Bool.and_eq_true] at h
      simp only [ballotRight, Bool.and_eq_true] at h
      have a1 := within_facts h.1.2.2.2.2.2.1
      have a2 := within_facts h.1.2.2.2.2.2.2
      exact ⟨by omega, by omega⟩
    · rename_i h2
      rw [if_neg h2] at h
      split at h
      · rw [Bool.and_eq_true] at h
        simp only [decRight, Bool.and_eq_true] at h
        have a1 := within_facts h.1.2.2.2.2.2.2.1
        have a2 := within_facts h.1.2.2.2.2.2.2.2
        exact ⟨by omega, by omega⟩
      · cases h
set_option maxRecDepth 100000 in
set_option maxHeartbeats 4000000 in
theorem bytes_form (i : ItemR) (w : World) (hI : ItemIn w i) (h : itemRight i = true) (hk : ¬ i.kind = 0) : Calls Tryz.prog 38 #[.agg (itA i)] w fun e w' => e = .returned (.string (itemBytes i)) ∧ Q w w' := by
  obtain ⟨w1, x, hx, hq1, hbk⟩ := boxedB w 50 i.cells
  have hl := hbk.lt
  have hr := Blk.range hbk
  have hx : w.alloc (.cells (itA i) 50) = x.w := hx
  have hIt : ∀ y : Wd w1, (Instr.loadAt 50 (.pointer (some ⟨w.heap.size, 0, none⟩))).run Tryz.prog y.w = .ok (.agg (itA i)) y.w := Wd.load hl hr Tryz.underlying50 rfl (by kernel_rfl)
  have hI' : ∀ y : Wd w1, ItemIn y.w i := fun y => hI.q (Q.trans hq1 y.q)
  have hsm := small_right h hk
  have HR : Hid (itemBytes i = ⟨(numL i.kind ++ (itemL i ++ (numL (sigV i).1 ++ numL (sigV i).2))).toArray⟩) := Lib.hid (by unfold itemBytes itemBytesL; rw [h, if_pos rfl, if_neg hk])
  have hk0 : (i.kind == 0) = false := by simpa using hk
  have hkk := right_kind h
  have hil := itemL_le i hsm
  have hse : (sigV i).1 ≤ 9223372036854775807 ∧ (sigV i).2 ≤ 9223372036854775807 := sig_le h hk
  have hcr := core_enter i
  clear hk
  go_enter Tryz.func38, Tryz.ntmps38
  go_wp2_with (refine wpList_load_run 50 (.tmp 1) (.pointer (some ⟨w.heap.size, 0, none⟩)) (.agg (itA i)) ?_ ?_ ?_ ?_ ?_; rfl; rfl; rfl; exact hIt _)
  refine (itemRight_any _ _ (hI' _)).mono ?_
  rintro e w' ⟨rfl, hq2⟩
  obtain ⟨y, rfl⟩ := Wd.next _ hq2
  clear hq2
  have hqy : Q w y.w := Q.trans hq1 y.q
  have hq3 := q_new y.w #[.slice none 0 0] 123
  have hnew := Bld.new y.w (B := w.heap.size) hqy.size
  have hlt : w.heap.size < y.w.heap.size := Nat.lt_of_lt_of_le hl y.q.size
  have hsi : Stay w.heap.size y.w.heap.size (y.w.alloc (.cells #[.slice none 0 0] 123)) w.heap.size := Stay.blk ((hbk.q y.q).q hq3) (by omega) (by decide)
  have hri := range_q (range_q hr y.q hl) hq3 hlt
  have hqW := Lib.hid (Q.trans hqy hq3)
  generalize hW2 : y.w.alloc (.cells #[.slice none 0 0] 123) = W2 at *
  obtain ⟨y2, hy2⟩ := Kd.first w.heap.size y.w.heap.size W2
  have hb2 : Bld w.heap.size y.w.heap.size y2.w [] := hy2 ▸ hnew
  rw [hy2] at hW2
  have c0 : ∀ z : Kd w.heap.size y.w.heap.size W2, z.w.cell? ⟨w.heap.size, 0, none⟩ = some (.int .i64 i.kind) := fun z => (z.q.range hsi hri) 0 _ rfl
  have hsl : ∀ z : Kd w.heap.size y.w.heap.size W2, w.heap.size < z.w.heap.size := fun z => Nat.lt_of_lt_of_le hsi.lt z.q.size
  have hIt2 := Kd.load (P := Tryz.prog) (ty := 50) hsi hri Tryz.underlying50 rfl (by kernel_rfl)
  have hgl := hb2.stay
  have HSI := Lib.hid hsi
  have HRI := Lib.hid hri
  clear hy2 hnew hsi hri hIt hI' hx hbk hr hq3 hqy
  go_wp2_with (first | (go_at_call 77; refine (nums_lit hb2 [i.kind] _ _ _ rfl rfl rfl (by simp; omega) (by simp)).mono ?_; rintro e w' ⟨rfl, hb3, hk1⟩; obtain ⟨y3, rfl⟩ := Kd.next _ hk1; clear hk1) | (refine wpList_load_run 50 (.tmp 1) (.pointer (some ⟨w.heap.size, 0, none⟩)) (.agg (itA i)) ?_ ?_ ?_ ?_ ?_; rfl; rfl; rfl; exact hIt2 _))
  refine (formOf_any _ _).mono ?_
  rintro e w' ⟨rfl, hq4⟩
  go_wp2_with (refine wpList_store_blk (Blk.new w' 128 form0.toArray) rfl 128 (.tmp 4) (.tmp 23) (formA i) rfl rfl rfl (by kernel_rfl) (form_all i) (Nat.le_refl 4) ?_)
  intro W hW hbel
  rw [splice_all _ _ (by rfl)] at hW
  have hQ : Q y3.w W := hbel _ _ hq4.size (Q.trans hq4 (q_new _ _ _))
  have hg3 := hb3.stay
  have hq4s := hq4.size
  have hst : Stay w.heap.size y.w.heap.size W w'.heap.size := Stay.blk hW (by omega) (by decide)
  have hsW : Stay w.heap.size y.w.heap.size W w.heap.size := (HSI.out.next y3.q).next (Tk.of_q hQ)
  have hrW := (Tk.of_q (B := w.heap.size) (g := y.w.heap.size) hQ).range (HSI.out.next y3.q) (y3.q.range HSI.out HRI.out)
  have f1 := Kd.cell (v := .func (.func (coreF i)) #[] #[]) hW hst 1 rfl
  have f2 := Kd.cell (v := .int .i64 (sigV i).1) hW hst 2 rfl
  have f3 := Kd.cell (v := .int .i64 (sigV i).2) hW hst 3 rfl
  have hIt3 := Kd.load (P := Tryz.prog) (ty := 50) hsW hrW Tryz.underlying50 rfl (by kernel_rfl)
  have HQW := Lib.hid (Tk.q (y3.q.trans (Tk.of_q hQ)) rfl hqW.out)
  obtain ⟨y4, hy4⟩ := Kd.first w.heap.size y.w.heap.size W
  have hb4 := hy4 ▸ hb3.q hQ
  rw [hy4]
  clear hW hbel hQ hst hsW hrW hy4 hb3 hb2 hIt2 c0
  go_wp2_with (refine wpList_load_run 50 (.tmp 1) (.pointer (some ⟨w.heap.size, 0, none⟩)) (.agg (itA i)) ?_ ?_ ?_ ?_ ?_; rfl; rfl; rfl; exact hIt3 _)
  have hnk := numL_bd i.kind
  refine (bcore_any _ _ _ i _ w rfl (Tk.q y4.q rfl HQW.out) hI.dec hsm hb4 (by simp; omega)).mono ?_
  rintro e w5 ⟨rfl, hb5, hk2⟩
  obtain ⟨y5, rfl⟩ := Kd.next _ hk2
  clear hk2
  go_wp2_with fail
  refine (nums_lit hb5 [(sigV i).1, (sigV i).2] _ _ _ rfl rfl rfl (by simpa using hse) (by simp; omega)).mono ?_
  rintro e w6 ⟨rfl, hb6, hk1⟩
  obtain ⟨y6, rfl⟩ := Kd.next _ hk1
  clear hk1
  obtain ⟨-, v, hgv, hown⟩ := hb6
  have cv : y6.w.cell? ⟨y.w.heap.size, 0, none⟩ = some v := hgv.cell 0
  have hcv := run_string_of_owns (P := Tryz.prog) y6.w w.heap.size 121 9 5 _ _ Tryz.underlying121 Tryz.underlying5 Tryz.underlying9 hown
  have HQ := Lib.hid (Tk.q y6.q rfl HQW.out)
  have e1 : ((([] ++ [i.kind].flatMap numL) ++ itemL i) ++ [(sigV i).1, (sigV i).2].flatMap numL) = numL i.kind ++ (itemL i ++ (numL (sigV i).1 ++ numL (sigV i).2)) := by
    simp only [List.nil_append, List.flatMap_cons, List.flatMap_nil, List.append_nil, List.append_assoc]
  rw [e1] at hcv
  clear e1 hown hgv hb5 hb4
  go_wp2
  go_ret
  exact ⟨by rw [HR.out]; rfl, HQ.out⟩

theorem itemBytes_any (i : ItemR) (w : World) (hI : ItemIn w i) : Calls Tryz.prog 38 #[.agg (itA i)] w fun e w' => e = .returned (.string (itemBytes i)) ∧ Q w w' := by
  cases h : itemRight i
  · exact bytes_no i w hI h
  · by_cases hk : i.kind = 0
    · exact bytes_act i w hI h hk
    · exact bytes_form i w hI h hk

set_option maxRecDepth 100000 in
set_option maxHeartbeats 4000000 in
theorem digest_any (i : ItemR) (w : World) (hT : Tab w) (hI : ItemIn w i) : Calls Tryz.prog 25 #[.agg (itA i)] w fun e w' => e = .returned (.string (digOf i)) ∧ Q w w' := by
  obtain ⟨w1, x, hx, hq1, hl, hr⟩ := boxed w 50 i.cells
  have hx : w.alloc (.cells (itA i) 50) = x.w := hx
  have hIt : ∀ y : Wd w1, (Instr.loadAt 50 (.pointer (some ⟨w.heap.size, 0, none⟩))).run Tryz.prog y.w = .ok (.agg (itA i)) y.w := Wd.load hl hr Tryz.underlying50 rfl (by kernel_rfl)
  have hI' : ∀ y : Wd w1, ItemIn y.w i := fun y => hI.q (Q.trans hq1 y.q)
  have hT' : ∀ y : Wd w1, Tab y.w := fun y => hT.q (Q.trans hq1 y.q)
  have hem := itemBytes_empty i
  have hle := itemBytes_le i
  clear hr
  cases h : itemRight i
  all_goals
    have HR := Lib.hid (show digOf i = if itemRight i then sha (itemBytes i) else emptyT from rfl)
    rw [h] at HR hem
    clear h
    go_enter Tryz.func25, Tryz.ntmps25
    go_wp2_with (first | (refine wpList_load_run 50 (.tmp 1) (.pointer (some ⟨w.heap.size, 0, none⟩)) (.agg (itA i)) ?_ ?_ ?_ ?_ ?_; rfl; rfl; rfl; exact hIt _) | (go_at_call 38; refine (itemBytes_any _ _ (hI' _)).mono ?_; rintro e w' ⟨rfl, hq2⟩; obtain ⟨y, rfl⟩ := Wd.next _ hq2; clear hq2) | (go_at_call 60; refine (Sha_any _ _ (hT' _) (by omega)).mono ?_; rintro e w' ⟨rfl, hq2⟩; obtain ⟨y, rfl⟩ := Wd.next _ hq2; clear hq2))
    go_ret
    exact ⟨by rw [HR.out]; rfl, Q.trans hq1 (Wd.q _)⟩
end Go.Proofs.YtflgkplneekpfaaGreatDoor.Item

namespace Go.Proofs.YtflgkplneekpfaaGreatDoor.Item
open Go.RowKit Grp Mem _root_.Go.Proofs.YtflgkplneekpfaaGreatDoor.Code Sha Sign

/-- A slice of integers, in memory. -/
def Ints (w : World) (A : Option Addr) (l : List Int) : Prop := 0 < l.length → ∃ b o, A = some ⟨b, o, none⟩ ∧ b < w.heap.size ∧ ∀ j (h : j < l.length), w.cell? ⟨b, o + j, none⟩ = some (.int .i64 l[j])
theorem Ints.q {w w' : World} {A : Option Addr} {l : List Int} (h : Ints w A l) (hq : Q w w') : Ints w' A l := fun h0 => by
  obtain ⟨b, o, e, hb, hc⟩ := h h0
  exact ⟨b, o, e, Nat.lt_of_lt_of_le hb hq.size, fun j hj => (hq.cell (p := ⟨b, o + j, none⟩) hb).trans (hc j hj)⟩
theorem ints_of {w : World} {A : Option Addr} {l : List Int} (h : RowsAt w A 1 (fun n : Int => [.int .i64 n]) l) : Ints w A l := fun h0 => by
  obtain ⟨b, o, e, hb, hc⟩ := h h0
  exact ⟨b, o, e, hb, fun j hj => by have := hc j hj 0 _ rfl; simpa using this⟩

set_option maxRecDepth 100000 in
set_option maxHeartbeats 4000000 in
theorem signed_no (A : Option Addr) (c : Nat) (sv : List Int) (i : ItemR) (w : World) (hI : ItemIn w i) (h : itemRight i = false) : Calls Tryz.prog 26 #[.slice A sv.length c, .agg (itA i)] w fun e w' => e = .returned (.bool (signedB sv i)) ∧ Q w w' := by
  obtain ⟨w1, x, hx, hq1, hl, hr⟩ := boxed w 50 i.cells
  have hx : w.alloc (.cells (itA i) 50) = x.w := hx
  have hIt : ∀ y : Wd w1, (Instr.loadAt 50 (.pointer (some ⟨w.heap.size, 0, none⟩))).run Tryz.prog y.w = .ok (.agg (itA i)) y.w := Wd.load hl hr Tryz.underlying50 rfl (by kernel_rfl)
  have hI' : ∀ y : Wd w1, ItemIn y.w i := fun y => hI.q (Q.trans hq1 y.q)
  have HR : Hid (signedB sv i = false) := Lib.hid (by unfold signedB; rw [h]; rfl)
  clear hr
  go_enter Tryz.func26, Tryz.ntmps26
  go_wp2_with (first | (refine wpList_load_run 50 (.tmp 3) (.pointer (some ⟨w.heap.size, 0, none⟩)) (.agg (itA i)) ?_ ?_ ?_ ?_ ?_; rfl; rfl; rfl; exact hIt _) | (go_at_call 12; refine (itemRight_any _ _ (hI' _)).mono ?_; rintro e w' ⟨rfl, hq2⟩; obtain ⟨y, rfl⟩ := Wd.next _ hq2; clear hq2))
  go_ret
  exact ⟨by rw [HR.out]; rfl, Q.trans hq1 (Wd.q _)⟩

set_option maxRecDepth 100000 in
set_option maxHeartbeats 4000000 in
theorem signed_free (A : Option Addr) (c : Nat) (sv : List Int) (i : ItemR) (w : World) (hI : ItemIn w i) (h : itemRight i = true) (k2 : ¬ i.kind = 2) (k3 : ¬ i.kind = 3) : Calls Tryz.prog 26 #[.slice A sv.length c, .agg (itA i)] w fun e w' => e = .returned (.bool (signedB sv i)) ∧ Q w w' := by
  obtain ⟨w1, x, hx, hq1, hl, hr⟩ := boxed w 50 i.cells
  have hx : w.alloc (.cells (itA i) 50) = x.w := hx
  have hIt : ∀ y : Wd w1, (Instr.loadAt 50 (.pointer (some ⟨w.heap.size, 0, none⟩))).run Tryz.prog y.w = .ok (.agg (itA i)) y.w := Wd.load hl hr Tryz.underlying50 rfl (by kernel_rfl)
  have hI' : ∀ y : Wd w1, ItemIn y.w i := fun y => hI.q (Q.trans hq1 y.q)
  have c0 := cell_of hl hr 0 (.int .i64 i.kind) rfl
  have e2 : (i.kind == 2) = false := by simpa using k2
  have e3 : (i.kind == 3) = false := by simpa using k3
  have HR : Hid (signedB sv i = true) := Lib.hid (by unfold signedB; rw [h, if_neg k2, if_neg k3]; rfl)
  clear hr k2 k3
  go_enter Tryz.func26, Tryz.ntmps26
  go_wp2_with (first | (refine wpList_load_run 50 (.tmp 3) (.pointer (some ⟨w.heap.size, 0, none⟩)) (.agg (itA i)) ?_ ?_ ?_ ?_ ?_; rfl; rfl; rfl; exact hIt _) | (go_at_call 12; refine (itemRight_any _ _ (hI' _)).mono ?_; rintro e w' ⟨rfl, hq2⟩; obtain ⟨y, rfl⟩ := Wd.next _ hq2; clear hq2))
  go_ret
  exact ⟨by rw [HR.out]; rfl, Q.trans hq1 (Wd.q _)⟩

/-- The server that signed. -/
def serverI (i : ItemR) : Int := if i.kind = 2 then i.ballot.server else i.dec.server
theorem server_bd {i : ItemR} (h : itemRight i = true) (hk : i.kind = 2 ∨ i.kind = 3) : 0 ≤ serverI i ∧ serverI i ≤ 19 := by
  unfold itemRight at h
  rw [if_neg (by omega), if_neg (by omega)] at h
  unfold serverI
  rcases hk with hk | hk
  · rw [if_pos hk, Bool.and_eq_true] at h
    rw [if_pos hk]
    simp only [ballotRight, Bool.and_eq_true] at h
    exact within_facts h.1.1
  · rw [if_neg (by omega), if_pos hk, Bool.and_eq_true] at h
    rw [if_neg (by omega)]
    simp only [decRight, Bool.and_eq_true] at h
    exact within_facts h.1.1
set_option maxRecDepth 100000 in
set_option maxHeartbeats 4000000 in
theorem signed_by (A : Option Addr) (c : Nat) (sv : List Int) (i : ItemR) (w : World) (hT : Tab w) (hI : ItemIn w i) (hS : Ints w A sv) (hsl : sv.length ≤ maxLen) (h : itemRight i = true) (hk : i.kind = 2 ∨ i.kind = 3) :
    Calls Tryz.prog 26 #[.slice A sv.length c, .agg (itA i)] w fun e w' => e = .returned (.bool (signedB sv i)) ∧ Q w w' := by
  obtain ⟨w1, x, hx, hq1, hl, hr⟩ := boxed w 50 i.cells
  have hx : w.alloc (.cells (itA i) 50) = x.w := hx
  have hIt : ∀ y : Wd w1, (Instr.loadAt 50 (.pointer (some ⟨w.heap.size, 0, none⟩))).run Tryz.prog y.w = .ok (.agg (itA i)) y.w := Wd.load hl hr Tryz.underlying50 rfl (by kernel_rfl)
  have hI' : ∀ y : Wd w1, ItemIn y.w i := fun y => hI.q (Q.trans hq1 y.q)
  have hT' : ∀ y : Wd w1, Tab y.w := fun y => hT.q (Q.trans hq1 y.q)
  have hS' : ∀ y : Wd w1, Ints y.w A sv := fun y => hS.q (Q.trans hq1 y.q)
  have hsm := small_right h (by omega)
  have c0 := cell_of hl hr 0 (.int .i64 i.kind) rfl
  have c30 := cell_of hl hr 30 (.int .i64 i.ballot.server) rfl
  have c37 := cell_of hl hr 37 (.int .i64 i.dec.server) rfl
  have hb := server_bd h hk
  have hR0 : signedB sv i = (decide (serverI i < sv.length) && verI (sv.getD (serverI i).toNat 0) (messageB i) (sigV i)) := by
    unfold signedB serverI
    rw [h, Bool.true_and]
    rcases hk with hk | hk
    · rw [if_pos hk, if_pos hk]
    · rw [if_neg (by omega), if_pos hk, if_neg (by omega)]
  have HR := Lib.hid hR0
  unfold maxLen at hsl
  clear hr hR0
  have hsv : (i.kind == 2) = true ∧ serverI i = i.ballot.server ∨ (i.kind == 2) = false ∧ (i.kind == 3) = true ∧ serverI i = i.dec.server := by
    unfold serverI
    rcases hk with hk | hk
    · exact .inl ⟨by simpa using hk, if_pos hk⟩
    · exact .inr ⟨by simp [hk], by simp [hk], if_neg (by omega)⟩
  clear hk
  generalize serverI i = s at *
  by_cases hlt : s.toNat < sv.length
  · obtain ⟨b, o, rfl, hbl, hcell⟩ := hS' ⟨w1, Q.refl _⟩ (by omega)
    have hbl : b < w1.heap.size := hbl
    have hce : ∀ y : Wd w1, y.w.cell? ⟨b, o + s.toNat, none⟩ = some (.int .i64 sv[s.toNat]) := fun y => (y.q.cell (p := ⟨b, o + s.toNat, none⟩) hbl).trans (hcell _ hlt)
    have hd : decide (s < (sv.length : Int)) = true := by rw [decide_eq_true_eq]; omega
    have HG := Lib.hid (show sv.getD s.toNat 0 = sv[s.toNat] by simp [hlt])
    clear hcell hS'
    rcases hsv with ⟨e1, rfl⟩ | ⟨e1, e2, rfl⟩
    all_goals
      go_enter Tryz.func26, Tryz.ntmps26
      go_wp2_with (first | (refine wpList_load_run 50 (.tmp 3) (.pointer (some ⟨w.heap.size, 0, none⟩)) (.agg (itA i)) ?_ ?_ ?_ ?_ ?_; rfl; rfl; rfl; exact hIt _) | (go_at_call 12; refine (itemRight_any _ _ (hI' _)).mono ?_; rintro e w' ⟨rfl, hq2⟩; obtain ⟨y, rfl⟩ := Wd.next _ hq2; clear hq2))
      refine wp_region_wd y (by kernel_rfl) (by kernel_rfl) ?_
      repeat (first | (refine wpQuiet_load_run 50 (.tmp 3) (.pointer (some ⟨w.heap.size, 0, none⟩)) (.agg (itA i)) ?_ ?_ ?_ ?_ ?_; rfl; rfl; rfl; exact hIt; dsimp only [Act.put]; simp only [List.setIfInBounds_toArray, List.set_cons_succ, List.set_cons_zero]) | go_big_quiet_step (exact Wd.call _ (signedBy_any _ _ _ (hT' _) (hI' _) hsm)))
      refine wpQuiet_nil ?_
      rintro w'' ⟨z, rfl⟩
      go_wp2
      go_ret
      exact ⟨by rw [HR.out, HG.out, hd]; rfl, Q.trans hq1 z.q⟩
  · have hd : decide (s < (sv.length : Int)) = false := by rw [decide_eq_false_iff_not]; omega
    rcases hsv with ⟨e1, rfl⟩ | ⟨e1, e2, rfl⟩
    all_goals
      go_enter Tryz.func26, Tryz.ntmps26
      go_wp2_with (first | (refine wpList_load_run 50 (.tmp 3) (.pointer (some ⟨w.heap.size, 0, none⟩)) (.agg (itA i)) ?_ ?_ ?_ ?_ ?_; rfl; rfl; rfl; exact hIt _) | (go_at_call 12; refine (itemRight_any _ _ (hI' _)).mono ?_; rintro e w' ⟨rfl, hq2⟩; obtain ⟨y, rfl⟩ := Wd.next _ hq2; clear hq2))
      refine wp_region_wd y (by kernel_rfl) (by kernel_rfl) ?_
      repeat (go_big_quiet_step (fail))
      refine wpQuiet_nil ?_
      rintro w'' ⟨z, rfl⟩
      go_wp2
      go_ret
      exact ⟨by rw [HR.out, hd]; rfl, Q.trans hq1 z.q⟩
theorem signed_any (A : Option Addr) (c : Nat) (sv : List Int) (i : ItemR) (w : World) (hT : Tab w) (hI : ItemIn w i) (hS : Ints w A sv) (hsl : sv.length ≤ maxLen) :
    Calls Tryz.prog 26 #[.slice A sv.length c, .agg (itA i)] w fun e w' => e = .returned (.bool (signedB sv i)) ∧ Q w w' := by
  cases h : itemRight i
  · exact signed_no A c sv i w hI h
  · by_cases k2 : i.kind = 2
    · exact signed_by A c sv i w hT hI hS hsl h (.inl k2)
    · by_cases k3 : i.kind = 3
      · exact signed_by A c sv i w hT hI hS hsl h (.inr k3)
      · exact signed_free A c sv i w hI h k2 k3

def itBallot (b : BallotV) : ItemR := ⟨2, act0, claim0, b, dec0⟩
def itClaim (c : ClaimV) : ItemR := ⟨1, act0, c, ballot0, dec0⟩
theorem itBallot_in (b : BallotV) (w : World) : ItemIn w (itBallot b) := ⟨act0_in w, dec0_in w⟩
theorem itClaim_in (c : ClaimV) (w : World) : ItemIn w (itClaim c) := ⟨act0_in w, dec0_in w⟩
set_option maxRecDepth 100000 in
theorem build_ballot (b : BallotV) (w : World) : (Instr.build 50 #[(0, .int .i64 2), (3, .agg (ballotA b))]).run Tryz.prog w = .ok (.agg (itA (itBallot b))) w := by kernel_rfl
set_option maxRecDepth 100000 in
set_option maxHeartbeats 1000000 in
theorem ofBallot_any (b : BallotV) (w : World) : Calls Tryz.prog 86 #[.agg (ballotA b)] w fun e w' => e = .returned (.agg (itA (itBallot b))) ∧ Q w w' := by
  obtain ⟨w1, x, hx, hq1, hl, hr⟩ := boxed w 46 b.cells
  have hx : w.alloc (.cells (ballotA b) 46) = x.w := hx
  have hLd : ∀ y : Wd w1, (Instr.loadAt 46 (.pointer (some ⟨w.heap.size, 0, none⟩))).run Tryz.prog y.w = .ok (.agg (ballotA b)) y.w := Wd.load hl hr Tryz.underlying46 rfl (by kernel_rfl)
  have hLd2 : ∀ (cs : Array Value) (t : TypeId), (Instr.loadAt 46 (.pointer (some ⟨w.heap.size, 0, none⟩))).run Tryz.prog (x.w.alloc (.cells cs t)) = .ok (.agg (ballotA b)) (x.w.alloc (.cells cs t)) := fun cs t => hLd ⟨_, Q.trans x.q (q_new x.w cs t)⟩
  have hsx : w.heap.size < x.w.heap.size := Nat.lt_of_lt_of_le hl x.q.size
  have hqx := Lib.hid (Q.trans hq1 x.q)
  clear hr
  go_enter Tryz.func86, Tryz.ntmps86
  go_upto_region 1 with (fail)
  refine wp_region_lit ?_
  refine wpList_load_run 46 (.tmp 1) (.pointer (some ⟨w.heap.size, 0, none⟩)) (.agg (ballotA b)) rfl rfl rfl (hLd2 _ _) ?_
  dsimp only [Act.put]
  simp only [List.setIfInBounds_toArray, List.set_cons_succ, List.set_cons_zero]
  refine wpList_build_run 50 _ #[(0, .int .i64 2), (3, .agg (ballotA b))] (.agg (itA (itBallot b))) rfl rfl (by simp only [List.map_toArray, List.map_cons, List.map_nil]; rfl) (build_ballot b _) ?_
  dsimp only [Act.put]
  simp only [List.setIfInBounds_toArray, List.set_cons_succ, List.set_cons_zero]
  refine wpList_store_blk (Blk.new x.w 50 item0.cells.toArray) rfl 50 (.tmp 2) (.tmp 4) (itBallot b).cells rfl rfl rfl (by kernel_rfl) (it_all _) (Nat.le_refl 49) ?_
  intro W hW hbel
  rw [splice_all _ _ (by rfl)] at hW
  have hQ : Q w W := hbel _ _ (by omega) (Q.trans hqx.out (q_new _ _ _))
  clear hbel hLd hLd2 hx
  go_wp2_with fail
  exact bodyPost_ret (results_cell_row rfl _ _ x.w.heap.size 50 (itA (itBallot b)) (0, 0) _ rfl hW Tryz.underlying50 rfl (by kernel_rfl)) rfl ⟨rfl, hQ⟩
set_option maxRecDepth 100000 in
theorem build_claim (b : ClaimV) (w : World) : (Instr.build 50 #[(0, .int .i64 1), (2, .agg (claimA b))]).run Tryz.prog w = .ok (.agg (itA (itClaim b))) w := by kernel_rfl
set_option maxRecDepth 100000 in
set_option maxHeartbeats 1000000 in
theorem ofClaim_any (b : ClaimV) (w : World) : Calls Tryz.prog 13 #[.agg (claimA b)] w fun e w' => e = .returned (.agg (itA (itClaim b))) ∧ Q w w' := by
  obtain ⟨w1, x, hx, hq1, hl, hr⟩ := boxed w 37 b.cells
  have hx : w.alloc (.cells (claimA b) 37) = x.w := hx
  have hLd : ∀ y : Wd w1, (Instr.loadAt 37 (.pointer (some ⟨w.heap.size, 0, none⟩))).run Tryz.prog y.w = .ok (.agg (claimA b)) y.w := Wd.load hl hr Tryz.underlying37 rfl (by kernel_rfl)
  have hLd2 : ∀ (cs : Array Value) (t : TypeId), (Instr.loadAt 37 (.pointer (some ⟨w.heap.size, 0, none⟩))).run Tryz.prog (x.w.alloc (.cells cs t)) = .ok (.agg (claimA b)) (x.w.alloc (.cells cs t)) := fun cs t => hLd ⟨_, Q.trans x.q (q_new x.w cs t)⟩
  have hsx : w.heap.size < x.w.heap.size := Nat.lt_of_lt_of_le hl x.q.size
  have hqx := Lib.hid (Q.trans hq1 x.q)
  clear hr
  go_enter Tryz.func13, Tryz.ntmps13
  go_upto_region 1 with (fail)
  refine wp_region_lit ?_
  refine wpList_load_run 37 (.tmp 1) (.pointer (some ⟨w.heap.size, 0, none⟩)) (.agg (claimA b)) rfl rfl rfl (hLd2 _ _) ?_
  dsimp only [Act.put]
  simp only [List.setIfInBounds_toArray, List.set_cons_succ, List.set_cons_zero]
  refine wpList_build_run 50 _ #[(0, .int .i64 1), (2, .agg (claimA b))] (.agg (itA (itClaim b))) rfl rfl (by simp only [List.map_toArray, List.map_cons, List.map_nil]; rfl) (build_claim b _) ?_
  dsimp only [Act.put]
  simp only [List.setIfInBounds_toArray, List.set_cons_succ, List.set_cons_zero]
  refine wpList_store_blk (Blk.new x.w 50 item0.cells.toArray) rfl 50 (.tmp 2) (.tmp 4) (itClaim b).cells rfl rfl rfl (by kernel_rfl) (it_all _) (Nat.le_refl 49) ?_
  intro W hW hbel
  rw [splice_all _ _ (by rfl)] at hW
  have hQ : Q w W := hbel _ _ (by omega) (Q.trans hqx.out (q_new _ _ _))
  clear hbel hLd hLd2 hx
  go_wp2_with fail
  exact bodyPost_ret (results_cell_row rfl _ _ x.w.heap.size 50 (itA (itClaim b)) (0, 0) _ rfl hW Tryz.underlying50 rfl (by kernel_rfl)) rfl ⟨rfl, hQ⟩
end Go.Proofs.YtflgkplneekpfaaGreatDoor.Item

namespace Go.Proofs.YtflgkplneekpfaaGreatDoor.Item
open Go.RowKit Grp Mem _root_.Go.Proofs.YtflgkplneekpfaaGreatDoor.Code Sha Sign

/-- A ballot with the signature by a key. -/
def signBallot (k : Int × Int) (b : BallotV) : BallotV := { b with e := (sigOf k (messageB (itBallot b))).1, s := (sigOf k (messageB (itBallot b))).2 }
theorem signBallot_cells (k : Int × Int) (b : BallotV) : splice b.cells 5 [.int .i64 (sigOf k (messageB (itBallot b))).1, .int .i64 (sigOf k (messageB (itBallot b))).2] = (signBallot k b).cells := rfl

end Go.Proofs.YtflgkplneekpfaaGreatDoor.Item

namespace Go.Proofs.YtflgkplneekpfaaGreatDoor.Known
open Go.RowKit Grp Mem _root_.Go.Proofs.YtflgkplneekpfaaGreatDoor.Code Sha Sign _root_.Go.Proofs.YtflgkplneekpfaaGreatDoor.Item

def digs (l : List ItemR) : List ByteArray := l.map digOf
def cutK (d : ByteArray) (l : List ByteArray) : Nat := (l.takeWhile fun o => !lessB d o).length
def insK (l : List ItemR) (x : ItemR) : List ItemR := l.take (cutK (digOf x) (digs l)) ++ x :: l.drop (cutK (digOf x) (digs l))
def hasD (l : List ItemR) (d : ByteArray) : Bool := (digs l).any fun o => decide (o = d)
def addOk (sv : List Int) (l : List ItemR) (x : ItemR) : Bool := signedB sv x && !hasD l (digOf x)
def addK (sv : List Int) (l : List ItemR) (x : ItemR) : List ItemR := if addOk sv l x then insK l x else l
def fillK (sv : List Int) (l : List ItemR) (k : List ItemR) : List ItemR := k.foldl (addK sv) l

/-! ### Digests in order -/
def Asc (l : List ByteArray) : Prop := l.Pairwise fun a b => lessB a b = true
def insD : List ByteArray → ByteArray → List ByteArray
  | [], d => [d]
  | o :: r, d => if lessB d o then d :: o :: r else o :: insD r d
theorem insD_eq (d : ByteArray) : ∀ l, insD l d = l.take (cutK d l) ++ d :: l.drop (cutK d l)
  | [] => rfl
  | o :: r => by
    unfold insD cutK
    cases h : lessB d o
    · simp only [Bool.false_eq_true, if_false, List.takeWhile_cons, h, Bool.not_false, if_true, List.length_cons, List.take_succ_cons, List.drop_succ_cons, List.cons_append]
      rw [insD_eq d r]
      rfl
    · simp [List.takeWhile_cons, h]
theorem digs_insK (l : List ItemR) (x : ItemR) : digs (insK l x) = insD (digs l) (digOf x) := by
  rw [insD_eq]
  unfold insK digs
  rw [List.map_append, List.map_cons, List.map_take, List.map_drop]
theorem mem_insD (d e : ByteArray) : ∀ l, e ∈ insD l d ↔ e = d ∨ e ∈ l
  | [] => by simp [insD]
  | o :: r => by
    unfold insD
    split
    · simp
    · rw [List.mem_cons, mem_insD d e r, List.mem_cons]
      constructor
      · rintro (h | h | h)
        · exact .inr (.inl h)
        · exact .inl h
        · exact .inr (.inr h)
      · rintro (h | h | h)
        · exact .inr (.inl h)
        · exact .inl h
        · exact .inr (.inr h)
theorem asc_insD (d : ByteArray) : ∀ l, Asc l → d ∉ l → Asc (insD l d)
  | [], _, _ => List.pairwise_cons.2 ⟨by simp, List.Pairwise.nil⟩
  | o :: r, h, hd => by
    obtain ⟨h1, h2⟩ := List.pairwise_cons.1 h
    unfold insD
    cases hl : lessB d o
    · have hod : lessB o d = true := by
        rcases lessB_three o d with h3 | h3 | h3
        · exact h3
        · exact absurd (List.mem_cons.2 (.inl h3.symm)) hd
        · rw [hl] at h3; cases h3
      refine List.pairwise_cons.2 ⟨fun e he => ?_, asc_insD d r h2 fun hm => hd (List.mem_cons_of_mem _ hm)⟩
      rcases (mem_insD d e r).1 he with rfl | he
      · exact hod
      · exact h1 e he
    · refine List.pairwise_cons.2 ⟨fun e he => ?_, h⟩
      rcases List.mem_cons.1 he with rfl | he
      · exact hl
      · exact lessB_trans hl (h1 e he)
/-! ### Adding and filling -/
theorem hasD_iff (l : List ItemR) (d : ByteArray) : hasD l d = true ↔ d ∈ digs l := by
  unfold hasD
  rw [List.any_eq_true]
  constructor
  · rintro ⟨x, hx, he⟩
    rw [decide_eq_true_eq] at he
    exact he ▸ hx
  · intro h
    exact ⟨d, h, by simp⟩
theorem hasD_false (l : List ItemR) (d : ByteArray) : hasD l d = false ↔ d ∉ digs l := by
  rw [← hasD_iff]
  simp
/-- What every set that was filled from an empty one is. -/
structure Filled (sv : List Int) (l : List ItemR) : Prop where
  asc : Asc (digs l)
  all : ∀ x ∈ l, signedB sv x = true
theorem Filled.nil (sv : List Int) : Filled sv [] := ⟨List.Pairwise.nil, by simp⟩
theorem mem_insK (l : List ItemR) (x y : ItemR) : y ∈ insK l x ↔ y = x ∨ y ∈ l := by
  unfold insK
  have h : y ∈ l ↔ y ∈ l.take (cutK (digOf x) (digs l)) ∨ y ∈ l.drop (cutK (digOf x) (digs l)) := by rw [← List.mem_append, List.take_append_drop]
  rw [List.mem_append, List.mem_cons, h]
  constructor
  · rintro (h | h | h)
    · exact .inr (.inl h)
    · exact .inl h
    · exact .inr (.inr h)
  · rintro (h | h | h)
    · exact .inr (.inl h)
    · exact .inl h
    · exact .inr (.inr h)
theorem Filled.add {sv : List Int} {l : List ItemR} (h : Filled sv l) (x : ItemR) : Filled sv (addK sv l x) := by
  unfold addK
  cases ha : addOk sv l x
  · simpa using h
  · rw [if_pos rfl]
    unfold addOk at ha
    rw [Bool.and_eq_true, Bool.not_eq_true', hasD_false] at ha
    refine ⟨?_, fun y hy => ?_⟩
    · rw [digs_insK]
      exact asc_insD _ _ h.asc ha.2
    · rcases (mem_insK l x y).1 hy with rfl | hy
      · exact ha.1
      · exact h.all y hy
theorem Filled.fill {sv : List Int} : ∀ (k : List ItemR) {l : List ItemR}, Filled sv l → Filled sv (fillK sv l k)
  | [], _, h => h
  | x :: k, l, h => Filled.fill (sv := sv) k (l := addK sv l x) (h.add x)
theorem fillK_snoc (sv : List Int) (l k : List ItemR) (x : ItemR) : fillK sv l (k ++ [x]) = addK sv (fillK sv l k) x := by simp [fillK]
theorem addK_length (sv : List Int) (l : List ItemR) (x : ItemR) : (addK sv l x).length = l.length + if addOk sv l x then 1 else 0 := by
  unfold addK
  cases ha : addOk sv l x
  · simp
  · rw [if_pos rfl, if_pos rfl]
    unfold insK
    rw [List.length_append, List.length_cons, ← Nat.add_assoc, ← List.length_append, List.take_append_drop]
theorem fillK_length (sv : List Int) : ∀ (k l : List ItemR), (fillK sv l k).length ≤ l.length + k.length
  | [], l => Nat.le_refl _
  | x :: k, l => by
    have h := fillK_length sv k (addK sv l x)
    have h2 := addK_length sv l x
    rw [List.length_cons]
    show (fillK sv (addK sv l x) k).length ≤ _
    split at h2 <;> omega
/-! ### What the laws ask of a filling -/
/-! ### Right sets, digests of sets -/
def publicsB (l : List Int) : Bool := l.all publicB
def chainB : ByteArray → List ByteArray → Bool
  | _, [] => true
  | a, b :: r => lessB a b && chainB b r
def rightK (sv : List Int) (l : List ItemR) : Bool := decide (sv.length ≤ 20) && (publicsB sv && (l.all (signedB sv) && chainB emptyT (digs l)))
theorem chainB_asc : ∀ (l : List ByteArray) (a : ByteArray), chainB a l = true → Asc (a :: l)
  | [], a, _ => List.pairwise_cons.2 ⟨by simp, List.Pairwise.nil⟩
  | b :: r, a, h => by
    rw [chainB, Bool.and_eq_true] at h
    have ih := chainB_asc r b h.2
    refine List.pairwise_cons.2 ⟨fun c hc => ?_, ih⟩
    rcases List.mem_cons.1 hc with rfl | hc
    · exact h.1
    · exact lessB_trans h.1 ((List.pairwise_cons.1 ih).1 c hc)
theorem rightK_filled {sv : List Int} {l : List ItemR} (h : rightK sv l = true) : Filled sv l ∧ sv.length ≤ 20 ∧ publicsB sv = true := by
  unfold rightK at h
  simp only [Bool.and_eq_true, decide_eq_true_eq] at h
  exact ⟨⟨(List.pairwise_cons.1 (chainB_asc _ _ h.2.2.2)).2, fun x hx => List.all_eq_true.1 h.2.2.1 x hx⟩, h.1, h.2.1⟩
/-- The zigzag varint of an integer, and the list of them (code.Nums). -/
def zigN (n : Int) : Int := if n < 0 then -2 * n - 1 else 2 * n
def intL (n : Int) : List UInt8 := if n < -2305843009213693952 ∨ 2305843009213693952 < n then [] else numL (zigN n)
def numsL (l : List Int) : List UInt8 := numL l.length ++ l.flatMap intL
def setL (sv : List Int) (l : List ItemR) : List UInt8 := numsL sv ++ listL (digs l)
def setDig (sv : List Int) (l : List ItemR) : ByteArray := sha ⟨(setL sv l).toArray⟩
end Go.Proofs.YtflgkplneekpfaaGreatDoor.Known

namespace Go.Proofs.YtflgkplneekpfaaGreatDoor.Item
open Go.RowKit Go.ChangeShapes Go.WideShapes Go.Deep Grp Mem _root_.Go.Proofs.YtflgkplneekpfaaGreatDoor.Code Sha Sign

theorem strs_of {w : World} {A : Option Addr} {l : List ByteArray} (h : RowsAt w A 1 (fun s : ByteArray => [.string s]) l) : Strs w A l := fun h0 => by
  obtain ⟨b, o, e, hb, hc⟩ := h h0
  exact ⟨b, o, e, hb, fun j hj => by have := hc j hj 0 _ rfl; simpa using this⟩
theorem wrs_of {w : World} {A : Option Addr} {l : List WrapV} (h : RowsAt w A 5 WrapV.cells l) : Wrs w A l := fun h0 => by
  obtain ⟨b, o, e, hb, hc⟩ := h h0
  exact ⟨b, o, e, hb, fun j hj => hc j hj⟩

instance : Inhabited ItemR := ⟨item0⟩
instance : Inhabited WrapV := ⟨⟨0, 0, emptyT, emptyT, emptyT⟩⟩
theorem drop_step {cs p : List Value} {o k : Nat} (h : (cs.drop o).take k = p) : cs.drop o = p ++ cs.drop (o + k) := by
  rw [← h, ← List.drop_drop, List.take_append_drop]
section
variable {H : Type} {enc : TypeId × Value → H} {W : World} {base : Nat} {spare : Nat → Bool} {held : Bool}
theorem field_opens {α : Type} {n : Nat} {xs : List (DataW H × List MemPlace)} {cs : List Value} {i off k : Nat} {t : TypeId} {f : α → List Value} {G : α → Prop}
    (hf : DataW.trod enc Tryz.prog W base spare held n t ((cs.drop off).take (Tryz.prog.cellsOf t)) = xs[i]?) (hi : i < xs.length) (hk : Tryz.prog.cellsOf t = k) (hO : Opens enc Tryz.prog W base spare held t f G) : ∃ a, (cs.drop off).take k = f a ∧ G a := by
  rw [hk, List.getElem?_eq_getElem hi] at hf
  exact hO _ _ _ hf
theorem k_int : Tryz.prog.cellsOf 3 = 1 := by kernel_rfl
theorem k_str : Tryz.prog.cellsOf 9 = 1 := by kernel_rfl
theorem o_int : Opens enc Tryz.prog W base spare held 3 (fun n : Int => [.int .i64 n]) I64 := opens_int Tryz.underlying3
theorem o_str : Opens enc Tryz.prog W base spare held 9 (fun s : ByteArray => [.string s]) fun s => s.size ≤ maxLen := opens_str Tryz.underlying9
theorem k_strs : Tryz.prog.cellsOf 39 = 1 := by kernel_rfl
theorem o_strs : Opens enc Tryz.prog W base spare held 39 SliceR.cells (SliceR.Good W 1 (fun s : ByteArray => [.string s]) fun s => s.size ≤ maxLen) := opens_slice Tryz.underlying39 k_str (by decide) o_str

theorem k_box : Tryz.prog.cellsOf 41 = 3 := by kernel_rfl
set_option maxHeartbeats 1000000 in
theorem o_box : Opens enc Tryz.prog W base spare held 41 (fun b : ByteArray × ByteArray × ByteArray => [.string b.1, .string b.2.1, .string b.2.2]) (fun b => SOk [b.1, b.2.1, b.2.2]) := fun fuel cs x h => by
  obtain ⟨xs, n, -, -, hcl, hxl, hf⟩ := DataW.trod_struct Tryz.underlying41 h
  rw [k_box] at hcl
  have hxl : xs.length = 3 := hxl
  obtain ⟨n1, e0, g0⟩ := field_opens (off := 0) (show DataW.trod enc Tryz.prog W base spare held n 9 ((cs.drop 0).take (Tryz.prog.cellsOf 9)) = xs[0]? from hf 0 _ rfl) (by omega) k_str o_str
  obtain ⟨n2, e1, g1⟩ := field_opens (off := 1) (show DataW.trod enc Tryz.prog W base spare held n 9 ((cs.drop 1).take (Tryz.prog.cellsOf 9)) = xs[1]? from hf 1 _ rfl) (by omega) k_str o_str
  obtain ⟨n3, e2, g2⟩ := field_opens (off := 2) (show DataW.trod enc Tryz.prog W base spare held n 9 ((cs.drop 2).take (Tryz.prog.cellsOf 9)) = xs[2]? from hf 2 _ rfl) (by omega) k_str o_str
  have t3 : cs.drop 3 = [] := List.drop_eq_nil_of_le (by omega)
  have t2 := drop_step e2
  simp only [Nat.reduceAdd] at t2
  rw [t3] at t2
  have t1 := drop_step e1
  simp only [Nat.reduceAdd] at t1
  rw [t2] at t1
  have t0 := drop_step e0
  simp only [Nat.reduceAdd] at t0
  rw [t1] at t0
  rw [List.drop_zero] at t0
  refine ⟨(n1, n2, n3), by rw [t0]; rfl, ?_⟩
  simp only [SOk, List.mem_cons, List.not_mem_nil, or_false]
  rintro s (rfl | rfl | rfl) <;> assumption
theorem k_sig : Tryz.prog.cellsOf 35 = 2 := by kernel_rfl
set_option maxHeartbeats 1000000 in
theorem o_sig : Opens enc Tryz.prog W base spare held 35 (fun b : Int × Int => [.int .i64 b.1, .int .i64 b.2]) (fun b => NOk [b.1, b.2]) := fun fuel cs x h => by
  obtain ⟨xs, n, -, -, hcl, hxl, hf⟩ := DataW.trod_struct Tryz.underlying35 h
  rw [k_sig] at hcl
  have hxl : xs.length = 2 := hxl
  obtain ⟨n1, e0, g0⟩ := field_opens (off := 0) (show DataW.trod enc Tryz.prog W base spare held n 3 ((cs.drop 0).take (Tryz.prog.cellsOf 3)) = xs[0]? from hf 0 _ rfl) (by omega) k_int o_int
  obtain ⟨n2, e1, g1⟩ := field_opens (off := 1) (show DataW.trod enc Tryz.prog W base spare held n 3 ((cs.drop 1).take (Tryz.prog.cellsOf 3)) = xs[1]? from hf 1 _ rfl) (by omega) k_int o_int
  have t2 : cs.drop 2 = [] := List.drop_eq_nil_of_le (by omega)
  have t1 := drop_step e1
  simp only [Nat.reduceAdd] at t1
  rw [t2] at t1
  have t0 := drop_step e0
  simp only [Nat.reduceAdd] at t0
  rw [t1] at t0
  rw [List.drop_zero] at t0
  refine ⟨(n1, n2), by rw [t0]; rfl, ?_⟩
  simp only [NOk, List.mem_cons, List.not_mem_nil, or_false]
  rintro s (rfl | rfl) <;> assumption
theorem k_wrap : Tryz.prog.cellsOf 190 = 5 := by kernel_rfl
set_option maxHeartbeats 1000000 in
theorem o_wrap : Opens enc Tryz.prog W base spare held 190 WrapV.cells WrapOk := fun fuel cs x h => by
  obtain ⟨xs, n, -, -, hcl, hxl, hf⟩ := DataW.trod_struct Tryz.underlying190 h
  rw [k_wrap] at hcl
  have hxl : xs.length = 3 := hxl
  obtain ⟨n1, e0, g0⟩ := field_opens (off := 0) (show DataW.trod enc Tryz.prog W base spare held n 3 ((cs.drop 0).take (Tryz.prog.cellsOf 3)) = xs[0]? from hf 0 _ rfl) (by omega) k_int o_int
  obtain ⟨n2, e1, g1⟩ := field_opens (off := 1) (show DataW.trod enc Tryz.prog W base spare held n 3 ((cs.drop 1).take (Tryz.prog.cellsOf 3)) = xs[1]? from hf 1 _ rfl) (by omega) k_int o_int
  obtain ⟨b, e2, g2⟩ := field_opens (off := 2) (show DataW.trod enc Tryz.prog W base spare held n 41 ((cs.drop 2).take (Tryz.prog.cellsOf 41)) = xs[2]? from hf 2 _ rfl) (by omega) k_box o_box
  have t3 : cs.drop 5 = [] := List.drop_eq_nil_of_le (by omega)
  have t2 := drop_step e2
  simp only [Nat.reduceAdd] at t2
  rw [t3] at t2
  have t1 := drop_step e1
  simp only [Nat.reduceAdd] at t1
  rw [t2] at t1
  have t0 := drop_step e0
  simp only [Nat.reduceAdd] at t0
  rw [t1] at t0
  rw [List.drop_zero] at t0
  refine ⟨⟨n1, n2, b.1, b.2.1, b.2.2⟩, by rw [t0]; rfl, ?_⟩
  refine ⟨?_, g2⟩
  simp only [NOk, List.mem_cons, List.not_mem_nil, or_false]
  rintro s (rfl | rfl) <;> assumption
theorem k_wraps : Tryz.prog.cellsOf 42 = 1 := by kernel_rfl
theorem o_wraps : Opens enc Tryz.prog W base spare held 42 SliceR.cells (SliceR.Good W 5 WrapV.cells WrapOk) := opens_slice Tryz.underlying42 k_wrap (by decide) o_wrap

theorem k_act : Tryz.prog.cellsOf 44 = 20 := by kernel_rfl
set_option maxHeartbeats 1000000 in
theorem o_act : Opens enc Tryz.prog W base spare held 44 ActR.cells (fun a => ActIn W a ∧ ActOk a) := fun fuel cs x h => by
  obtain ⟨xs, n, -, -, hcl, hxl, hf⟩ := DataW.trod_struct Tryz.underlying44 h
  rw [k_act] at hcl
  have hxl : xs.length = 17 := hxl
  obtain ⟨author, e0, g0⟩ := field_opens (off := 0) (show DataW.trod enc Tryz.prog W base spare held n 9 ((cs.drop 0).take (Tryz.prog.cellsOf 9)) = xs[0]? from hf 0 _ rfl) (by omega) k_str o_str
  obtain ⟨seq, e1, g1⟩ := field_opens (off := 1) (show DataW.trod enc Tryz.prog W base spare held n 3 ((cs.drop 1).take (Tryz.prog.cellsOf 3)) = xs[1]? from hf 1 _ rfl) (by omega) k_int o_int
  obtain ⟨prev, e2, g2⟩ := field_opens (off := 2) (show DataW.trod enc Tryz.prog W base spare held n 9 ((cs.drop 2).take (Tryz.prog.cellsOf 9)) = xs[2]? from hf 2 _ rfl) (by omega) k_str o_str
  obtain ⟨kind, e3, g3⟩ := field_opens (off := 3) (show DataW.trod enc Tryz.prog W base spare held n 3 ((cs.drop 3).take (Tryz.prog.cellsOf 3)) = xs[3]? from hf 3 _ rfl) (by omega) k_int o_int
  obtain ⟨time, e4, g4⟩ := field_opens (off := 4) (show DataW.trod enc Tryz.prog W base spare held n 3 ((cs.drop 4).take (Tryz.prog.cellsOf 3)) = xs[4]? from hf 4 _ rfl) (by omega) k_int o_int
  obtain ⟨object, e5, g5⟩ := field_opens (off := 5) (show DataW.trod enc Tryz.prog W base spare held n 9 ((cs.drop 5).take (Tryz.prog.cellsOf 9)) = xs[5]? from hf 5 _ rfl) (by omega) k_str o_str
  obtain ⟨target, e6, g6⟩ := field_opens (off := 6) (show DataW.trod enc Tryz.prog W base spare held n 9 ((cs.drop 6).take (Tryz.prog.cellsOf 9)) = xs[6]? from hf 6 _ rfl) (by omega) k_str o_str
  obtain ⟨scope, e7, g7⟩ := field_opens (off := 7) (show DataW.trod enc Tryz.prog W base spare held n 3 ((cs.drop 7).take (Tryz.prog.cellsOf 3)) = xs[7]? from hf 7 _ rfl) (by omega) k_int o_int
  obtain ⟨group, e8, g8⟩ := field_opens (off := 8) (show DataW.trod enc Tryz.prog W base spare held n 9 ((cs.drop 8).take (Tryz.prog.cellsOf 9)) = xs[8]? from hf 8 _ rfl) (by omega) k_str o_str
  obtain ⟨to, e9, g9⟩ := field_opens (off := 9) (show DataW.trod enc Tryz.prog W base spare held n 39 ((cs.drop 9).take (Tryz.prog.cellsOf 39)) = xs[9]? from hf 9 _ rfl) (by omega) k_strs o_strs
  obtain ⟨text, e10, g10⟩ := field_opens (off := 10) (show DataW.trod enc Tryz.prog W base spare held n 9 ((cs.drop 10).take (Tryz.prog.cellsOf 9)) = xs[10]? from hf 10 _ rfl) (by omega) k_str o_str
  obtain ⟨b, e11, g11⟩ := field_opens (off := 11) (show DataW.trod enc Tryz.prog W base spare held n 41 ((cs.drop 11).take (Tryz.prog.cellsOf 41)) = xs[11]? from hf 11 _ rfl) (by omega) k_box o_box
  obtain ⟨epoch, e12, g12⟩ := field_opens (off := 14) (show DataW.trod enc Tryz.prog W base spare held n 3 ((cs.drop 14).take (Tryz.prog.cellsOf 3)) = xs[12]? from hf 12 _ rfl) (by omega) k_int o_int
  obtain ⟨wr, e13, g13⟩ := field_opens (off := 15) (show DataW.trod enc Tryz.prog W base spare held n 42 ((cs.drop 15).take (Tryz.prog.cellsOf 42)) = xs[13]? from hf 13 _ rfl) (by omega) k_wraps o_wraps
  obtain ⟨n1, e14, g14⟩ := field_opens (off := 16) (show DataW.trod enc Tryz.prog W base spare held n 3 ((cs.drop 16).take (Tryz.prog.cellsOf 3)) = xs[14]? from hf 14 _ rfl) (by omega) k_int o_int
  obtain ⟨m1, e15, g15⟩ := field_opens (off := 17) (show DataW.trod enc Tryz.prog W base spare held n 3 ((cs.drop 17).take (Tryz.prog.cellsOf 3)) = xs[15]? from hf 15 _ rfl) (by omega) k_int o_int
  obtain ⟨sg, e16, g16⟩ := field_opens (off := 18) (show DataW.trod enc Tryz.prog W base spare held n 35 ((cs.drop 18).take (Tryz.prog.cellsOf 35)) = xs[16]? from hf 16 _ rfl) (by omega) k_sig o_sig
  have t17 : cs.drop 20 = [] := List.drop_eq_nil_of_le (by omega)
  have t16 := drop_step e16
  simp only [Nat.reduceAdd] at t16
  rw [t17] at t16
  have t15 := drop_step e15
  simp only [Nat.reduceAdd] at t15
  rw [t16] at t15
  have t14 := drop_step e14
  simp only [Nat.reduceAdd] at t14
  rw [t15] at t14
  have t13 := drop_step e13
  simp only [Nat.reduceAdd] at t13
  rw [t14] at t13
  have t12 := drop_step e12
  simp only [Nat.reduceAdd] at t12
  rw [t13] at t12
  have t11 := drop_step e11
  simp only [Nat.reduceAdd] at t11
  rw [t12] at t11
  have t10 := drop_step e10
  simp only [Nat.reduceAdd] at t10
  rw [t11] at t10
  have t9 := drop_step e9
  simp only [Nat.reduceAdd] at t9
  rw [t10] at t9
  have t8 := drop_step e8
  simp only [Nat.reduceAdd] at t8
  rw [t9] at t8
  have t7 := drop_step e7
  simp only [Nat.reduceAdd] at t7
  rw [t8] at t7
  have t6 := drop_step e6
  simp only [Nat.reduceAdd] at t6
  rw [t7] at t6
  have t5 := drop_step e5
  simp only [Nat.reduceAdd] at t5
  rw [t6] at t5
  have t4 := drop_step e4
  simp only [Nat.reduceAdd] at t4
  rw [t5] at t4
  have t3 := drop_step e3
  simp only [Nat.reduceAdd] at t3
  rw [t4] at t3
  have t2 := drop_step e2
  simp only [Nat.reduceAdd] at t2
  rw [t3] at t2
  have t1 := drop_step e1
  simp only [Nat.reduceAdd] at t1
  rw [t2] at t1
  have t0 := drop_step e0
  simp only [Nat.reduceAdd] at t0
  rw [t1] at t0
  rw [List.drop_zero] at t0
  refine ⟨⟨author, seq, prev, kind, time, object, target, scope, group, to.l, to.A, to.c, text, b.1, b.2.1, b.2.2, epoch, wr.l, wr.A, wr.c, n1, m1, sg.1, sg.2⟩, by rw [t0]; rfl, ?_⟩
  refine ⟨⟨strs_of g9.rows, wrs_of g13.rows, ⟨g9.le, g9.cap⟩, g13.le, g13.cap⟩, ?_, ?_, g9.all, g13.all⟩
  · have s1 := g16 sg.1 (by simp)
    have s2 := g16 sg.2 (by simp)
    simp only [NOk, List.mem_cons, List.not_mem_nil, or_false]
    rintro s (rfl | rfl | rfl | rfl | rfl | rfl | rfl | rfl | rfl) <;> assumption
  · have s1 := g11 b.1 (by simp)
    have s2 := g11 b.2.1 (by simp)
    have s3 := g11 b.2.2 (by simp)
    simp only [SOk, List.mem_cons, List.not_mem_nil, or_false]
    rintro s (rfl | rfl | rfl | rfl | rfl | rfl | rfl | rfl | rfl) <;> assumption
theorem k_claim : Tryz.prog.cellsOf 37 = 9 := by kernel_rfl
set_option maxHeartbeats 1000000 in
theorem o_claim : Opens enc Tryz.prog W base spare held 37 ClaimV.cells ClaimOk := fun fuel cs x h => by
  obtain ⟨xs, n, -, -, hcl, hxl, hf⟩ := DataW.trod_struct Tryz.underlying37 h
  rw [k_claim] at hcl
  have hxl : xs.length = 8 := hxl
  obtain ⟨actor, e0, g0⟩ := field_opens (off := 0) (show DataW.trod enc Tryz.prog W base spare held n 9 ((cs.drop 0).take (Tryz.prog.cellsOf 9)) = xs[0]? from hf 0 _ rfl) (by omega) k_str o_str
  obtain ⟨base1, e1, g1⟩ := field_opens (off := 1) (show DataW.trod enc Tryz.prog W base spare held n 3 ((cs.drop 1).take (Tryz.prog.cellsOf 3)) = xs[1]? from hf 1 _ rfl) (by omega) k_int o_int
  obtain ⟨prev, e2, g2⟩ := field_opens (off := 2) (show DataW.trod enc Tryz.prog W base spare held n 9 ((cs.drop 2).take (Tryz.prog.cellsOf 9)) = xs[2]? from hf 2 _ rfl) (by omega) k_str o_str
  obtain ⟨gen, e3, g3⟩ := field_opens (off := 3) (show DataW.trod enc Tryz.prog W base spare held n 3 ((cs.drop 3).take (Tryz.prog.cellsOf 3)) = xs[3]? from hf 3 _ rfl) (by omega) k_int o_int
  obtain ⟨home, e4, g4⟩ := field_opens (off := 4) (show DataW.trod enc Tryz.prog W base spare held n 3 ((cs.drop 4).take (Tryz.prog.cellsOf 3)) = xs[4]? from hf 4 _ rfl) (by omega) k_int o_int
  obtain ⟨pub, e5, g5⟩ := field_opens (off := 5) (show DataW.trod enc Tryz.prog W base spare held n 3 ((cs.drop 5).take (Tryz.prog.cellsOf 3)) = xs[5]? from hf 5 _ rfl) (by omega) k_int o_int
  obtain ⟨time, e6, g6⟩ := field_opens (off := 6) (show DataW.trod enc Tryz.prog W base spare held n 3 ((cs.drop 6).take (Tryz.prog.cellsOf 3)) = xs[6]? from hf 6 _ rfl) (by omega) k_int o_int
  obtain ⟨sg, e7, g7⟩ := field_opens (off := 7) (show DataW.trod enc Tryz.prog W base spare held n 35 ((cs.drop 7).take (Tryz.prog.cellsOf 35)) = xs[7]? from hf 7 _ rfl) (by omega) k_sig o_sig
  have t8 : cs.drop 9 = [] := List.drop_eq_nil_of_le (by omega)
  have t7 := drop_step e7
  simp only [Nat.reduceAdd] at t7
  rw [t8] at t7
  have t6 := drop_step e6
  simp only [Nat.reduceAdd] at t6
  rw [t7] at t6
  have t5 := drop_step e5
  simp only [Nat.reduceAdd] at t5
  rw [t6] at t5
  have t4 := drop_step e4
  simp only [Nat.reduceAdd] at t4
  rw [t5] at t4
  have t3 := drop_step e3
  simp only [Nat.reduceAdd] at t3
  rw [t4] at t3
  have t2 := drop_step e2
  simp only [Nat.reduceAdd] at t2
  rw [t3] at t2
  have t1 := drop_step e1
  simp only [Nat.reduceAdd] at t1
  rw [t2] at t1
  have t0 := drop_step e0
  simp only [Nat.reduceAdd] at t0
  rw [t1] at t0
  rw [List.drop_zero] at t0
  refine ⟨⟨actor, base1, prev, gen, home, pub, time, sg.1, sg.2⟩, by rw [t0]; rfl, ?_⟩
  refine ⟨?_, ?_⟩
  · have s1 := g7 sg.1 (by simp)
    have s2 := g7 sg.2 (by simp)
    simp only [NOk, List.mem_cons, List.not_mem_nil, or_false]
    rintro s (rfl | rfl | rfl | rfl | rfl | rfl | rfl) <;> assumption
  · simp only [SOk, List.mem_cons, List.not_mem_nil, or_false]
    rintro s (rfl | rfl) <;> assumption
theorem k_ballot : Tryz.prog.cellsOf 46 = 7 := by kernel_rfl
set_option maxHeartbeats 1000000 in
theorem o_ballot : Opens enc Tryz.prog W base spare held 46 BallotV.cells BallotOk := fun fuel cs x h => by
  obtain ⟨xs, n, -, -, hcl, hxl, hf⟩ := DataW.trod_struct Tryz.underlying46 h
  rw [k_ballot] at hcl
  have hxl : xs.length = 6 := hxl
  obtain ⟨server, e0, g0⟩ := field_opens (off := 0) (show DataW.trod enc Tryz.prog W base spare held n 3 ((cs.drop 0).take (Tryz.prog.cellsOf 3)) = xs[0]? from hf 0 _ rfl) (by omega) k_int o_int
  obtain ⟨actor, e1, g1⟩ := field_opens (off := 1) (show DataW.trod enc Tryz.prog W base spare held n 9 ((cs.drop 1).take (Tryz.prog.cellsOf 9)) = xs[1]? from hf 1 _ rfl) (by omega) k_str o_str
  obtain ⟨gen, e2, g2⟩ := field_opens (off := 2) (show DataW.trod enc Tryz.prog W base spare held n 3 ((cs.drop 2).take (Tryz.prog.cellsOf 3)) = xs[2]? from hf 2 _ rfl) (by omega) k_int o_int
  obtain ⟨claim, e3, g3⟩ := field_opens (off := 3) (show DataW.trod enc Tryz.prog W base spare held n 9 ((cs.drop 3).take (Tryz.prog.cellsOf 9)) = xs[3]? from hf 3 _ rfl) (by omega) k_str o_str
  obtain ⟨time, e4, g4⟩ := field_opens (off := 4) (show DataW.trod enc Tryz.prog W base spare held n 3 ((cs.drop 4).take (Tryz.prog.cellsOf 3)) = xs[4]? from hf 4 _ rfl) (by omega) k_int o_int
  obtain ⟨sg, e5, g5⟩ := field_opens (off := 5) (show DataW.trod enc Tryz.prog W base spare held n 35 ((cs.drop 5).take (Tryz.prog.cellsOf 35)) = xs[5]? from hf 5 _ rfl) (by omega) k_sig o_sig
  have t6 : cs.drop 7 = [] := List.drop_eq_nil_of_le (by omega)
  have t5 := drop_step e5
  simp only [Nat.reduceAdd] at t5
  rw [t6] at t5
  have t4 := drop_step e4
  simp only [Nat.reduceAdd] at t4
  rw [t5] at t4
  have t3 := drop_step e3
  simp only [Nat.reduceAdd] at t3
  rw [t4] at t3
  have t2 := drop_step e2
  simp only [Nat.reduceAdd] at t2
  rw [t3] at t2
  have t1 := drop_step e1
  simp only [Nat.reduceAdd] at t1
  rw [t2] at t1
  have t0 := drop_step e0
  simp only [Nat.reduceAdd] at t0
  rw [t1] at t0
  rw [List.drop_zero] at t0
  refine ⟨⟨server, actor, gen, claim, time, sg.1, sg.2⟩, by rw [t0]; rfl, ?_⟩
  refine ⟨?_, ?_⟩
  · have s1 := g5 sg.1 (by simp)
    have s2 := g5 sg.2 (by simp)
    simp only [NOk, List.mem_cons, List.not_mem_nil, or_false]
    rintro s (rfl | rfl | rfl | rfl | rfl) <;> assumption
  · simp only [SOk, List.mem_cons, List.not_mem_nil, or_false]
    rintro s (rfl | rfl) <;> assumption
theorem k_dec : Tryz.prog.cellsOf 48 = 12 := by kernel_rfl
set_option maxHeartbeats 1000000 in
theorem o_dec : Opens enc Tryz.prog W base spare held 48 DecR.cells (fun d => DecIn W d ∧ DecOk d) := fun fuel cs x h => by
  obtain ⟨xs, n, -, -, hcl, hxl, hf⟩ := DataW.trod_struct Tryz.underlying48 h
  rw [k_dec] at hcl
  have hxl : xs.length = 11 := hxl
  obtain ⟨server, e0, g0⟩ := field_opens (off := 0) (show DataW.trod enc Tryz.prog W base spare held n 3 ((cs.drop 0).take (Tryz.prog.cellsOf 3)) = xs[0]? from hf 0 _ rfl) (by omega) k_int o_int
  obtain ⟨number, e1, g1⟩ := field_opens (off := 1) (show DataW.trod enc Tryz.prog W base spare held n 3 ((cs.drop 1).take (Tryz.prog.cellsOf 3)) = xs[1]? from hf 1 _ rfl) (by omega) k_int o_int
  obtain ⟨kind, e2, g2⟩ := field_opens (off := 2) (show DataW.trod enc Tryz.prog W base spare held n 3 ((cs.drop 2).take (Tryz.prog.cellsOf 3)) = xs[2]? from hf 2 _ rfl) (by omega) k_int o_int
  obtain ⟨actor, e3, g3⟩ := field_opens (off := 3) (show DataW.trod enc Tryz.prog W base spare held n 9 ((cs.drop 3).take (Tryz.prog.cellsOf 9)) = xs[3]? from hf 3 _ rfl) (by omega) k_str o_str
  obtain ⟨object, e4, g4⟩ := field_opens (off := 4) (show DataW.trod enc Tryz.prog W base spare held n 9 ((cs.drop 4).take (Tryz.prog.cellsOf 9)) = xs[4]? from hf 4 _ rfl) (by omega) k_str o_str
  obtain ⟨text, e5, g5⟩ := field_opens (off := 5) (show DataW.trod enc Tryz.prog W base spare held n 9 ((cs.drop 5).take (Tryz.prog.cellsOf 9)) = xs[5]? from hf 5 _ rfl) (by omega) k_str o_str
  obtain ⟨to, e6, g6⟩ := field_opens (off := 6) (show DataW.trod enc Tryz.prog W base spare held n 39 ((cs.drop 6).take (Tryz.prog.cellsOf 39)) = xs[6]? from hf 6 _ rfl) (by omega) k_strs o_strs
  obtain ⟨n1, e7, g7⟩ := field_opens (off := 7) (show DataW.trod enc Tryz.prog W base spare held n 3 ((cs.drop 7).take (Tryz.prog.cellsOf 3)) = xs[7]? from hf 7 _ rfl) (by omega) k_int o_int
  obtain ⟨start, e8, g8⟩ := field_opens (off := 8) (show DataW.trod enc Tryz.prog W base spare held n 3 ((cs.drop 8).take (Tryz.prog.cellsOf 3)) = xs[8]? from hf 8 _ rfl) (by omega) k_int o_int
  obtain ⟨stop, e9, g9⟩ := field_opens (off := 9) (show DataW.trod enc Tryz.prog W base spare held n 3 ((cs.drop 9).take (Tryz.prog.cellsOf 3)) = xs[9]? from hf 9 _ rfl) (by omega) k_int o_int
  obtain ⟨sg, e10, g10⟩ := field_opens (off := 10) (show DataW.trod enc Tryz.prog W base spare held n 35 ((cs.drop 10).take (Tryz.prog.cellsOf 35)) = xs[10]? from hf 10 _ rfl) (by omega) k_sig o_sig
  have t11 : cs.drop 12 = [] := List.drop_eq_nil_of_le (by omega)
  have t10 := drop_step e10
  simp only [Nat.reduceAdd] at t10
  rw [t11] at t10
  have t9 := drop_step e9
  simp only [Nat.reduceAdd] at t9
  rw [t10] at t9
  have t8 := drop_step e8
  simp only [Nat.reduceAdd] at t8
  rw [t9] at t8
  have t7 := drop_step e7
  simp only [Nat.reduceAdd] at t7
  rw [t8] at t7
  have t6 := drop_step e6
  simp only [Nat.reduceAdd] at t6
  rw [t7] at t6
  have t5 := drop_step e5
  simp only [Nat.reduceAdd] at t5
  rw [t6] at t5
  have t4 := drop_step e4
  simp only [Nat.reduceAdd] at t4
  rw [t5] at t4
  have t3 := drop_step e3
  simp only [Nat.reduceAdd] at t3
  rw [t4] at t3
  have t2 := drop_step e2
  simp only [Nat.reduceAdd] at t2
  rw [t3] at t2
  have t1 := drop_step e1
  simp only [Nat.reduceAdd] at t1
  rw [t2] at t1
  have t0 := drop_step e0
  simp only [Nat.reduceAdd] at t0
  rw [t1] at t0
  rw [List.drop_zero] at t0
  refine ⟨⟨server, number, kind, actor, object, text, to.l, to.A, to.c, n1, start, stop, sg.1, sg.2⟩, by rw [t0]; rfl, ?_⟩
  refine ⟨⟨strs_of g6.rows, g6.le, g6.cap⟩, ?_, ?_, g6.all⟩
  · have s1 := g10 sg.1 (by simp)
    have s2 := g10 sg.2 (by simp)
    simp only [NOk, List.mem_cons, List.not_mem_nil, or_false]
    rintro s (rfl | rfl | rfl | rfl | rfl | rfl | rfl | rfl) <;> assumption
  · simp only [SOk, List.mem_cons, List.not_mem_nil, or_false]
    rintro s (rfl | rfl | rfl) <;> assumption
theorem k_item : Tryz.prog.cellsOf 50 = 49 := by kernel_rfl
set_option maxHeartbeats 1000000 in
theorem o_item : Opens enc Tryz.prog W base spare held 50 ItemR.cells (fun i => ItemIn W i ∧ ItemOk i) := fun fuel cs x h => by
  obtain ⟨xs, n, -, -, hcl, hxl, hf⟩ := DataW.trod_struct Tryz.underlying50 h
  rw [k_item] at hcl
  have hxl : xs.length = 5 := hxl
  obtain ⟨kind, e0, g0⟩ := field_opens (off := 0) (show DataW.trod enc Tryz.prog W base spare held n 3 ((cs.drop 0).take (Tryz.prog.cellsOf 3)) = xs[0]? from hf 0 _ rfl) (by omega) k_int o_int
  obtain ⟨a, e1, g1⟩ := field_opens (off := 1) (show DataW.trod enc Tryz.prog W base spare held n 44 ((cs.drop 1).take (Tryz.prog.cellsOf 44)) = xs[1]? from hf 1 _ rfl) (by omega) k_act o_act
  obtain ⟨c, e2, g2⟩ := field_opens (off := 21) (show DataW.trod enc Tryz.prog W base spare held n 37 ((cs.drop 21).take (Tryz.prog.cellsOf 37)) = xs[2]? from hf 2 _ rfl) (by omega) k_claim o_claim
  obtain ⟨b, e3, g3⟩ := field_opens (off := 30) (show DataW.trod enc Tryz.prog W base spare held n 46 ((cs.drop 30).take (Tryz.prog.cellsOf 46)) = xs[3]? from hf 3 _ rfl) (by omega) k_ballot o_ballot
  obtain ⟨d, e4, g4⟩ := field_opens (off := 37) (show DataW.trod enc Tryz.prog W base spare held n 48 ((cs.drop 37).take (Tryz.prog.cellsOf 48)) = xs[4]? from hf 4 _ rfl) (by omega) k_dec o_dec
  have t5 : cs.drop 49 = [] := List.drop_eq_nil_of_le (by omega)
  have t4 := drop_step e4
  simp only [Nat.reduceAdd] at t4
  rw [t5] at t4
  have t3 := drop_step e3
  simp only [Nat.reduceAdd] at t3
  rw [t4] at t3
  have t2 := drop_step e2
  simp only [Nat.reduceAdd] at t2
  rw [t3] at t2
  have t1 := drop_step e1
  simp only [Nat.reduceAdd] at t1
  rw [t2] at t1
  have t0 := drop_step e0
  simp only [Nat.reduceAdd] at t0
  rw [t1] at t0
  rw [List.drop_zero] at t0
  refine ⟨⟨kind, a, c, b, d⟩, by rw [t0]; rfl, ?_⟩
  exact ⟨⟨g1.1, g4.1⟩, g0, g1.2, g2, g3, g4.2⟩
theorem k_items : Tryz.prog.cellsOf 29 = 1 := by kernel_rfl
theorem o_items : Opens enc Tryz.prog W base spare held 29 SliceR.cells (SliceR.Good W 49 ItemR.cells fun i => ItemIn W i ∧ ItemOk i) := opens_slice Tryz.underlying29 k_item (by decide) o_item
theorem k_ints : Tryz.prog.cellsOf 28 = 1 := by kernel_rfl
theorem o_ints : Opens enc Tryz.prog W base spare held 28 SliceR.cells (SliceR.Good W 1 (fun n : Int => [.int .i64 n]) I64) := opens_slice Tryz.underlying28 k_int (by decide) o_int
end
end Go.Proofs.YtflgkplneekpfaaGreatDoor.Item

namespace Go.Proofs.YtflgkplneekpfaaGreatDoor.Known
open Go.RowKit Grp Mem _root_.Go.Proofs.YtflgkplneekpfaaGreatDoor.Code Sha Sign _root_.Go.Proofs.YtflgkplneekpfaaGreatDoor.Item

structure KR where
  sv : List Int
  sA : Option Addr
  sC : Nat
  l : List ItemR
  iA : Option Addr
  iC : Nat
def KR.cells (k : KR) : List Value := [.slice k.sA k.sv.length k.sC, .slice k.iA k.l.length k.iC]
def knA (k : KR) : Array Value := k.cells.toArray
def known0 : KR := ⟨[], none, 0, [], none, 0⟩
structure ItemsIn (w : World) (A : Option Addr) (l : List ItemR) : Prop where
  rows : RowsAt w A 49 ItemR.cells l
  each : ∀ x ∈ l, ItemIn w x
theorem ItemsIn.q {w w' : World} {A : Option Addr} {l : List ItemR} (h : ItemsIn w A l) (hq : Q w w') : ItemsIn w' A l := ⟨h.rows.q hq, fun x hx => (h.each x hx).q hq⟩
structure KIn (w : World) (k : KR) : Prop where
  sv : Ints w k.sA k.sv
  items : ItemsIn w k.iA k.l
  svC : k.sv.length ≤ k.sC ∧ k.sC ≤ maxLen
  lC : k.l.length ≤ k.iC ∧ k.iC ≤ maxLen
theorem KIn.q {w w' : World} {k : KR} (h : KIn w k) (hq : Q w w') : KIn w' k := ⟨h.sv.q hq, h.items.q hq, h.svC, h.lC⟩
theorem it_len (x : ItemR) : x.cells.length = 49 := rfl
theorem it_one (x : ItemR) : ∀ v ∈ x.cells, v.oneCell' = true := by
  have := it_all x
  rw [Array.all_eq_true_iff_forall_mem] at this
  intro v hv
  exact this v (by simpa [itA] using hv)
theorem item_info : (Tryz.prog.info? 50).map (fun i => (i.zero, i.size, i.bytes)) = some (some (.agg (itA item0)), 49, 568) := by kernel_rfl
theorem kn_all (k : KR) : k.cells.toArray.all (·.oneCell') = true := by simp [KR.cells, Value.oneCell']

/-- One item is loaded out of a slice. -/
theorem ItemsIn.load {w : World} {A : Option Addr} {l : List ItemR} (h : ItemsIn w A l) (j : Nat) (hj : j < l.length) : ∃ b o, A = some ⟨b, o, none⟩ ∧ b < w.heap.size ∧ ∀ y : Wd w, (Instr.loadAt 50 (.pointer (some ⟨b, o + j * 49, none⟩))).run Tryz.prog y.w = .ok (.agg (itA l[j])) y.w := by
  obtain ⟨b, o, e, hb, hc⟩ := h.rows (by omega)
  exact ⟨b, o, e, hb, Wd.load hb (hc j hj) Tryz.underlying50 rfl (by kernel_rfl)⟩

/-- What slices.Clone hands back of integers. -/
def ClonedInts (l : List Int) (w : World) (e : Ending) (w' : World) : Prop := ∃ A c, e = .returned (.slice A l.length c) ∧ Ints w' A l ∧ (l.length ≤ c ∧ c ≤ maxLen) ∧ Q w w'
theorem ints_owned {w : World} {base : Nat} {v : Value} {l : List Int} (h : w.ownsRow base 3 1 v l.length (l.map (Value.int .i64))) : ∃ A c, v = .slice A l.length c ∧ Ints w A l ∧ (l.length ≤ c ∧ c ≤ maxLen) := by
  have ho := Owns.of h
  obtain ⟨A, c, rfl, h1, h2⟩ := ho.shape
  have hr : RowsAt w A 1 (fun n : Int => [Value.int .i64 n]) l := Owns.rows (fun _ => rfl) (by
    have e : l.flatMap (fun n : Int => [Value.int .i64 n]) = l.map (Value.int .i64) := by
      clear h ho h1 h2
      induction l with
      | nil => rfl
      | cons x l ih => rw [List.flatMap_cons, ih]; rfl
    rw [e]; exact ho) rfl
  exact ⟨A, c, rfl, ints_of hr, h1, h2⟩
theorem clone_any (A : Option Addr) (c : Nat) (l : List Int) (w : World) (hS : Ints w A l) (hl : l.length ≤ 1000000) : Calls Tryz.prog 67 #[.slice A l.length c] w (ClonedInts l w) := by
  by_cases h0 : l.length = 0
  · obtain rfl : l = [] := List.eq_nil_of_length_eq_zero h0
    cases A with
    | none => exact (Tryz.slices_Clone_int_nil 0 c w).mono fun e w' ⟨h1, h2⟩ => ⟨none, 0, h1, fun h => by simp at h, ⟨Nat.le_refl _, Nat.zero_le _⟩, h2 ▸ Q.refl w⟩
    | some a =>
      refine (Tryz.slices_Clone_int_zero a c w).mono fun e w' hh => ?_
      obtain ⟨v', h1, h2, _, h3⟩ := hh
      obtain ⟨A, c', rfl, h4, h5⟩ := ints_owned (l := []) h2
      exact ⟨A, c', h1, h4, h5, h3⟩
  · obtain ⟨b, o, rfl, hb, hc⟩ := hS (by omega)
    refine (Tryz.slices_Clone_int b o l.length c l w (Nat.le_refl _) (by omega) (fun j hj => ?_)).mono fun e w' ⟨v', h1, h2, _, h3⟩ => ?_
    · rw [hc j hj, List.getD_eq_getElem?_getD, List.getElem?_eq_getElem hj]
      rfl
    · rw [List.take_length] at h2
      obtain ⟨A, c', rfl, h4, h5⟩ := ints_owned h2
      exact ⟨A, c', h1, h4, h5, h3⟩
/-- What hands back a known set. -/
def KnownIs (sv : List Int) (l : List ItemR) (w : World) (e : Ending) (w' : World) : Prop := ∃ k : KR, e = .returned (.agg (knA k)) ∧ k.sv = sv ∧ k.l = l ∧ KIn w' k ∧ Q w w'
set_option maxRecDepth 100000 in
set_option maxHeartbeats 1000000 in
theorem new_any (A : Option Addr) (c : Nat) (sv : List Int) (w : World) (hS : Ints w A sv) (hl : sv.length ≤ 1000000) : Calls Tryz.prog 36 #[.slice A sv.length c] w (KnownIs sv [] w) := by
  have hq0 := q_new w known0.cells.toArray 31
  have hb := Blk.new w 31 known0.cells.toArray
  obtain ⟨w1, hw1⟩ : ∃ w1, w1 = w.alloc (.cells known0.cells.toArray 31) := ⟨_, rfl⟩
  rw [← hw1] at hq0 hb
  have hS1 := hS.q hq0
  go_enter Tryz.func36, Tryz.ntmps36
  go_wp2_with fail
  refine (show Calls _ _ _ w1 _ → Calls _ _ _ _ _ from fun h => by rw [hw1] at h; exact h) ?_
  refine (clone_any A c sv w1 hS1 hl).mono ?_
  rintro e w' ⟨A', c', rfl, h1, h2, h3⟩
  have hb3 := hb.q h3
  clear hw1
  go_wp2_with (refine wpList_store_far hb3 rfl 31 (.tmp 2) (.tmp 5) (KR.mk sv A' c' [] none 0).cells rfl rfl rfl (by kernel_rfl) (kn_all _) (Nat.le_refl 2) ?_)
  intro W hW hbel hfar
  rw [splice_all _ _ (by rfl)] at hW
  have hqW : Q w W := hbel _ _ (Nat.le_refl _) (Q.trans hq0 h3)
  have hkW : KIn W (KR.mk sv A' c' [] none 0) := by
    refine ⟨fun h0 => ?_, ⟨RowsAt.nil _ _ _ _, by simp⟩, h2, Nat.le_refl _, Nat.zero_le _⟩
    obtain ⟨b, o, e, hb4, hc⟩ := h1 h0
    have hne : b ≠ w.heap.size := by
      rintro rfl
      have h5 := hc 0 h0
      rw [hb3.cell] at h5
      have h6 := Array.mem_of_getElem? h5
      simp [known0, KR.cells] at h6
    have e1 := hfar b hne
    refine ⟨b, o, e, ?_, fun j hj => (World.cell?_of_block (w := w') e1).trans (hc j hj)⟩
    rcases Nat.lt_or_ge b W.heap.size with h7 | h7
    · exact h7
    · rw [Array.getElem?_eq_none h7] at e1
      rw [Array.getElem?_eq_getElem hb4] at e1
      cases e1
  go_wp2_with fail
  exact bodyPost_ret (results_cell_row rfl _ _ w.heap.size 31 (knA (KR.mk sv A' c' [] none 0)) (0, 0) _ rfl hW Tryz.underlying31 rfl (by kernel_rfl)) rfl ⟨_, rfl, rfl, rfl, hkW, hqW⟩
end Go.Proofs.YtflgkplneekpfaaGreatDoor.Known

namespace Go.Proofs.YtflgkplneekpfaaGreatDoor.Known
open Go.RowKit Grp Mem _root_.Go.Proofs.YtflgkplneekpfaaGreatDoor.Code Sha Sign _root_.Go.Proofs.YtflgkplneekpfaaGreatDoor.Item

theorem results_row_tmp {P : Program} {fn : Func} {p u : Tmp} {ty : TypeId} (h : fn.results = #[.cell p ty, .tmp u]) (tmps : Array Value) (w : World) (g : Nat) (t : TypeId) (cs : Array Value) (fr : Nat × Nat) (d : TypeDesc) (v : Value)
    (hp : tmps.getD p undef = .pointer (some ⟨g, 0, none⟩)) (hv : tmps.getD u undef = v) (hg : w.heap[g]? = some (.cells cs t fr))
    (hu : P.underlying ty = some d) (hd : (match d with | .struct _ | .array _ _ => true | _ => false) = true) (hi : (P.info? ty).map (·.size) = some cs.size) :
    (results fn tmps).run P w = .ok (.tuple #[.agg cs, v]) w := by
  have hp' : tmps[p]?.getD undef = .pointer (some ⟨g, 0, none⟩) := by simpa using hp
  have hv' : tmps[u]?.getD undef = v := by simpa using hv
  simp [results, h, hp', hv', asAddr, run_loadVar_row w g t ty cs fr d hg hu hd hi]

/-- At the head of a function that takes a known set and an item, and hands a known set back. -/
structure AddCtx (w w3 : World) (k : KR) (x : ItemR) : Prop where
  q : Q w w3
  bk : Blk w3 w.heap.size 31 k.cells.toArray
  bi : Blk w3 (w.heap.size + 1) 50 x.cells.toArray
  br : Blk w3 (w.heap.size + 1 + 1) 31 known0.cells.toArray
theorem AddCtx.new (w : World) (k : KR) (x : ItemR) : ∃ w3, AddCtx w w3 k x ∧ w3 = (((w.alloc (.cells (knA k) 31)).alloc (.cells (itA x) 50)).alloc (.cells (knA known0) 31)) := by
  have h1 := Blk.new w 31 (knA k)
  have q1 := q_new w (knA k) 31
  have h2 := Blk.new' (g := w.heap.size + 1) (w.alloc (.cells (knA k) 31)) 50 (itA x) (by simp)
  have q2 := q_new (w.alloc (.cells (knA k) 31)) (itA x) 50
  have h3 := Blk.new' (g := w.heap.size + 1 + 1) ((w.alloc (.cells (knA k) 31)).alloc (.cells (itA x) 50)) 31 (knA known0) (by simp)
  have q3 := q_new ((w.alloc (.cells (knA k) 31)).alloc (.cells (itA x) 50)) (knA known0) 31
  exact ⟨_, ⟨Q.trans (Q.trans q1 q2) q3, (h1.q q2).q q3, h2.q q3, h3⟩, rfl⟩
def AddIs (k : KR) (x : ItemR) (w : World) (e : Ending) (w' : World) : Prop := ∃ k' : KR, e = .returned (.tuple #[.agg (knA k'), .bool (addOk k.sv k.l x)]) ∧ k'.sv = k.sv ∧ k'.l = addK k.sv k.l x ∧ KIn w' k' ∧ Q w w'
theorem right_at (x : ItemR) (r : Bool) (w : World) (hI : ItemIn w x) (h : itemRight x = r) : Calls Tryz.prog 12 #[.agg (itA x)] w fun e w' => e = .returned (.bool r) ∧ Q w w' := h ▸ itemRight_any x w hI
theorem signed_at (A : Option Addr) (n c : Nat) (sv : List Int) (x : ItemR) (r : Bool) (w : World) (hT : Tab w) (hI : ItemIn w x) (hS : Ints w A sv) (hsl : sv.length ≤ maxLen) (hn : n = sv.length) (h : signedB sv x = r) : Calls Tryz.prog 26 #[.slice A n c, .agg (itA x)] w fun e w' => e = .returned (.bool r) ∧ Q w w' := by
  subst hn
  exact h ▸ signed_any A c sv x w hT hI hS hsl
set_option maxRecDepth 100000 in
set_option maxHeartbeats 2000000 in
theorem add_no (k : KR) (x : ItemR) (w : World) (hT : Tab w) (hK : KIn w k) (hI : ItemIn w x) (h : signedB k.sv x = false) : Calls Tryz.prog 39 #[.agg (knA k), .agg (itA x)] w (AddIs k x w) := by
  obtain ⟨w3, hC, hw3⟩ := AddCtx.new w k x
  have cS : ∀ y : Wd w3, y.w.cell? ⟨w.heap.size, 0, none⟩ = some (.slice k.sA k.sv.length k.sC) := fun y => (y.blk hC.bk).cell 0
  have cI : ∀ y : Wd w3, y.w.cell? ⟨w.heap.size, 1, none⟩ = some (.slice k.iA k.l.length k.iC) := fun y => (y.blk hC.bk).cell 1
  have hIt : ∀ y : Wd w3, (Instr.loadAt 50 (.pointer (some ⟨w.heap.size + 1, 0, none⟩))).run Tryz.prog y.w = .ok (.agg (itA x)) y.w := Wd.load hC.bi.lt (Blk.range hC.bi) Tryz.underlying50 rfl (by kernel_rfl)
  have hLk : ∀ y : Wd w3, (Instr.loadAt 31 (.pointer (some ⟨w.heap.size, 0, none⟩))).run Tryz.prog y.w = .ok (.agg (knA k)) y.w := Wd.load hC.bk.lt (Blk.range hC.bk) Tryz.underlying31 rfl (by kernel_rfl)
  have hBr : ∀ y : Wd w3, Blk y.w (w.heap.size + 1 + 1) 31 known0.cells.toArray := fun y => y.blk hC.br
  have hKy : ∀ y : Wd w3, KIn y.w k := fun y => hK.q (Q.trans hC.q y.q)
  have hIy : ∀ y : Wd w3, ItemIn y.w x := fun y => hI.q (Q.trans hC.q y.q)
  have hTy : ∀ y : Wd w3, Tab y.w := fun y => hT.q (Q.trans hC.q y.q)
  have HQ := Lib.hid hC.q
  obtain ⟨u, hu⟩ : ∃ u : Wd w3, u.w = w3 := ⟨⟨w3, Q.refl _⟩, rfl⟩
  have HX := Lib.hid (hu.trans hw3)
  have hok : addOk k.sv k.l x = false := by unfold addOk; rw [h]; rfl
  have HOK := Lib.hid hok
  have HL := Lib.hid (show addK k.sv k.l x = k.l by unfold addK; rw [hok]; rfl)
  have hsl : k.sv.length ≤ maxLen := Nat.le_trans hK.svC.1 hK.svC.2
  clear hu hw3 hC hok
  cases hr : itemRight x
  all_goals
    have HR := Lib.hid hr
    clear hr
    go_enter Tryz.func39, Tryz.ntmps39
    go_upto_region 1 with (fail)
    refine (show Code.wp _ _ _ _ u.w → Code.wp _ _ _ _ _ from fun h => by rw [HX.out] at h; exact h) ?_
    go_wp2_with (first | (refine wpList_load_run 50 (.tmp 3) (.pointer (some ⟨w.heap.size + 1, 0, none⟩)) (.agg (itA x)) ?_ ?_ ?_ ?_ ?_; rfl; rfl; rfl; exact hIt _) | (go_at_call 12; refine (right_at x _ _ (hIy _) HR.out).mono ?_; rintro e w' ⟨rfl, hq2⟩; obtain ⟨y, rfl⟩ := Wd.next _ hq2; clear hq2) | (go_at_call 26; refine (signed_at _ _ _ k.sv x _ _ (hTy _) (hIy _) (hKy _).sv hsl rfl h).mono ?_; rintro e w' ⟨rfl, hq2⟩; obtain ⟨y, rfl⟩ := Wd.next _ hq2; clear hq2) | (refine wpList_store_far (hBr _) rfl 31 (.tmp 4) (.tmp 22) k.cells rfl rfl rfl (by kernel_rfl) (kn_all _) (Nat.le_refl 2) ?_))
    intro W hW hbel hfar
    rw [splice_all _ _ (by rfl)] at hW
    have hqW : Q w W := hbel _ _ (by omega) (Q.trans HQ.out (Wd.q _))
    clear hbel hfar
    go_wp2_with fail
    exact bodyPost_ret (results_row_tmp rfl _ _ (w.heap.size + 1 + 1) 31 (knA k) (0, 0) _ _ rfl rfl hW Tryz.underlying31 rfl (by kernel_rfl)) rfl ⟨k, by rw [HOK.out]; rfl, rfl, HL.out.symm, hK.q hqW, hqW⟩
end Go.Proofs.YtflgkplneekpfaaGreatDoor.Known

namespace Go.Proofs.YtflgkplneekpfaaGreatDoor.Known
open Go.RowKit Grp Mem _root_.Go.Proofs.YtflgkplneekpfaaGreatDoor.Code Sha Sign _root_.Go.Proofs.YtflgkplneekpfaaGreatDoor.Item

theorem take_len_lt {α : Type} (p : α → Bool) : ∀ (l : List α) (j : Nat) (h : j < l.length), j < (l.takeWhile p).length → p l[j] = true
  | [], j, h, _ => by simp at h
  | a :: l, j, h, hj => by
    rw [List.takeWhile_cons] at hj
    cases hp : p a
    · rw [hp] at hj; simp at hj
    · cases j with
      | zero => exact hp
      | succ j =>
        rw [hp, if_pos rfl, List.length_cons] at hj
        exact take_len_lt p l j (by simpa using h) (by omega)
theorem take_len_eq {α : Type} (p : α → Bool) : ∀ (l : List α) (j : Nat) (h : j < l.length), (l.takeWhile p).length = j → p l[j] = false
  | [], j, h, _ => by simp at h
  | a :: l, j, h, hj => by
    rw [List.takeWhile_cons] at hj
    cases hp : p a
    · rw [hp] at hj
      simp at hj
      subst hj
      exact hp
    · rw [hp, if_pos rfl, List.length_cons] at hj
      cases j with
      | zero => omega
      | succ j => exact take_len_eq p l j (by simpa using h) (by omega)
theorem digs_get (l : List ItemR) (j : Nat) (h : j < l.length) : (digs l)[j]'(by simpa [digs] using h) = digOf l[j] := by simp [digs]
theorem cut_le (d : ByteArray) (l : List ItemR) : cutK d (digs l) ≤ l.length := by
  unfold cutK
  have := (List.takeWhile_prefix (p := fun o => !lessB d o) (l := digs l)).length_le
  simpa [digs] using this
/-- Where the item goes, as far as the first j digests tell. -/
def atAt (d : ByteArray) (l : List ItemR) (j : Nat) : Nat := if cutK d (digs l) < j then cutK d (digs l) else l.length
theorem atAt_zero (d : ByteArray) (l : List ItemR) : atAt d l 0 = l.length := by simp [atAt]
theorem atAt_all (d : ByteArray) (l : List ItemR) : atAt d l l.length = cutK d (digs l) := by
  unfold atAt
  have := cut_le d l
  split <;> omega
theorem atAt_keep (d : ByteArray) (l : List ItemR) (j : Nat) (h : j < l.length) (hl : lessB d (digOf l[j]) = false) : atAt d l (j + 1) = atAt d l j := by
  have hne : cutK d (digs l) ≠ j := fun e => by
    have := take_len_eq (fun o => !lessB d o) (digs l) j (by simpa [digs] using h) e
    rw [digs_get l j h, hl] at this
    cases this
  unfold atAt
  split <;> split <;> omega
theorem atAt_new (d : ByteArray) (l : List ItemR) (j : Nat) (h : j < l.length) (hl : lessB d (digOf l[j]) = true) (ha : atAt d l j = l.length) : atAt d l (j + 1) = j := by
  have hle : ¬ j < cutK d (digs l) := fun e => by
    have := take_len_lt (fun o => !lessB d o) (digs l) j (by simpa [digs] using h) e
    rw [digs_get l j h, hl] at this
    cases this
  have := cut_le d l
  unfold atAt at ha ⊢
  split at ha
  · omega
  · rw [if_pos (by omega)]; omega
theorem atAt_old (d : ByteArray) (l : List ItemR) (j : Nat) (h : j < l.length) (ha : atAt d l j ≠ l.length) : atAt d l (j + 1) = atAt d l j := by
  unfold atAt at ha ⊢
  split at ha
  · rw [if_pos (by omega), if_pos (by assumption)]
  · exact absurd rfl ha
theorem atAt_le (d : ByteArray) (l : List ItemR) (j : Nat) : atAt d l j ≤ l.length := by
  have := cut_le d l
  unfold atAt
  split <;> omega
theorem hasD_take (l : List ItemR) (d : ByteArray) (j : Nat) (h : j < l.length) (h0 : hasD (l.take j) d = false) (hne : digOf l[j] ≠ d) : hasD (l.take (j + 1)) d = false := by
  rw [hasD_false] at h0 ⊢
  unfold digs at h0 ⊢
  rw [List.take_succ_eq_append_getElem h, List.map_append, List.mem_append]
  rintro (h1 | h1)
  · exact h0 h1
  · simp at h1
    exact hne h1.symm
theorem rows_sliced {α : Type} {f : α → List Value} {n : Nat} {w : World} {A : Option Addr} {l : List α} (h : RowsAt w A n f l) (c cap : Nat) (hcap : l.length ≤ cap) : RowsAt w (if cap = c then A else A.map (·.add (c * n))) n f (l.drop c) := fun h0 => by
  rw [List.length_drop] at h0
  obtain ⟨b, o, rfl, hb, hc⟩ := h (by omega)
  rw [if_neg (by omega)]
  refine ⟨b, o + c * n, by rw [Option.map_some, Addr.add_mid], hb, fun j hj => ?_⟩
  rw [List.length_drop] at hj
  have h2 := hc (c + j) (by omega)
  rw [List.getElem_drop]
  rw [Nat.add_assoc, ← Nat.add_mul]
  exact h2
theorem RowsAt_far {α : Type} {f : α → List Value} {n : Nat} {w w' : World} {A : Option Addr} {l : List α} (h : RowsAt w A n f l) (hb : ∀ b o, A = some ⟨b, o, none⟩ → w'.heap[b]? = w.heap[b]?) : RowsAt w' A n f l := fun h0 => by
  obtain ⟨b, o, e, hlt, hc⟩ := h h0
  have e1 := hb b o e
  refine ⟨b, o, e, ?_, fun j hj i v hv => (World.cell?_of_block (w := w) e1).trans (hc j hj i v hv)⟩
  rcases Nat.lt_or_ge b w'.heap.size with h7 | h7
  · exact h7
  · rw [Array.getElem?_eq_none h7, Array.getElem?_eq_getElem hlt] at e1
    cases e1
theorem wpList_slice_from {P : Program} {ops : Array Oper} {rest : List Oper} {op : Oper} {a : Act} {w : World} {K : Exit → Act → World → Prop} (ty e : TypeId) (x lo : Operand) (A : Option Addr) (n cap c size : Nat) (ho : op.op = .slice ty x (some lo) none none) (hw : Region.wanted op (yielded ops a.tmps) = true)
    (ht : P.underlying ty = some (.slice e)) (he : P.elem ty = e) (hs : ∀ w, (sizeOf e).run P w = .ok size w) (hx : a.eval x = .slice A n cap) (hl : a.eval lo = .int .i64 (c : Int)) (hc : c ≤ n) (hn : n ≤ cap)
    (h : wpList P ops K rest (a.put op.dst (.slice (if cap = c then A else A.map (·.add (c * size))) (n - c) (cap - c))) w) : wpList P ops K (op :: rest) a w := by
  refine wpList_step fun K' hK => ?_
  rw [if_pos hw]
  have ht' : P.underlying ty = some (.slice (P.elem ty)) := by rw [he]; exact ht
  have hr := run_slice_l (P := P) w ty A n cap ht' .i64 (c : Int) (by omega) (by omega)
  rw [he, hs] at hr
  unfold Oper.wp execOp
  simp only [ho, hx, hl, Option.map_some, Option.map_none, Sem.run_bind, run_sliceAt_slice (P := P) w ty _ _ _ _ ht', hr, Result.andThen_ok, Sem.run_pure, sliced, Int.toNat_natCast]
  exact hK _ _ h
theorem wpList_slice_rows {α : Type} {f : α → List Value} {P : Program} {ops : Array Oper} {rest : List Oper} {op : Oper} {a : Act} {w : World} {K : Exit → Act → World → Prop} (ty e : TypeId) (x lo : Operand) (A : Option Addr) (cap c size : Nat) (l : List α) (ho : op.op = .slice ty x (some lo) none none) (hw : Region.wanted op (yielded ops a.tmps) = true)
    (ht : P.underlying ty = some (.slice e)) (he : P.elem ty = e) (hs : ∀ w, (sizeOf e).run P w = .ok size w) (hx : a.eval x = .slice A l.length cap) (hl : a.eval lo = .int .i64 (c : Int)) (hc : c ≤ l.length) (hn : l.length ≤ cap) (hS : RowsAt w A size f l)
    (h : ∀ A', RowsAt w A' size f (l.drop c) → wpList P ops K rest (a.put op.dst (.slice A' (l.length - c) (cap - c))) w) : wpList P ops K (op :: rest) a w :=
  wpList_slice_from ty e x lo A l.length cap c size ho hw ht he hs hx hl hc hn (h _ (rows_sliced hS c cap hn))
set_option maxRecDepth 100000 in
theorem bs_item (x : ItemR) (w : World) : (Instr.buildSlice 29 1 #[(0, .agg (itA x))]).run Tryz.prog w = .ok (.slice (some ⟨w.heap.size, 0, none⟩) 1 1) (w.alloc (.cells (itA x) 50)) := by kernel_rfl
theorem hasD_at (l : List ItemR) (d : ByteArray) (j : Nat) (h : j < l.length) (he : digOf l[j] = d) : hasD l d = true := by
  rw [hasD_iff]
  exact List.mem_map.2 ⟨l[j], List.getElem_mem h, he⟩

set_option maxRecDepth 100000 in
set_option maxHeartbeats 1000000 in
theorem add_yes (k : KR) (x : ItemR) (w : World) (hT : Tab w) (hK : KIn w k) (hI : ItemIn w x) (hn : k.l.length ≤ 100000) (h : signedB k.sv x = true) : Calls Tryz.prog 39 #[.agg (knA k), .agg (itA x)] w (AddIs k x w) := by
  obtain ⟨w3, hC, hw3⟩ := AddCtx.new w k x
  have cS : ∀ y : Wd w3, y.w.cell? ⟨w.heap.size, 0, none⟩ = some (.slice k.sA k.sv.length k.sC) := fun y => (y.blk hC.bk).cell 0
  have cI : ∀ y : Wd w3, y.w.cell? ⟨w.heap.size, 1, none⟩ = some (.slice k.iA k.l.length k.iC) := fun y => (y.blk hC.bk).cell 1
  have hIt : ∀ y : Wd w3, (Instr.loadAt 50 (.pointer (some ⟨w.heap.size + 1, 0, none⟩))).run Tryz.prog y.w = .ok (.agg (itA x)) y.w := Wd.load hC.bi.lt (Blk.range hC.bi) Tryz.underlying50 rfl (by kernel_rfl)
  have hLk : ∀ y : Wd w3, (Instr.loadAt 31 (.pointer (some ⟨w.heap.size, 0, none⟩))).run Tryz.prog y.w = .ok (.agg (knA k)) y.w := Wd.load hC.bk.lt (Blk.range hC.bk) Tryz.underlying31 rfl (by kernel_rfl)
  have hBr : ∀ y : Wd w3, Blk y.w (w.heap.size + 1 + 1) 31 known0.cells.toArray := fun y => y.blk hC.br
  have hKy : ∀ y : Wd w3, KIn y.w k := fun y => hK.q (Q.trans hC.q y.q)
  have hIy : ∀ y : Wd w3, ItemIn y.w x := fun y => hI.q (Q.trans hC.q y.q)
  have hTy : ∀ y : Wd w3, Tab y.w := fun y => hT.q (Q.trans hC.q y.q)
  have HQ := Lib.hid hC.q
  have hg3' := hC.br.lt
  obtain ⟨u, hu⟩ : ∃ u : Wd w3, u.w = w3 := ⟨⟨w3, Q.refl _⟩, rfl⟩
  have HX := Lib.hid (hu.trans hw3)
  have hsl : k.sv.length ≤ maxLen := Nat.le_trans hK.svC.1 hK.svC.2
  clear hu hw3 hC
  generalize hD : digOf x = d
  have HD := Lib.hid hD
  clear hD
  go_enter Tryz.func39, Tryz.ntmps39
  go_upto_region 1 with (fail)
  refine (show Code.wp _ _ _ _ u.w → Code.wp _ _ _ _ _ from fun h => by rw [HX.out] at h; exact h) ?_
  have HR : Hid (itemRight x = true) := Lib.hid (by unfold signedB at h; rw [Bool.and_eq_true] at h; exact h.1)
  have hdg : ∀ y : Wd w3, Calls Tryz.prog 25 #[.agg (itA x)] y.w fun e w' => e = .returned (.string d) ∧ Q y.w w' := fun y => HD.out ▸ digest_any x y.w (hTy y) (hIy y)
  go_wp2_with (first | (refine wpList_load_run 50 (.tmp 3) (.pointer (some ⟨w.heap.size + 1, 0, none⟩)) (.agg (itA x)) ?_ ?_ ?_ ?_ ?_; rfl; rfl; rfl; exact hIt _) | (go_at_call 12; refine (right_at x _ _ (hIy _) HR.out).mono ?_; rintro e w' ⟨rfl, hq2⟩; obtain ⟨y, rfl⟩ := Wd.next _ hq2; clear hq2) | (go_at_call 26; refine (signed_at _ _ _ k.sv x _ _ (hTy _) (hIy _) (hKy _).sv hsl rfl h).mono ?_; rintro e w' ⟨rfl, hq2⟩; obtain ⟨y, rfl⟩ := Wd.next _ hq2; clear hq2) | (go_at_call 25; refine (hdg _).mono ?_; rintro e w' ⟨rfl, hq2⟩; obtain ⟨y, rfl⟩ := Wd.next _ hq2; clear hq2))
  go_loopw [7, 31] (fun a i wr => ∃ (j : Nat) (z : Wd w3), a = .int .i64 (atAt d k.l j : Nat) ∧ i = .int .i64 j ∧ wr = z.w ∧ j ≤ k.l.length ∧ Hid (hasD (k.l.take j) d = false)) (fun _ i _ => k.l.length - (intOf i).toNat)
  case atStart => exact ⟨0, _, by rw [atAt_zero], rfl, rfl, Nat.zero_le _, Lib.hid (by simp [hasD, digs])⟩
  case round =>
    obtain ⟨j, z, rfl, rfl, rfl, hj, hno⟩ := hrel
    have ha := atAt_le d k.l j
    by_cases hlt : j < k.l.length
    · obtain ⟨b, o, eA, hb, hld⟩ := (hKy z).items.load j hlt
      have hio := fun y : Wd z.w => ((hKy z).items.each _ (List.getElem_mem hlt)).q y.q
      rw [eA]
      have hTz : ∀ y : Wd z.w, Tab y.w := fun y => hTy ⟨y.w, Q.trans z.q y.q⟩
      have hzs := z.q.size
      generalize hX : k.l[j] = it at *
      have HXX := Lib.hid hX
      clear hX
      go_wp2_with (first | (refine wpList_load_run 50 (.tmp 34) (.pointer (some ⟨b, o + j * 49, none⟩)) (.agg (itA it)) ?_ ?_ ?_ ?_ ?_; rfl; rfl; rfl; exact hld ⟨_, Q.refl _⟩) | (refine wpList_store_blk (Blk.new z.w 50 item0.cells.toArray) rfl 50 (.tmp 9) (.tmp 35) it.cells rfl rfl rfl (by kernel_rfl) (it_all _) (Nat.le_refl 49) ?_))
      intro W hW hbel
      rw [splice_all _ _ (by rfl)] at hW
      have hqz : Q z.w W := hbel _ _ (Nat.le_refl _) (q_new _ _ _)
      have hq3 : Q w3 W := Q.trans z.q hqz
      have hLi : ∀ y : Wd W, (Instr.loadAt 50 (.pointer (some ⟨z.w.heap.size, 0, none⟩))).run Tryz.prog y.w = .ok (.agg (itA it)) y.w := Wd.load hW.lt (Blk.range hW) Tryz.underlying50 rfl (by kernel_rfl)
      have cI' : ∀ y : Wd W, y.w.cell? ⟨w.heap.size, 1, none⟩ = some (.slice (some ⟨b, o, none⟩) k.l.length k.iC) := fun y => eA ▸ cI ⟨y.w, Q.trans hq3 y.q⟩
      have hLk' : ∀ y : Wd W, (Instr.loadAt 31 (.pointer (some ⟨w.heap.size, 0, none⟩))).run Tryz.prog y.w = .ok (.agg (knA k)) y.w := fun y => hLk ⟨y.w, Q.trans hq3 y.q⟩
      have hBr' : ∀ y : Wd W, Blk y.w (w.heap.size + 1 + 1) 31 known0.cells.toArray := fun y => hBr ⟨y.w, Q.trans hq3 y.q⟩
      have hdg2 : ∀ y : Wd W, Calls Tryz.prog 25 #[.agg (itA it)] y.w fun e w' => e = .returned (.string (digOf it)) ∧ Q y.w w' := fun y => digest_any it y.w ((hTz ⟨W, hqz⟩).q y.q) (hio ⟨y.w, Q.trans hqz y.q⟩)
      have HQ3 := Lib.hid hq3
      obtain ⟨v, hv⟩ := Wd.first W
      rw [hv]
      clear hW hbel hld hv hqz hq3 hio hTz
      generalize hd2 : digOf it = d2 at *
      have HD2 := Lib.hid hd2
      clear hd2 cI hLk hBr hdg cS hIt
      by_cases he : d2 = d
      · have he1 : (d2.toList == d.toList) = true := by simp [he]
        have HE := Lib.hid he
        clear he
        go_wp2_with (first | (refine wpList_load_run 50 (.tmp 9) (.pointer (some ⟨z.w.heap.size, 0, none⟩)) (.agg (itA it)) ?_ ?_ ?_ ?_ ?_; rfl; rfl; rfl; exact hLi _) | (go_at_call 25; refine (hdg2 _).mono ?_; rintro e w' ⟨rfl, hq2⟩; obtain ⟨y, rfl⟩ := Wd.next _ hq2; clear hq2) | (refine wpList_load_run 31 (.tmp 2) (.pointer (some ⟨w.heap.size, 0, none⟩)) (.agg (knA k)) ?_ ?_ ?_ ?_ ?_; rfl; rfl; rfl; exact hLk' _) | (refine wpList_store_far (hBr' _) rfl 31 (.tmp 4) (.tmp 41) k.cells rfl rfl rfl (by kernel_rfl) (kn_all _) (Nat.le_refl 2) ?_))
        intro W2 hW2 hbel2 hfar2
        rw [splice_all _ _ (by rfl)] at hW2
        have hqW : Q w W2 := hbel2 _ _ (by omega) (Q.trans (Q.trans HQ.out HQ3.out) (Wd.q _))
        have hhas : hasD k.l (digOf x) = true := by rw [HD.out]; exact hasD_at k.l d j hlt (by rw [HXX.out, HD2.out]; exact HE.out)
        have hok : addOk k.sv k.l x = false := by unfold addOk; rw [hhas]; simp
        have HOK := Lib.hid hok
        have HL := Lib.hid (show addK k.sv k.l x = k.l by unfold addK; rw [hok]; rfl)
        clear hbel2 hfar2 hhas hok
        go_wp2_with fail
        exact bodyPost_ret (results_row_tmp rfl _ _ (w.heap.size + 1 + 1) 31 (knA k) (0, 0) _ _ rfl rfl hW2 Tryz.underlying31 rfl (by kernel_rfl)) rfl ⟨k, by rw [HOK.out]; rfl, rfl, HL.out.symm, hK.q hqW, hqW⟩
      · have he1 : (d2.toList == d.toList) = false := by
          rw [beq_eq_false_iff_ne]
          intro e
          rw [ByteArray.toList_eq, ByteArray.toList_eq] at e
          exact he (ba_ext e)
        have HNE := Lib.hid he
        clear he
        cases hls0 : lessB d2 d
        rotate_left
        · have hls : lessB d d2 = false := lessB_asymm hls0
          have hls' : Op.bytesLess d2.toList d.toList = true := hls0
          have HA := Lib.hid (atAt_keep d k.l j hlt (by rw [HXX.out, HD2.out]; exact hls))
          clear hls hls0
          go_wp2_with (first | (refine wpList_load_run 50 (.tmp 9) (.pointer (some ⟨z.w.heap.size, 0, none⟩)) (.agg (itA it)) ?_ ?_ ?_ ?_ ?_; rfl; rfl; rfl; exact hLi _) | (go_at_call 25; refine (hdg2 _).mono ?_; rintro e w' ⟨rfl, hq2⟩; obtain ⟨y, rfl⟩ := Wd.next _ hq2; clear hq2))
          exact ⟨⟨j + 1, ⟨_, Q.trans HQ3.out y.q⟩, by rw [HA.out], by go_num, rfl, by omega, Lib.hid (hasD_take k.l d j hlt hno.out (by rw [HXX.out, HD2.out]; exact HNE.out))⟩, by simp only [intOf]; omega⟩
        · have hls : lessB d d2 = true := by
            rcases lessB_three d d2 with h3 | h3 | h3
            · exact h3
            · exact absurd h3.symm HNE.out
            · rw [hls0] at h3; cases h3
          have hls' : Op.bytesLess d2.toList d.toList = false := hls0
          have hlr : lessB d (digOf k.l[j]) = true := by rw [HXX.out, HD2.out]; exact hls
          by_cases ha2 : atAt d k.l j = k.l.length
          · have HA := Lib.hid (atAt_new d k.l j hlt hlr ha2)
            have ha3 : (((atAt d k.l j : Nat) : Int) == (k.l.length : Int)) = true := by simp [ha2]
            clear hls hls0 ha2 hlr
            go_wp2_with (first | (refine wpList_load_run 50 (.tmp 9) (.pointer (some ⟨z.w.heap.size, 0, none⟩)) (.agg (itA it)) ?_ ?_ ?_ ?_ ?_; rfl; rfl; rfl; exact hLi _) | (go_at_call 25; refine (hdg2 _).mono ?_; rintro e w' ⟨rfl, hq2⟩; obtain ⟨y, rfl⟩ := Wd.next _ hq2; clear hq2))
            exact ⟨⟨j + 1, ⟨_, Q.trans HQ3.out y.q⟩, by rw [HA.out], by go_num, rfl, by omega, Lib.hid (hasD_take k.l d j hlt hno.out (by rw [HXX.out, HD2.out]; exact HNE.out))⟩, by simp only [intOf]; omega⟩
          · have HA := Lib.hid (atAt_old d k.l j hlt ha2)
            have ha3 : (((atAt d k.l j : Nat) : Int) == (k.l.length : Int)) = false := by rw [beq_eq_false_iff_ne]; omega
            clear hls hls0 ha2 hlr
            go_wp2_with (first | (refine wpList_load_run 50 (.tmp 9) (.pointer (some ⟨z.w.heap.size, 0, none⟩)) (.agg (itA it)) ?_ ?_ ?_ ?_ ?_; rfl; rfl; rfl; exact hLi _) | (go_at_call 25; refine (hdg2 _).mono ?_; rintro e w' ⟨rfl, hq2⟩; obtain ⟨y, rfl⟩ := Wd.next _ hq2; clear hq2))
            exact ⟨⟨j + 1, ⟨_, Q.trans HQ3.out y.q⟩, by rw [HA.out], by go_num, rfl, by omega, Lib.hid (hasD_take k.l d j hlt hno.out (by rw [HXX.out, HD2.out]; exact HNE.out))⟩, by simp only [intOf]; omega⟩
    · have hjn : j = k.l.length := by omega
      have hno' := hno.out
      rw [hjn, List.take_length] at hno'
      have hat : atAt d k.l j = cutK d (digs k.l) := by rw [hjn]; exact atAt_all d k.l
      have hcl := cut_le d k.l
      have HJ := Lib.hid hjn
      clear hjn
      generalize hc : cutK d (digs k.l) = c at *
      rw [hat]
      have HC := Lib.hid hc
      have HNO := Lib.hid hno'
      clear hc hat hno' ha hno
      obtain ⟨i0, hi, hz0, hz1, hz2⟩ := info_parts item_info
      have hKz := hKy z
      have hlc := hKz.lC
      have hnn : k.l.length ≤ j := by omega
      go_wp2_with (refine wpList_make_own _ rfl _ _ 29 rfl w3.heap.size 50 i0 _ 49 Tryz.underlying29 hi hz0 hz1 .i64 .i64 ((k.l.length : Int) + 1) (k.l.length + 1) rfl rfl (by omega) (by rw [hz2]; omega) (by simp only [maxLen]; omega) z.q.size ?_)
      intro w4 hown0 hg0
      have hown : Owns w4 w3.heap.size 50 49 (.slice (some ⟨z.w.heap.size, 0, none⟩) 0 (k.l.length + 1)) 0 (([] : List ItemR).flatMap ItemR.cells) := Owns.of hown0
      have hq4 : Q w3 w4 := Below.grown z.q hg0 z.q.size (fun _ h => by cases h)
      obtain ⟨y4, rfl⟩ : ∃ y4 : Wd w3, w4 = y4.w := ⟨⟨w4, hq4⟩, rfl⟩
      have hci : c ≤ k.iC := Nat.le_trans hcl hlc.1
      have hcm : k.iC ≤ 9223372036854775807 := by have := hlc.2; simp only [maxLen] at this; omega
      clear hown0 hg0 hq4
      go_wp2_with (at_builtin; refine wpList_append_rows it_len it_one rfl (.tmp 59) (.tmp 63) 29 50 i0 _ 568 rfl Tryz.underlying29 hi hz0 hz1 hz2 rfl (by decide) (by decide) w3.heap.size _ 0 [] rfl hown k.iA c k.iC (k.l.take c) rfl ((hKy y4).items.rows.take c) (by rw [List.length_take]; omega) (by omega) y4.q.size ?_)
      intro A5 cap5 w5 hc5 hm5 hown5 hg5
      have hq5 : Q w3 w5 := q_grown y4.q (Nat.le_refl _) hown hg5
      obtain ⟨y5, rfl⟩ : ∃ y5 : Wd w3, w5 = y5.w := ⟨⟨w5, hq5⟩, rfl⟩
      clear hown hg5 hq5
      go_upto_region 16 with (fail)
      refine wp_region_lit ?_
      refine wpList_move (.tmp 11) (.slice A5 c cap5) rfl rfl rfl ?_
      dsimp only [Act.put]
      simp only [List.setIfInBounds_toArray, List.set_cons_succ, List.set_cons_zero]
      refine wpList_load_run 50 (.tmp 3) (.pointer (some ⟨w.heap.size + 1, 0, none⟩)) (.agg (itA x)) rfl rfl rfl (hIt _) ?_
      dsimp only [Act.put]
      simp only [List.setIfInBounds_toArray, List.set_cons_succ, List.set_cons_zero]
      refine wpList_buildSlice_run 29 1 _ #[(0, .agg (itA x))] _ rfl rfl (by simp only [List.map_toArray, List.map_cons, List.map_nil]; rfl) (bs_item x _) ?_
      dsimp only [Act.put]
      simp only [List.setIfInBounds_toArray, List.set_cons_succ, List.set_cons_zero]
      have hownA := hown5.alloc (.cells (itA x) 50)
      have hy5s := y5.q.size
      refine wpList_append_rows it_len it_one rfl (.tmp 65) (.tmp 67) 29 50 i0 _ 568 rfl Tryz.underlying29 hi hz0 hz1 hz2 rfl (by decide) (by decide) w3.heap.size (.slice A5 c cap5) c (k.l.take c) rfl hownA (some ⟨y5.w.heap.size, 0, none⟩) 1 1 [x] rfl (RowsAt.one y5.w 50 x (itA x) rfl) rfl (by omega) (by simp; omega) ?_
      intro A6 cap6 w6 hc6 hm6 hown6 hg6
      have hq6 : Q w3 w6 := q_grown (Q.trans y5.q (q_new _ _ _)) (Nat.le_refl _) hownA hg6
      obtain ⟨y6, rfl⟩ : ∃ y6 : Wd w3, w6 = y6.w := ⟨⟨w6, hq6⟩, rfl⟩
      clear hownA hown5 hg6 hq6
      go_upto_region 17 with (fail)
      go_wp2_with (refine wpList_slice_rows (f := ItemR.cells) 29 50 (.tmp 71) (.tmp 72) k.iA k.iC c 49 k.l rfl rfl Tryz.underlying29 (by kernel_rfl) Tryz.sizeOf50 rfl rfl hcl hlc.1 (hKy y6).items.rows ?_)
      intro A7 hS7
      go_wp2_with (at_builtin; refine wpList_append_rows it_len it_one rfl (.tmp 69) (.tmp 73) 29 50 i0 _ 568 rfl Tryz.underlying29 hi hz0 hz1 hz2 rfl (by decide) (by decide) w3.heap.size (.slice A6 (c + 1) cap6) (c + 1) (k.l.take c ++ [x]) rfl hown6 A7 (k.l.length - c) (k.iC - c) (k.l.drop c) rfl hS7 (by rw [List.length_drop]) (by omega) y6.q.size ?_)
      intro A8 cap8 w8 hc8 hm8 hown8 hg8
      have hq8 : Q w3 w8 := q_grown y6.q (Nat.le_refl _) hown6 hg8
      obtain ⟨y8, rfl⟩ : ∃ y8 : Wd w3, w8 = y8.w := ⟨⟨w8, hq8⟩, rfl⟩
      clear hown6 hg8 hq8
      have e8 : insK k.l x = k.l.take c ++ x :: k.l.drop c := by unfold insK; rw [HD.out, HC.out]
      have hlen : (insK k.l x).length = c + 1 + (k.l.length - c) := by
        rw [e8, List.length_append, List.length_cons, List.length_take, List.length_drop]
        omega
      have hfl : List.flatMap ItemR.cells (List.take c k.l) ++ (x.cells ++ List.flatMap ItemR.cells (List.drop c k.l)) = (insK k.l x).flatMap ItemR.cells := by
        rw [e8, List.flatMap_append, List.flatMap_cons]
      rw [hfl] at hown8
      have hbase : ∀ b o, A8 = some ⟨b, o, none⟩ → w3.heap.size ≤ b := fun b o e => (hown8.lt b (by rw [e]; rfl)).1
      have hr8 : RowsAt y8.w A8 49 ItemR.cells (insK k.l x) := Owns.rows it_len hown8 hlen.symm
      have hm8' : (insK k.l x).length ≤ cap8 := by rw [hlen]; exact hc8
      have hg3 : w.heap.size + 1 + 1 < w3.heap.size := hg3'
      have hok : addOk k.sv k.l x = true := by unfold addOk; rw [h, HD.out, HNO.out]; rfl
      have HOK := Lib.hid hok
      have HL := Lib.hid (show addK k.sv k.l x = insK k.l x by unfold addK; rw [hok]; rfl)
      rw [← hlen]
      clear hown8 hfl e8 hlen hok hS7 hc8
      go_wp2_with (refine wpList_store_far (hBr y8) rfl 31 (.tmp 4) (.tmp 78) (KR.mk k.sv k.sA k.sC (insK k.l x) A8 cap8).cells rfl rfl rfl (by kernel_rfl) (kn_all _) (Nat.le_refl 2) ?_)
      intro W2 hW2 hbel2 hfar2
      rw [splice_all _ _ (by rfl)] at hW2
      have hq2 : Q w W2 := hbel2 _ _ (by omega) (Q.trans HQ.out y8.q)
      have hK2 : KIn W2 (KR.mk k.sv k.sA k.sC (insK k.l x) A8 cap8) := ⟨hK.sv.q hq2, ⟨RowsAt_far hr8 fun b o e => hfar2 b (by have := hbase b o e; omega), fun y hy => by
        rcases (mem_insK k.l x y).1 hy with rfl | hy
        · exact hI.q hq2
        · exact (hK.items.each y hy).q hq2⟩, hK.svC, hm8', hm8⟩
      clear hbel2 hfar2
      go_wp2_with fail
      exact bodyPost_ret (results_row_tmp rfl _ _ (w.heap.size + 1 + 1) 31 (knA (KR.mk k.sv k.sA k.sC (insK k.l x) A8 cap8)) (0, 0) _ _ rfl rfl hW2 Tryz.underlying31 rfl (by kernel_rfl)) rfl ⟨KR.mk k.sv k.sA k.sC (insK k.l x) A8 cap8, by rw [HOK.out]; rfl, rfl, HL.out.symm, hK2, hq2⟩
theorem add_any (k : KR) (x : ItemR) (w : World) (hT : Tab w) (hK : KIn w k) (hI : ItemIn w x) (hn : k.l.length ≤ 100000) : Calls Tryz.prog 39 #[.agg (knA k), .agg (itA x)] w (AddIs k x w) := by
  cases h : signedB k.sv x
  · exact add_no k x w hT hK hI h
  · exact add_yes k x w hT hK hI hn h
end Go.Proofs.YtflgkplneekpfaaGreatDoor.Known

namespace Go.Proofs.YtflgkplneekpfaaGreatDoor.Known
open Go.RowKit Grp Mem _root_.Go.Proofs.YtflgkplneekpfaaGreatDoor.Code Sha Sign _root_.Go.Proofs.YtflgkplneekpfaaGreatDoor.Item

end Go.Proofs.YtflgkplneekpfaaGreatDoor.Known

namespace Go.Proofs.YtflgkplneekpfaaGreatDoor.Known
open Go.RowKit Grp Mem _root_.Go.Proofs.YtflgkplneekpfaaGreatDoor.Code Sha Sign _root_.Go.Proofs.YtflgkplneekpfaaGreatDoor.Item

theorem publicsB_step (l : List Int) (j : Nat) (h : j < l.length) (h0 : publicsB (l.take j) = true) (h1 : publicB l[j] = true) : publicsB (l.take (j + 1)) = true := by
  unfold publicsB at h0 ⊢
  rw [List.take_succ_eq_append_getElem h, List.all_append, h0]
  simp [h1]
theorem publicsB_no (l : List Int) (j : Nat) (h : j < l.length) (h1 : publicB l[j] = false) : publicsB l = false := by
  unfold publicsB
  rw [List.all_eq_false]
  exact ⟨l[j], List.getElem_mem h, by simp [h1]⟩
theorem rightK_long {sv : List Int} {l : List ItemR} (h : 20 < sv.length) : rightK sv l = false := by
  unfold rightK
  rw [decide_eq_false (by omega)]
  rfl
theorem rightK_pub {sv : List Int} {l : List ItemR} (h : publicsB sv = false) : rightK sv l = false := by
  unfold rightK
  rw [h]
  simp
/-- The digest before the j-th item. -/
def lastD (l : List ItemR) (j : Nat) : ByteArray := ((digs (l.take j)).getLast?).getD emptyT
theorem chainB_snoc : ∀ (l : List ByteArray) (a b : ByteArray), chainB a (l ++ [b]) = (chainB a l && lessB (l.getLast?.getD a) b)
  | [], a, b => by simp [chainB]
  | x :: l, a, b => by
    rw [List.cons_append, chainB, chainB, chainB_snoc l x b, Bool.and_assoc]
    cases l with
    | nil => rfl
    | cons y l => rw [List.getLast?_cons_cons, List.getLast?_cons]; rfl
theorem digs_snoc (l : List ItemR) (j : Nat) (h : j < l.length) : digs (l.take (j + 1)) = digs (l.take j) ++ [digOf l[j]] := by
  unfold digs
  rw [List.take_succ_eq_append_getElem h, List.map_append]
  rfl
theorem lastD_step (l : List ItemR) (j : Nat) (h : j < l.length) : lastD l (j + 1) = digOf l[j] := by
  unfold lastD
  rw [digs_snoc l j h]
  simp
def goodTo (sv : List Int) (l : List ItemR) (j : Nat) : Bool := (l.take j).all (signedB sv) && chainB emptyT (digs (l.take j))
theorem goodTo_step (sv : List Int) (l : List ItemR) (j : Nat) (h : j < l.length) : goodTo sv l (j + 1) = (goodTo sv l j && (signedB sv l[j] && lessB (lastD l j) (digOf l[j]))) := by
  unfold goodTo lastD
  rw [digs_snoc l j h, chainB_snoc, List.take_succ_eq_append_getElem h, List.all_append]
  simp only [List.all_cons, List.all_nil, Bool.and_true]
  cases (l.take j).all (signedB sv) <;> cases signedB sv l[j] <;> cases chainB emptyT (digs (l.take j)) <;> simp
theorem goodTo_mono (sv : List Int) (l : List ItemR) : ∀ d j, goodTo sv l j = false → goodTo sv l (j + d) = false
  | 0, j, h => h
  | d + 1, j, h => by
    by_cases hlt : j + d < l.length
    · rw [← Nat.add_assoc, goodTo_step sv l (j + d) hlt, goodTo_mono sv l d j h]
      rfl
    · have h2 := goodTo_mono sv l d j h
      unfold goodTo at h2 ⊢
      rw [List.take_of_length_le (by omega)] at h2 ⊢
      exact h2
theorem rightK_eq {sv : List Int} {l : List ItemR} (h1 : sv.length ≤ 20) (h2 : publicsB sv = true) : rightK sv l = goodTo sv l l.length := by
  unfold rightK goodTo
  rw [decide_eq_true h1, h2, List.take_length]
  rfl
theorem rightK_no {sv : List Int} {l : List ItemR} (h1 : sv.length ≤ 20) (h2 : publicsB sv = true) (j : Nat) (h : j < l.length) (hb : (signedB sv l[j] && lessB (lastD l j) (digOf l[j])) = false) : rightK sv l = false := by
  rw [rightK_eq h1 h2]
  have h3 : goodTo sv l (j + 1) = false := by rw [goodTo_step sv l j h, hb, Bool.and_false]
  have := goodTo_mono sv l (l.length - (j + 1)) (j + 1) h3
  rwa [show j + 1 + (l.length - (j + 1)) = l.length by omega] at this

set_option maxRecDepth 100000 in
set_option maxHeartbeats 1000000 in
theorem kright_any (k : KR) (w : World) (hT : Tab w) (hK : KIn w k) : Calls Tryz.prog 29 #[.agg (knA k)] w fun e w' => e = .returned (.bool (rightK k.sv k.l)) ∧ Q w w' := by
  obtain ⟨w1, x, hx, hq1, hbk⟩ := boxedB w 31 k.cells
  have hx : w.alloc (.cells (knA k) 31) = x.w := hx
  have cS : ∀ y : Wd w1, y.w.cell? ⟨w.heap.size, 0, none⟩ = some (.slice k.sA k.sv.length k.sC) := fun y => (y.blk hbk).cell 0
  have cI : ∀ y : Wd w1, y.w.cell? ⟨w.heap.size, 1, none⟩ = some (.slice k.iA k.l.length k.iC) := fun y => (y.blk hbk).cell 1
  have hKy : ∀ y : Wd w1, KIn y.w k := fun y => hK.q (Q.trans hq1 y.q)
  have hTy : ∀ y : Wd w1, Tab y.w := fun y => hT.q (Q.trans hq1 y.q)
  have hlb : k.l.length ≤ 9223372036854775807 := by have h8 := hK.lC.1; have h9 := hK.lC.2; simp only [maxLen] at h9; omega
  have hsb : k.sv.length ≤ 9223372036854775807 := by have h8 := hK.svC.1; have h9 := hK.svC.2; simp only [maxLen] at h9; omega
  have hsl : k.sv.length ≤ maxLen := Nat.le_trans hK.svC.1 hK.svC.2
  have HQ := Lib.hid hq1
  clear hbk hq1
  by_cases hlong : 20 < k.sv.length
  · have HR := Lib.hid (rightK_long (l := k.l) hlong)
    go_enter Tryz.func29, Tryz.ntmps29
    go_wp2_with fail
    go_ret
    exact ⟨by rw [HR.out]; rfl, Q.trans HQ.out x.q⟩
  have hshort : k.sv.length ≤ 20 := by omega
  clear hlong
  go_enter Tryz.func29, Tryz.ntmps29
  go_wp2_with fail
  go_loopw [16] (fun i wr => ∃ (j : Nat), i = .int .i64 j ∧ wr = x.w ∧ j ≤ k.sv.length ∧ Hid (publicsB (k.sv.take j) = true)) (fun i _ => k.sv.length - (intOf i).toNat)
  case atStart => exact ⟨0, rfl, rfl, Nat.zero_le _, Lib.hid rfl⟩
  case round =>
    obtain ⟨j, rfl, rfl, hj, hp⟩ := hrel
    by_cases hlt : j < k.sv.length
    · obtain ⟨b, o, eA, hb, hc⟩ := (hKy x).sv (by omega)
      have hce : x.w.cell? ⟨b, o + j, none⟩ = some (.int .i64 k.sv[j]) := hc j hlt
      clear hc
      rw [eA]
      have HS := Lib.hid (publicsB_step k.sv j hlt hp.out)
      have HN := Lib.hid (publicsB_no k.sv j hlt)
      generalize k.sv[j] = n at *
      by_cases h1 : n < 1
      · have HR := Lib.hid (rightK_pub (l := k.l) (HN.out (by simp [publicB, withinB]; omega)))
        go_wp2_with fail
        go_ret
        exact ⟨by rw [HR.out]; rfl, Q.trans HQ.out x.q⟩
      · by_cases h2 : 2305843009213693950 < n
        · have HR := Lib.hid (rightK_pub (l := k.l) (HN.out (by simp [publicB, withinB]; omega)))
          go_wp2_with fail
          go_ret
          exact ⟨by rw [HR.out]; rfl, Q.trans HQ.out x.q⟩
        · go_wp2_with fail
          exact ⟨⟨j + 1, by go_num, by trivial, by omega, Lib.hid (HS.out (by simp [publicB, withinB]; omega))⟩, by simp only [intOf]; omega⟩
    · have hjn : j = k.sv.length := by omega
      have hp' := hp.out
      rw [hjn, List.take_length] at hp'
      have HP := Lib.hid hp'
      clear hp' hjn
      go_wp2_with fail
      go_loopw [5, 30] (fun a i wr => ∃ (j : Nat) (z : Wd w1), a = .string (lastD k.l j) ∧ i = .int .i64 j ∧ wr = z.w ∧ j ≤ k.l.length ∧ Hid (goodTo k.sv k.l j = true)) (fun _ i _ => k.l.length - (intOf i).toNat)
      case atStart => exact ⟨0, x, rfl, rfl, rfl, Nat.zero_le _, Lib.hid rfl⟩
      case round =>
        obtain ⟨j, z, rfl, rfl, rfl, hj, hg⟩ := hrel
        by_cases hlt : j < k.l.length
        · obtain ⟨b, o, eA, hb, hld⟩ := (hKy z).items.load j hlt
          have hio := fun y : Wd z.w => ((hKy z).items.each _ (List.getElem_mem hlt)).q y.q
          rw [eA]
          have hzs := z.q.size
          have HN := Lib.hid (rightK_no hshort HP.out j hlt)
          have HG := Lib.hid (goodTo_step k.sv k.l j hlt)
          have HL := Lib.hid (lastD_step k.l j hlt)
          generalize k.l[j] = it at *
          generalize lastD k.l j = last at *
          go_wp2_with (first | (refine wpList_load_run 50 (.tmp 32) (.pointer (some ⟨b, o + j * 49, none⟩)) (.agg (itA it)) ?_ ?_ ?_ ?_ ?_; rfl; rfl; rfl; exact hld ⟨_, Q.refl _⟩) | (refine wpList_store_blk (Blk.new z.w 50 item0.cells.toArray) rfl 50 (.tmp 7) (.tmp 33) it.cells rfl rfl rfl (by kernel_rfl) (it_all _) (Nat.le_refl 49) ?_))
          intro W hW hbel
          rw [splice_all _ _ (by rfl)] at hW
          have hqz : Q z.w W := hbel _ _ (Nat.le_refl _) (q_new _ _ _)
          have hq3 : Q w1 W := Q.trans z.q hqz
          have hLi : ∀ y : Wd W, (Instr.loadAt 50 (.pointer (some ⟨z.w.heap.size, 0, none⟩))).run Tryz.prog y.w = .ok (.agg (itA it)) y.w := Wd.load hW.lt (Blk.range hW) Tryz.underlying50 rfl (by kernel_rfl)
          have cS' : ∀ y : Wd W, y.w.cell? ⟨w.heap.size, 0, none⟩ = some (.slice k.sA k.sv.length k.sC) := fun y => cS ⟨y.w, Q.trans hq3 y.q⟩
          have hTW : ∀ y : Wd W, Tab y.w := fun y => hTy ⟨y.w, Q.trans hq3 y.q⟩
          have hSW : ∀ y : Wd W, Ints y.w k.sA k.sv := fun y => (hKy ⟨y.w, Q.trans hq3 y.q⟩).sv
          have hIi : ∀ y : Wd W, ItemIn y.w it := fun y => hio ⟨y.w, Q.trans hqz y.q⟩
          have HQ3 := Lib.hid hq3
          obtain ⟨v, hv⟩ := Wd.first W
          rw [hv]
          clear hW hbel hld hv hqz hq3 hio cS cI
          cases hs : signedB k.sv it
          · have HR := Lib.hid (HN.out (by rw [hs]; rfl))
            have HSS := Lib.hid hs
            clear hs
            cases hr : itemRight it
            all_goals
              have HRR := Lib.hid hr
              clear hr
              go_wp2_with (first | (refine wpList_load_run 50 (.tmp 7) (.pointer (some ⟨z.w.heap.size, 0, none⟩)) (.agg (itA it)) ?_ ?_ ?_ ?_ ?_; rfl; rfl; rfl; exact hLi _) | (go_at_call 12; refine (right_at it _ _ (hIi _) HRR.out).mono ?_; rintro e w' ⟨rfl, hq2⟩; obtain ⟨y, rfl⟩ := Wd.next _ hq2; clear hq2) | (go_at_call 26; refine (signed_at _ _ _ k.sv it _ _ (hTW _) (hIi _) (hSW _) hsl rfl HSS.out).mono ?_; rintro e w' ⟨rfl, hq2⟩; obtain ⟨y, rfl⟩ := Wd.next _ hq2; clear hq2) | (go_at_call 25; refine (digest_any it _ (hTW _) (hIi _)).mono ?_; rintro e w' ⟨rfl, hq2⟩; obtain ⟨y, rfl⟩ := Wd.next _ hq2; clear hq2))
              go_ret
              exact ⟨by rw [HR.out]; rfl, Q.trans (Q.trans HQ.out HQ3.out) (Wd.q _)⟩
          · have HSS := Lib.hid hs
            have HRR : Hid (itemRight it = true) := Lib.hid (by unfold signedB at hs; rw [Bool.and_eq_true] at hs; exact hs.1)
            clear hs
            generalize hd2 : digOf it = d2 at *
            have HD2 := Lib.hid hd2
            have hdg2 : ∀ y : Wd W, Calls Tryz.prog 25 #[.agg (itA it)] y.w fun e w' => e = .returned (.string d2) ∧ Q y.w w' := fun y => hd2 ▸ digest_any it y.w (hTW y) (hIi y)
            have hle := leqB_eq d2 last
            clear hd2
            cases hl : lessB last d2
            · have HR := Lib.hid (HN.out (by rw [HSS.out, hl]; rfl))
              rw [hl] at hle
              clear hl
              go_wp2_with (first | (refine wpList_load_run 50 (.tmp 7) (.pointer (some ⟨z.w.heap.size, 0, none⟩)) (.agg (itA it)) ?_ ?_ ?_ ?_ ?_; rfl; rfl; rfl; exact hLi _) | (go_at_call 12; refine (right_at it _ _ (hIi _) HRR.out).mono ?_; rintro e w' ⟨rfl, hq2⟩; obtain ⟨y, rfl⟩ := Wd.next _ hq2; clear hq2) | (go_at_call 26; refine (signed_at _ _ _ k.sv it _ _ (hTW _) (hIi _) (hSW _) hsl rfl HSS.out).mono ?_; rintro e w' ⟨rfl, hq2⟩; obtain ⟨y, rfl⟩ := Wd.next _ hq2; clear hq2) | (go_at_call 25; refine (hdg2 _).mono ?_; rintro e w' ⟨rfl, hq2⟩; obtain ⟨y, rfl⟩ := Wd.next _ hq2; clear hq2))
              go_ret
              exact ⟨by rw [HR.out]; rfl, Q.trans (Q.trans HQ.out HQ3.out) (Wd.q _)⟩
            · have HG2 := Lib.hid (show goodTo k.sv k.l (j + 1) = true by rw [HG.out, hg.out, HSS.out, hl]; rfl)
              rw [hl] at hle
              clear hl
              go_wp2_with (first | (refine wpList_load_run 50 (.tmp 7) (.pointer (some ⟨z.w.heap.size, 0, none⟩)) (.agg (itA it)) ?_ ?_ ?_ ?_ ?_; rfl; rfl; rfl; exact hLi _) | (go_at_call 12; refine (right_at it _ _ (hIi _) HRR.out).mono ?_; rintro e w' ⟨rfl, hq2⟩; obtain ⟨y, rfl⟩ := Wd.next _ hq2; clear hq2) | (go_at_call 26; refine (signed_at _ _ _ k.sv it _ _ (hTW _) (hIi _) (hSW _) hsl rfl HSS.out).mono ?_; rintro e w' ⟨rfl, hq2⟩; obtain ⟨y, rfl⟩ := Wd.next _ hq2; clear hq2) | (go_at_call 25; refine (hdg2 _).mono ?_; rintro e w' ⟨rfl, hq2⟩; obtain ⟨y, rfl⟩ := Wd.next _ hq2; clear hq2))
              exact ⟨⟨j + 1, ⟨_, Q.trans HQ3.out y.q⟩, by rw [HL.out], by go_num, rfl, by omega, HG2⟩, by simp only [intOf]; omega⟩
        · have hjn : j = k.l.length := by omega
          have HR := Lib.hid (show rightK k.sv k.l = true by rw [rightK_eq hshort HP.out, ← hjn]; exact hg.out)
          clear hjn
          go_wp2_with fail
          go_ret
          exact ⟨by rw [HR.out]; rfl, Q.trans HQ.out z.q⟩
end Go.Proofs.YtflgkplneekpfaaGreatDoor.Known

namespace Go.Proofs.YtflgkplneekpfaaGreatDoor.Known
open Go.RowKit Grp Mem _root_.Go.Proofs.YtflgkplneekpfaaGreatDoor.Code Sha Sign _root_.Go.Proofs.YtflgkplneekpfaaGreatDoor.Item

end Go.Proofs.YtflgkplneekpfaaGreatDoor.Known

namespace Go.Proofs.YtflgkplneekpfaaGreatDoor.Known
open Go.RowKit Grp Mem _root_.Go.Proofs.YtflgkplneekpfaaGreatDoor.Code Sha Sign _root_.Go.Proofs.YtflgkplneekpfaaGreatDoor.Item

end Go.Proofs.YtflgkplneekpfaaGreatDoor.Known

namespace Go.Proofs.YtflgkplneekpfaaGreatDoor.Known
open Go.RowKit Grp Mem _root_.Go.Proofs.YtflgkplneekpfaaGreatDoor.Code Sha Sign _root_.Go.Proofs.YtflgkplneekpfaaGreatDoor.Item

end Go.Proofs.YtflgkplneekpfaaGreatDoor.Known

namespace Go.Proofs.YtflgkplneekpfaaGreatDoor.Known
open Go.RowKit Grp Mem _root_.Go.Proofs.YtflgkplneekpfaaGreatDoor.Code Sha Sign _root_.Go.Proofs.YtflgkplneekpfaaGreatDoor.Item

/-! ### What lies apart from a block of slices -/
structure Aside (w W : World) (g : Nat) : Prop where
  only : ∀ o v, w.cell? ⟨g, o, none⟩ = some v → ∃ A n c, v = .slice A n c
  far : ∀ b, b ≠ g → W.heap[b]? = w.heap[b]?
  size : w.heap.size ≤ W.heap.size
theorem Aside.ne {w W : World} {g b o : Nat} {v : Value} (h : Aside w W g) (hc : w.cell? ⟨b, o, none⟩ = some v) (hv : ∀ A n c, v ≠ .slice A n c) : b ≠ g := fun e => by
  subst e
  obtain ⟨A, n, c, rfl⟩ := h.only o v hc
  exact hv A n c rfl
theorem Aside.cell {w W : World} {g b : Nat} (h : Aside w W g) (hb : b ≠ g) (o : Nat) : W.cell? ⟨b, o, none⟩ = w.cell? ⟨b, o, none⟩ := World.cell?_of_block (w := w) (h.far b hb)
theorem Aside.strs {w W : World} {g : Nat} {A : Option Addr} {l : List ByteArray} (h : Aside w W g) (hs : Strs w A l) : Strs W A l := fun h0 => by
  obtain ⟨b, o, e, hb, hc⟩ := hs h0
  have hne := h.ne (hc 0 h0) (by simp)
  exact ⟨b, o, e, Nat.lt_of_lt_of_le hb h.size, fun j hj => (h.cell hne _).trans (hc j hj)⟩
theorem Aside.ints {w W : World} {g : Nat} {A : Option Addr} {l : List Int} (h : Aside w W g) (hs : Ints w A l) : Ints W A l := fun h0 => by
  obtain ⟨b, o, e, hb, hc⟩ := hs h0
  have hne := h.ne (hc 0 h0) (by simp)
  exact ⟨b, o, e, Nat.lt_of_lt_of_le hb h.size, fun j hj => (h.cell hne _).trans (hc j hj)⟩
theorem Aside.wrs {w W : World} {g : Nat} {A : Option Addr} {l : List WrapV} (h : Aside w W g) (hs : Wrs w A l) : Wrs W A l := fun h0 => by
  obtain ⟨b, o, e, hb, hc⟩ := hs h0
  have hne := h.ne (hc 0 h0 0 _ rfl) (by simp)
  exact ⟨b, o, e, Nat.lt_of_lt_of_le hb h.size, fun j hj i v hv => (h.cell hne _).trans (hc j hj i v hv)⟩
theorem Aside.item {w W : World} {g : Nat} {x : ItemR} (h : Aside w W g) (hs : ItemIn w x) : ItemIn W x := ⟨⟨h.strs hs.act.to, h.wrs hs.act.wraps, hs.act.toC, hs.act.wrC⟩, ⟨h.strs hs.dec.to, hs.dec.toC⟩⟩
theorem Aside.items {w W : World} {g : Nat} {A : Option Addr} {l : List ItemR} (h : Aside w W g) (hs : ItemsIn w A l) : ItemsIn W A l := ⟨fun h0 => by
  obtain ⟨b, o, e, hb, hc⟩ := hs.rows h0
  have hne := h.ne (hc 0 h0 0 _ rfl) (by simp)
  exact ⟨b, o, e, Nat.lt_of_lt_of_le hb h.size, fun j hj i v hv => (h.cell hne _).trans (hc j hj i v hv)⟩, fun x hx => h.item (hs.each x hx)⟩
theorem Aside.known {w W : World} {g : Nat} {k : KR} (h : Aside w W g) (hs : KIn w k) : KIn W k := ⟨h.ints hs.sv, h.items hs.items, hs.svC, hs.lC⟩

end Go.Proofs.YtflgkplneekpfaaGreatDoor.Known

namespace Go.Proofs.YtflgkplneekpfaaGreatDoor.Known
open Go.RowKit Grp Mem _root_.Go.Proofs.YtflgkplneekpfaaGreatDoor.Code Sha Sign _root_.Go.Proofs.YtflgkplneekpfaaGreatDoor.Item

/-- An element's address, the slice at hand. -/
theorem wpList_index_rows {P : Program} {ops : Array Oper} {rest : List Oper} {o : Oper} {a : Act} {w : World} {K : Exit → Act → World → Prop} (t e : TypeId) (x i : Operand) (b off n c m k : Nat) (ho : o.op = .indexAddr t x i) (hw : Region.wanted o (yielded ops a.tmps) = true)
    (hx : a.eval x = .slice (some ⟨b, off, none⟩) n c) (hi : a.eval i = .int .i64 (m : Int)) (ht : P.underlying t = some (.slice e)) (he : P.elem t = e) (hs : ∀ w, (sizeOf e).run P w = .ok k w) (hm : m < n) (h : wpList P ops K rest (a.put o.dst (.pointer (some ⟨b, off + m * k, none⟩))) w) : wpList P ops K (o :: rest) a w := by
  refine wpList_step fun K' hK => ?_
  rw [if_pos hw]
  have hr := run_indexAt_slice (P := P) (w := w) t ⟨b, off, none⟩ n c .i64 (m : Int) (by rw [he]; exact ht)
  rw [if_pos ⟨by omega, by omega⟩, he, hs, Int.toNat_natCast] at hr
  unfold Oper.wp execOp
  simp only [ho, hx, hi, Sem.run_bind, hr, Result.andThen_ok, Sem.run_pure]
  refine hK _ _ ?_
  rw [Addr.add_mid]
  exact h
end Go.Proofs.YtflgkplneekpfaaGreatDoor.Known

namespace Go.Proofs.YtflgkplneekpfaaGreatDoor.Item
open Go.RowKit Grp Mem _root_.Go.Proofs.YtflgkplneekpfaaGreatDoor.Code Sha Sign

def BigB (b : BallotV) : Prop := b.actor.size ≤ 140737488351232 ∧ b.claim.size ≤ 1000 ∧ ∀ n ∈ [b.server, b.gen, b.time], n ≤ 9223372036854775807
def BigI (i : ItemR) : Prop := i.kind = 2 ∧ BigB i.ballot
theorem bigB_I {b : BallotV} (h : BigB b) : BigI (itBallot b) := ⟨rfl, h⟩
set_option maxRecDepth 100000 in
set_option maxHeartbeats 4000000 in
theorem bballot_big (B g : Nat) (L : List UInt8) (i : ItemR) (w : World) (hb : Bld B g w L) (hL : L.length ≤ 1000) (h_actor : i.ballot.actor.size ≤ 140737488351232) (h_claim : i.ballot.claim.size ≤ 1000) (hn : ∀ n ∈ [i.ballot.server, i.ballot.gen, i.ballot.time], n ≤ 9223372036854775807) :
    Calls Tryz.prog 131 #[.pointer (some ⟨g, 0, none⟩), .agg (itA i)] w fun e w' => e = .returned (.tuple #[]) ∧ (Bld B g w' (L ++ ballotL i.ballot) ∧ Tk B g w w') := by
  obtain ⟨w1, x, hx, hq1, hl, hr⟩ := boxed w 50 i.cells
  have hx : w.alloc (.cells (itA i) 50) = x.w := hx
  have hAc := item_ballot hl hr
  have hg := hb.stay
  have hbx := Lib.hid ((hb.q hq1).q x.q)
  have hqx := Lib.hid (Q.trans hq1 x.q)
  have hsx : w.heap.size < x.w.heap.size := Nat.lt_of_lt_of_le hl x.q.size
  clear hr hb
  go_enter Tryz.func131, Tryz.ntmps131
  go_wp2_with (first | (refine wpList_load_run 46 (.tmp 5) (.pointer (some ⟨w.heap.size, 30, none⟩)) (.agg (ballotA i.ballot)) ?_ ?_ ?_ ?_ ?_; rfl; rfl; rfl; exact hAc _) | (refine wpList_store_blk (Blk.new x.w 46 ballot0.cells.toArray) rfl 46 (.tmp 4) (.tmp 6) i.ballot.cells rfl rfl rfl (by kernel_rfl) (ballot_all _) (Nat.le_refl 7) ?_))
  intro W hW hbel
  rw [splice_all _ _ (by rfl)] at hW
  have hqW : Q w W := hbel _ _ (by omega) (Below.alloc hqx.out (by omega) _)
  have hbW : Bld B g W L := hbx.out.q (hbel _ _ (Nat.le_refl _) (q_new _ _ _))
  have hst : Stay B g W x.w.heap.size := Stay.blk hW (by omega) (by decide)
  have c0 := Kd.cell (v := .int .i64 i.ballot.server) hW hst 0 rfl
  have c1 := Kd.cell (v := .string i.ballot.actor) hW hst 1 rfl
  have c2 := Kd.cell (v := .int .i64 i.ballot.gen) hW hst 2 rfl
  have c3 := Kd.cell (v := .string i.ballot.claim) hW hst 3 rfl
  have c4 := Kd.cell (v := .int .i64 i.ballot.time) hW hst 4 rfl
  obtain ⟨y, hy⟩ := Kd.first B g W
  have hby : Bld B g y.w L := hy ▸ hbW
  rw [hy]
  have HW := Lib.hid hqW
  have HS := Lib.hid hst
  have HWB := Lib.hid hW
  clear hW hbel hAc hst hx hy hqW hbW
  have t_actor := textL_length i.ballot.actor
  have t_claim := textL_length i.ballot.claim
  have n_server := numL_bd i.ballot.server
  have b_server := hn i.ballot.server (by simp)
  have n_gen := numL_bd i.ballot.gen
  have b_gen := hn i.ballot.gen (by simp)
  have n_time := numL_bd i.ballot.time
  have b_time := hn i.ballot.time (by simp)
  clear hn
  go_wp2_with (go_at_call 77; refine (nums_lit hby [i.ballot.server] _ _ _ rfl rfl rfl (by simp; omega) (by simp only [List.length_append, List.flatMap_cons, List.flatMap_nil, List.length_cons, List.length_nil]; omega)).mono ?_; rintro e w' ⟨rfl, hb1, hk1⟩; obtain ⟨y1, rfl⟩ := Kd.next _ hk1; clear hk1)
  go_wp2_with (go_at_call 187; refine (texts_lit hb1 [i.ballot.actor] _ _ 140737488351232 _ rfl rfl rfl (by simp) (by simpa using h_actor) (by simp only [List.length_append, List.flatMap_cons, List.flatMap_nil, List.length_cons, List.length_nil]; omega)).mono ?_; rintro e w' ⟨rfl, hb2, hk1⟩; obtain ⟨y2, rfl⟩ := Kd.next _ hk1; clear hk1)
  go_wp2_with (go_at_call 77; refine (nums_lit hb2 [i.ballot.gen] _ _ _ rfl rfl rfl (by simp; omega) (by simp only [List.length_append, List.flatMap_cons, List.flatMap_nil, List.length_cons, List.length_nil]; omega)).mono ?_; rintro e w' ⟨rfl, hb3, hk1⟩; obtain ⟨y3, rfl⟩ := Kd.next _ hk1; clear hk1)
  go_wp2_with (go_at_call 187; refine (texts_lit hb3 [i.ballot.claim] _ _ 1000 _ rfl rfl rfl (by simp) (by simpa using h_claim) (by simp only [List.length_append, List.flatMap_cons, List.flatMap_nil, List.length_cons, List.length_nil]; omega)).mono ?_; rintro e w' ⟨rfl, hb4, hk1⟩; obtain ⟨y4, rfl⟩ := Kd.next _ hk1; clear hk1)
  go_wp2_with (go_at_call 77; refine (nums_lit hb4 [i.ballot.time] _ _ _ rfl rfl rfl (by simp; omega) (by simp only [List.length_append, List.flatMap_cons, List.flatMap_nil, List.length_cons, List.length_nil]; omega)).mono ?_; rintro e w' ⟨rfl, hb5, hk1⟩; obtain ⟨y5, rfl⟩ := Kd.next _ hk1; clear hk1)
  go_end0
  refine ⟨rfl, ?_, (Tk.of_q HW.out).trans y5.q⟩
  have e : ((((L ++ [i.ballot.server].flatMap numL) ++ [i.ballot.actor].flatMap textL) ++ [i.ballot.gen].flatMap numL) ++ [i.ballot.claim].flatMap textL) ++ [i.ballot.time].flatMap numL = L ++ ballotL i.ballot := by
    simp only [ballotL, List.flatMap_cons, List.flatMap_nil, List.append_nil, List.append_assoc]
  rw [← e]
  exact hb5

theorem bcore_big (B g : Nat) (L : List UInt8) (i : ItemR) (w w0 : World) (hs : BigI i) (hb : Bld B g w L) (hL : L.length ≤ 1000) :
    Calls Tryz.prog (coreF i) #[.pointer (some ⟨g, 0, none⟩), .agg (itA i)] w fun e w' => e = .returned (.tuple #[]) ∧ (Bld B g w' (L ++ itemL i) ∧ Tk B g w w') := by
  obtain ⟨h2, a, b, c⟩ := hs
  have h1 : ¬ i.kind = 1 := by omega
  unfold coreF itemL
  rw [if_neg h1, if_neg h1, if_pos h2, if_pos h2]
  exact bballot_big B g L i w hb hL a b c
theorem message_sizeB (i : ItemR) (hs : BigI i) : (messageB i).size ≤ 140737488355200 := by
  obtain ⟨h2, a, b, c⟩ := hs
  have h1 : ¬ i.kind = 1 := by omega
  unfold messageB itemL
  rw [ba_size, List.length_append, if_neg h1, if_pos h2]
  have h3 := textL_length (nameT i)
  have h4 := nameT_size i
  unfold ballotL
  simp only [List.length_append]
  have t1 := textL_length i.ballot.actor
  have t2 := textL_length i.ballot.claim
  have n1 := numL_bd i.ballot.server
  have n2 := numL_bd i.ballot.gen
  have n3 := numL_bd i.ballot.time
  omega
set_option maxRecDepth 100000 in
set_option maxHeartbeats 4000000 in
theorem message_big (i : ItemR) (w : World) (hD : DecIn w i.dec) (hs : BigI i) : Calls Tryz.prog 114 #[.agg (itA i)] w fun e w' => e = .returned (.string (messageB i)) ∧ Q w w' := by
  obtain ⟨w1, x, hx, hq1, hbk⟩ := boxedB w 50 i.cells
  have hl := hbk.lt
  have hr := Blk.range hbk
  have hx : w.alloc (.cells (itA i) 50) = x.w := hx
  have hIt : ∀ y : Wd w1, (Instr.loadAt 50 (.pointer (some ⟨w.heap.size, 0, none⟩))).run Tryz.prog y.w = .ok (.agg (itA i)) y.w := Wd.load hl hr Tryz.underlying50 rfl (by kernel_rfl)
  have hqx := Lib.hid (Q.trans hq1 x.q)
  have hsx : w.heap.size < x.w.heap.size := Nat.lt_of_lt_of_le hl x.q.size
  have hn := nameT_size i
  have hcr := core_enter i
  go_enter Tryz.func114, Tryz.ntmps114
  go_wp2_with (first | (refine wpList_load_run 50 (.tmp 1) (.pointer (some ⟨w.heap.size, 0, none⟩)) (.agg (itA i)) ?_ ?_ ?_ ?_ ?_; rfl; rfl; rfl; exact hIt _) | (go_at_call 79; refine (formOf_any _ _).mono ?_; rintro e w' ⟨rfl, hq2⟩; obtain ⟨y, rfl⟩ := Wd.next _ hq2; clear hq2) | (refine wpList_store_blk (Blk.new y.w 128 form0.toArray) rfl 128 (.tmp 3) (.tmp 6) (formA i) rfl rfl rfl (by kernel_rfl) (form_all i) (Nat.le_refl 4) ?_))
  intro W hW hbel
  rw [splice_all _ _ (by rfl)] at hW
  have hyx : w.heap.size < y.w.heap.size := Nat.lt_of_lt_of_le hl y.q.size
  have hqW1 : Q w1 W := hbel _ _ y.q.size (Q.trans y.q (q_new _ _ _))
  have hqW : Q w W := Q.trans hq1 hqW1
  have hnew := Bld.new W (B := w.heap.size) hqW.size
  have hq2 := q_new W #[.slice none 0 0] 123
  have hne : y.w.heap.size < W.heap.size := hW.lt
  have hst : Stay w.heap.size W.heap.size (W.alloc (.cells #[.slice none 0 0] 123)) y.w.heap.size := Stay.blk (hW.q hq2) (by omega) (by decide)
  have hsi : Stay w.heap.size W.heap.size (W.alloc (.cells #[.slice none 0 0] 123)) w.heap.size := Stay.blk ((hbk.q hqW1).q hq2) (by omega) (by decide)
  have f0 := Kd.cell (v := .string (nameT i)) (hW.q hq2) hst 0 rfl
  have f1 := Kd.cell (v := .func (.func (coreF i)) #[] #[]) (hW.q hq2) hst 1 rfl
  have hIt2 := Kd.load (P := Tryz.prog) (ty := 50) hsi (range_q hr (Q.trans hqW1 hq2) hl) Tryz.underlying50 rfl (by kernel_rfl)
  have hqq := Lib.hid (Q.trans hqW hq2)
  clear hst hsi hIt hr hbk hqW1 hq1 hx
  generalize hW2 : W.alloc (.cells #[.slice none 0 0] 123) = W2 at *
  obtain ⟨y2, hy2⟩ := Kd.first w.heap.size W.heap.size W2
  have hb2 : Bld w.heap.size W.heap.size y2.w [] := hy2 ▸ hnew
  rw [hy2] at hW2
  clear hy2 hW hbel hnew hq2
  go_wp2_with (first | (go_at_call 187; refine (texts_lit hb2 [nameT i] _ _ 1000000 _ rfl rfl rfl (by simp) (by simp; omega) (by simp)).mono ?_; rintro e w' ⟨rfl, hb3, hk1⟩; obtain ⟨y3, rfl⟩ := Kd.next _ hk1; clear hk1) | (refine wpList_load_run 50 (.tmp 1) (.pointer (some ⟨w.heap.size, 0, none⟩)) (.agg (itA i)) ?_ ?_ ?_ ?_ ?_; rfl; rfl; rfl; exact hIt2 _))
  refine (bcore_big _ _ _ i _ w hs hb3 (by have := textL_length (nameT i); simp; omega)).mono ?_
  rintro e w' ⟨rfl, hb4, hk2⟩
  obtain ⟨y4, rfl⟩ := Kd.next _ hk2
  clear hk2
  obtain ⟨-, v, hgv, hown⟩ := hb4
  have cv : y4.w.cell? ⟨W.heap.size, 0, none⟩ = some v := hgv.cell 0
  have hcv := run_string_of_owns (P := Tryz.prog) y4.w w.heap.size 121 9 5 _ _ Tryz.underlying121 Tryz.underlying5 Tryz.underlying9 hown
  have HQ := Lib.hid (Tk.q y4.q rfl hqq.out)
  clear hown hgv hb3 hb2
  go_wp2
  go_ret
  exact ⟨rfl, HQ.out⟩

set_option maxRecDepth 100000 in
set_option maxHeartbeats 2000000 in
theorem signBallot_big (k : Int × Int) (b : BallotV) (w : World) (hT : Tab w) (hx : k.1 ≤ 9223372036854775807) (hy : k.2 ≤ 9223372036854775807) (hs : BigB b) :
    Calls Tryz.prog 87 #[.agg (keyCs k), .agg (ballotA b)] w fun e w' => e = .returned (.agg (ballotA (signBallot k b))) ∧ Q w w' := by
  have hbk := Blk.new w 86 (keyCs k)
  have hq1 := q_new w (keyCs k) 86
  have hbb := Blk.new' (g := w.heap.size + 1) (w.alloc (.cells (keyCs k) 86)) 46 (ballotA b) (by simp)
  have hq2 := q_new (w.alloc (.cells (keyCs k) 86)) (ballotA b) 46
  have hbr := Blk.new' (g := w.heap.size + 1 + 1) ((w.alloc (.cells (keyCs k) 86)).alloc (.cells (ballotA b) 46)) 46 (ballotA ballot0) (by simp)
  have hq3 := q_new ((w.alloc (.cells (keyCs k) 86)).alloc (.cells (ballotA b) 46)) (ballotA ballot0) 46
  have hbk := (hbk.q hq2).q hq3
  have hbb := hbb.q hq3
  have hq := Q.trans (Q.trans hq1 hq2) hq3
  clear hq1 hq2 hq3
  obtain ⟨w3, hw3⟩ : ∃ w3, w3 = (((w.alloc (.cells (keyCs k) 86)).alloc (.cells (ballotA b) 46)).alloc (.cells (ballotA ballot0) 46)) := ⟨_, rfl⟩
  rw [← hw3] at hbk hbb hbr hq
  have k0 : ∀ y : Wd w3, y.w.cell? ⟨w.heap.size, 0, none⟩ = some (.int .i64 k.1) := fun y => (y.blk hbk).cell 0
  have k1 : ∀ y : Wd w3, y.w.cell? ⟨w.heap.size, 1, none⟩ = some (.int .i64 k.2) := fun y => (y.blk hbk).cell 1
  have hLb : ∀ y : Wd w3, (Instr.loadAt 46 (.pointer (some ⟨w.heap.size + 1, 0, none⟩))).run Tryz.prog y.w = .ok (.agg (ballotA b)) y.w := Wd.load hbb.lt (Blk.range hbb) Tryz.underlying46 rfl (by kernel_rfl)
  have hBb : ∀ y : Wd w3, Blk y.w (w.heap.size + 1) 46 b.cells.toArray := fun y => y.blk hbb
  have hBr : ∀ y : Wd w3, Blk y.w (w.heap.size + 1 + 1) 46 ballot0.cells.toArray := fun y => y.blk hbr
  have hT' : ∀ y : Wd w3, Tab y.w := fun y => hT.q (Q.trans hq y.q)
  have hD : ∀ y : Wd w3, DecIn y.w dec0 := fun y => dec0_in y.w
  have hms := message_sizeB _ (bigB_I hs)
  have hsm := bigB_I hs
  have HQ := Lib.hid hq
  clear hbk hbb hbr hq
  have hx3 : ∃ x : Wd w3, x.w = w3 := ⟨⟨w3, Q.refl _⟩, rfl⟩
  obtain ⟨x, hx3⟩ := hx3
  have HX := Lib.hid (hx3.trans hw3)
  clear hx3 hw3
  go_enter Tryz.func87, Tryz.ntmps87
  go_wp2_with fail
  refine (show Code.wp _ _ _ _ x.w → Code.wp _ _ _ _ _ from fun h => by rw [HX.out] at h; exact h) ?_
  refine wp_region_wd_parts x 0 5 (by kernel_rfl) (by kernel_rfl) (by intro c d v a w h; cases d <;> exact h) ?_
  simp only [List.take_succ_cons, List.take_zero, List.drop_succ_cons, List.drop_zero]
  refine wpPure_nil ?_
  repeat (first | (refine wpQuiet_load_run 46 (.tmp 3) (.pointer (some ⟨w.heap.size + 1, 0, none⟩)) (.agg (ballotA b)) ?_ ?_ ?_ ?_ ?_; rfl; rfl; rfl; exact hLb; dsimp only [Act.put]; simp only [List.setIfInBounds_toArray, List.set_cons_succ, List.set_cons_zero]) | go_big_quiet_step (first | (go_at_call 86; exact Wd.call _ (ofBallot_any _ _)) | (go_at_call 114; exact Wd.call _ (message_big _ _ (hD _) hsm)) | (go_at_call 141; exact Wd.call _ (Sign_any k _ _ (hT' _) hx hy hms))))
  refine wpQuiet_nil ?_
  rintro w'' ⟨y, rfl⟩
  go_wp2_with (refine wpList_store_far (hBb y) rfl 35 (.tmp 10) (.tmp 9) [.int .i64 (sigOf k (messageB (itBallot b))).1, .int .i64 (sigOf k (messageB (itBallot b))).2] rfl rfl rfl (by kernel_rfl) (by simp [Value.oneCell']) (by simp [BallotV.cells]) ?_)
  intro W hW hbel hfar
  rw [signBallot_cells] at hW
  have hqW : Q w W := by
    have h0 : Below w.heap.size w y.w := Q.trans HQ.out y.q
    exact hbel _ _ (by omega) h0
  have hrW : Blk W (w.heap.size + 1 + 1) 46 ballot0.cells.toArray := (hfar _ (by omega)).trans (hBr y)
  have hLW := Wd.load (P := Tryz.prog) (ty := 46) hW.lt (Blk.range hW) Tryz.underlying46 rfl (by kernel_rfl) ⟨W, Q.refl W⟩
  have HW := Lib.hid hqW
  clear hbel hfar hBb hBr hLb hqW hT' hD
  go_wp2_with (first | (refine wpList_load_run 46 (.tmp 3) (.pointer (some ⟨w.heap.size + 1, 0, none⟩)) (.agg (ballotA (signBallot k b))) ?_ ?_ ?_ ?_ ?_; rfl; rfl; rfl; exact hLW) | (refine wpList_store_far hrW rfl 46 (.tmp 4) (.tmp 11) (signBallot k b).cells rfl rfl rfl (by kernel_rfl) (ballot_all _) (Nat.le_refl 7) ?_))
  intro W2 hW2 hbel2 hfar2
  rw [splice_all _ _ (by rfl)] at hW2
  have hq2 : Q w W2 := hbel2 _ _ (by omega) HW.out
  clear hbel2 hfar2 hLW
  go_wp2_with fail
  exact bodyPost_ret (results_cell_row rfl _ _ (w.heap.size + 1 + 1) 46 (ballotA (signBallot k b)) (0, 0) _ rfl hW2 Tryz.underlying46 rfl (by kernel_rfl)) rfl ⟨rfl, hq2⟩
end Go.Proofs.YtflgkplneekpfaaGreatDoor.Item
