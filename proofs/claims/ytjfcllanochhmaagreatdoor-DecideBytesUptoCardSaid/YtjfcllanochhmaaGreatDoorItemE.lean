/-
  The contract of item.Same.
-/
import Derived.Test.YtjfcllanochhmaaGreatDoorItemC
import Derived.Test.YtjfcllanochhmaaGreatDoorItemD
import Derived.Test.YtjfcllanochhmaaGreatDoorItemZ
set_option linter.unusedVariables false
set_option linter.unusedSimpArgs false
namespace Go.Proofs.YtjfcllanochhmaaGreatDoor.Item
open Go.RowKit Grp Mem _root_.Go.Proofs.YtjfcllanochhmaaGreatDoor.Code Sha Sign

set_option maxRecDepth 100000 in
set_option maxHeartbeats 16000000 in
theorem itemSame_any (a b : ItemR) (w : World) (hI : ItemIn w a) (hJ : ItemIn w b) : Calls Tryz.prog 61 #[.agg (itA a), .agg (itA b)] w fun e w' => e = .returned (.bool (a.same b)) ∧ Q w w' := by
  obtain ⟨w1, x, hx, hq1, ⟨hA1, hA2⟩, hB1, hB2⟩ := boxed_two w 47 a.cells b.cells
  have hx : (w.alloc (.cells (itA a) 47)).alloc (.cells (itA b) 47) = x.w := hx
  have c0 := Wd.at0 hA1 hA2 0 rfl
  have d0 := Wd.at0 hB1 hB2 0 rfl
  have hAact := item_act hA1 hA2
  have hBact := item_act hB1 hB2
  have hAclaim := item_claim hA1 hA2
  have hBclaim := item_claim hB1 hB2
  have hAballot := item_ballot hA1 hA2
  have hBballot := item_ballot hB1 hB2
  have hAdec := item_dec hA1 hA2
  have hBdec := item_dec hB1 hB2
  have hI' : ∀ y : Wd w1, ItemIn y.w a := fun y => hI.q (Q.trans hq1 y.q)
  have hJ' : ∀ y : Wd w1, ItemIn y.w b := fun y => hJ.q (Q.trans hq1 y.q)
  have hc := claimEq
  have hd := ballotEq
  clear hA1 hA2 hB1 hB2
  rcases ways5 (a.kind == b.kind) (a.act.same b.act) (a.claim.same b.claim) (a.ballot.same b.ballot) (a.dec.same b.dec) with g1 | ⟨g1, g2⟩ | ⟨g1, g2, g3⟩ | ⟨g1, g2, g3, g4⟩ | ⟨g1, g2, g3, g4, g5⟩ | ⟨g1, g2, g3, g4, g5⟩
  all_goals
    have HR := Lib.hid (show a.same b = conj [(a.kind == b.kind), a.act.same b.act, a.claim.same b.claim, a.ballot.same b.ballot, a.dec.same b.dec] by rw [beq_int]; rfl)
    simp [conj, *] at HR
    go_enter Tryz.func61, Tryz.ntmps61
    go_wp2_with (first | (refine wpList_load_run 39 (.tmp 11) (.pointer (some ⟨w.heap.size, 1, none⟩)) (.agg (actA a.act)) ?_ ?_ ?_ ?_ ?_; rfl; rfl; rfl; exact hAact _) | (refine wpList_load_run 39 (.tmp 13) (.pointer (some ⟨w.heap.size + 1, 1, none⟩)) (.agg (actA b.act)) ?_ ?_ ?_ ?_ ?_; rfl; rfl; rfl; exact hBact _) | (refine wpList_load_run 41 (.tmp 18) (.pointer (some ⟨w.heap.size, 21, none⟩)) (.agg (claimA a.claim)) ?_ ?_ ?_ ?_ ?_; rfl; rfl; rfl; exact hAclaim _) | (refine wpList_load_run 41 (.tmp 20) (.pointer (some ⟨w.heap.size + 1, 21, none⟩)) (.agg (claimA b.claim)) ?_ ?_ ?_ ?_ ?_; rfl; rfl; rfl; exact hBclaim _) | (refine wpList_load_run 43 (.tmp 25) (.pointer (some ⟨w.heap.size, 30, none⟩)) (.agg (ballotA a.ballot)) ?_ ?_ ?_ ?_ ?_; rfl; rfl; rfl; exact hAballot _) | (refine wpList_load_run 43 (.tmp 27) (.pointer (some ⟨w.heap.size + 1, 30, none⟩)) (.agg (ballotA b.ballot)) ?_ ?_ ?_ ?_ ?_; rfl; rfl; rfl; exact hBballot _) | (refine wpList_load_run 45 (.tmp 32) (.pointer (some ⟨w.heap.size, 37, none⟩)) (.agg (decA a.dec)) ?_ ?_ ?_ ?_ ?_; rfl; rfl; rfl; exact hAdec _) | (refine wpList_load_run 45 (.tmp 34) (.pointer (some ⟨w.heap.size + 1, 37, none⟩)) (.agg (decA b.dec)) ?_ ?_ ?_ ?_ ?_; rfl; rfl; rfl; exact hBdec _) | (go_at_call 97; refine (actSame_any _ _ _ (hI' _).act (hJ' _).act).mono ?_; rintro e w' ⟨rfl, hq2⟩; obtain ⟨y, rfl⟩ := Wd.next _ hq2; clear hq2) | (go_at_call 98; refine (sameDec_any _ _ _ (hI' _).dec (hJ' _).dec).mono ?_; rintro e w' ⟨rfl, hq2⟩; obtain ⟨y, rfl⟩ := Wd.next _ hq2; clear hq2))
    go_ret
    exact ⟨by rw [HR.out]; rfl, Q.trans hq1 (Wd.q _)⟩
end Go.Proofs.YtjfcllanochhmaaGreatDoor.Item
