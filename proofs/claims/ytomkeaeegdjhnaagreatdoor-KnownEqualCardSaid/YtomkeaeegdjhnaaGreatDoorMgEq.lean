/-
  The contract of agoraref12.fits, all kinds; Right (printed by gen_fits.py).
  Package agoraref12's Right, box, Core and Bytes.
  Package agoraref13: Right, Bytes, Digest and Same (printed by gen_ref13.py).
  The text of a known set determines its digests: the encoding of layer 2 can be read again. No walk in this text.
  What an argument's type gives: a known set.
  The contract of agoraref14.Text.
  The law KnownEqual, walked (printed by gen_equal.py).
-/
import Derived.Test.YtomkeaeegdjhnaaGreatDoorRef12F
import Derived.Test.YtomkeaeegdjhnaaGreatDoorRef12G
import Derived.Test.YtomkeaeegdjhnaaGreatDoorRef12H
import Derived.Test.YtomkeaeegdjhnaaGreatDoorMgRefSame
import Derived.Test.YtomkeaeegdjhnaaGreatDoorMgRefBase
import Derived.Test.YtomkeaeegdjhnaaGreatDoorMgRefIt
import Derived.Deep.Cut
import Derived.Test.YtomkeaeegdjhnaaGreatDoorMgItKn
import Derived.ChangeMaps5
import Derived.Test.YtomkeaeegdjhnaaGreatDoorMgPick
set_option linter.unusedVariables false
set_option linter.unusedSimpArgs false
namespace Go.Proofs.YtomkeaeegdjhnaaGreatDoor.Item
open Go.RowKit Grp Mem _root_.Go.Proofs.YtomkeaeegdjhnaaGreatDoor.Code Sha Sign
set_option maxRecDepth 100000 in
set_option maxHeartbeats 8000000 in
theorem rfits_no (a : ActR) (w : World) (hk : ¬ (0 ≤ a.kind ∧ a.kind < 24)) : Calls Tryz.prog 224 #[.agg (actA a)] w fun e w' => e = .returned (.bool (fitsB a)) ∧ Q w w' := by
  obtain ⟨w1, x, hx, hq1, hA⟩ := ActAt.box w a 38
  have hL1 := hA.load
  have HF := Lib.hid (fits_no a hk)
  have hlt1 := hA.lt
  have e0 : (a.kind == 0) = false := by rw [beq_eq_false_iff_ne]; omega
  have e1 : (a.kind == 1) = false := by rw [beq_eq_false_iff_ne]; omega
  have e2 : (a.kind == 2) = false := by rw [beq_eq_false_iff_ne]; omega
  have e3 : (a.kind == 3) = false := by rw [beq_eq_false_iff_ne]; omega
  have e4 : (a.kind == 4) = false := by rw [beq_eq_false_iff_ne]; omega
  have e5 : (a.kind == 5) = false := by rw [beq_eq_false_iff_ne]; omega
  have e6 : (a.kind == 6) = false := by rw [beq_eq_false_iff_ne]; omega
  have e7 : (a.kind == 7) = false := by rw [beq_eq_false_iff_ne]; omega
  have e8 : (a.kind == 8) = false := by rw [beq_eq_false_iff_ne]; omega
  have e9 : (a.kind == 9) = false := by rw [beq_eq_false_iff_ne]; omega
  have e10 : (a.kind == 10) = false := by rw [beq_eq_false_iff_ne]; omega
  have e11 : (a.kind == 11) = false := by rw [beq_eq_false_iff_ne]; omega
  have e12 : (a.kind == 12) = false := by rw [beq_eq_false_iff_ne]; omega
  have e13 : (a.kind == 13) = false := by rw [beq_eq_false_iff_ne]; omega
  have e14 : (a.kind == 14) = false := by rw [beq_eq_false_iff_ne]; omega
  have e15 : (a.kind == 15) = false := by rw [beq_eq_false_iff_ne]; omega
  have e16 : (a.kind == 16) = false := by rw [beq_eq_false_iff_ne]; omega
  have e17 : (a.kind == 17) = false := by rw [beq_eq_false_iff_ne]; omega
  have e18 : (a.kind == 18) = false := by rw [beq_eq_false_iff_ne]; omega
  have e19 : (a.kind == 19) = false := by rw [beq_eq_false_iff_ne]; omega
  have e20 : (a.kind == 20) = false := by rw [beq_eq_false_iff_ne]; omega
  have e21 : (a.kind == 21) = false := by rw [beq_eq_false_iff_ne]; omega
  have e22 : (a.kind == 22) = false := by rw [beq_eq_false_iff_ne]; omega
  have e23 : (a.kind == 23) = false := by rw [beq_eq_false_iff_ne]; omega
  clear hk
  go_enter Tryz.func224, Tryz.ntmps224
  go_wp2_with (first | (refine wpList_load_run 38 (.tmp 1) (.pointer (some ⟨w.heap.size, 0, none⟩)) (.agg (actA a)) ?_ ?_ ?_ ?_ ?_; rfl; rfl; rfl; exact hL1 _) | (refine wpList_store_blk (Blk.new x.w 38 act0.cells.toArray) rfl 38 (.tmp 3) (.tmp 11) a.cells rfl rfl rfl (by kernel_rfl) (act_all _) (Nat.le_refl 20) ?_))
  intro W hW hbel
  rw [splice_all _ _ (by rfl)] at hW
  have hqx : Q x.w W := hbel _ _ (Nat.le_refl _) (q_new _ _ _)
  have hqW : Q w W := Q.trans hq1 (Q.trans x.q hqx)
  have hA := ActAt.mk (w0 := W) (g := w.heap.size) (a := a) (Nat.lt_of_lt_of_le hlt1 (Q.trans x.q hqx).size) (range_q hA.range (Q.trans x.q hqx) hlt1)
  have c3 := hA.get 3 rfl
  obtain ⟨v, hv⟩ := Wd.first W
  rw [hv]
  have HQ := Lib.hid hqW
  clear hbel hL1 hqx hlt1 hx hA hq1 hv hqW hW
  go_wp2_with fail
  go_ret
  exact ⟨by rw [HF.out]; rfl, Q.trans HQ.out v.q⟩
theorem rfits_any (a : ActR) (w : World) (hI : ActIn w a) (ho : ActOk a) : Calls Tryz.prog 224 #[.agg (actA a)] w fun e w' => e = .returned (.bool (fitsB a)) ∧ Q w w' := by
  by_cases hk : 0 ≤ a.kind ∧ a.kind < 24
  · rcases (show a.kind = 0 ∨ a.kind = 1 ∨ a.kind = 2 ∨ a.kind = 3 ∨ a.kind = 4 ∨ a.kind = 5 ∨ a.kind = 6 ∨ a.kind = 7 ∨ a.kind = 8 ∨ a.kind = 9 ∨ a.kind = 10 ∨ a.kind = 11 ∨ a.kind = 12 ∨ a.kind = 13 ∨ a.kind = 14 ∨ a.kind = 15 ∨ a.kind = 16 ∨ a.kind = 17 ∨ a.kind = 18 ∨ a.kind = 19 ∨ a.kind = 20 ∨ a.kind = 21 ∨ a.kind = 22 ∨ a.kind = 23 by omega) with h | h | h | h | h | h | h | h | h | h | h | h | h | h | h | h | h | h | h | h | h | h | h | h
    · exact rfits_0 a w hI ho h
    · exact rfits_1 a w hI ho h
    · exact rfits_2 a w hI ho h
    · exact rfits_3 a w hI ho h
    · exact rfits_4 a w hI ho h
    · exact rfits_5 a w hI ho h
    · exact rfits_6 a w hI ho h
    · exact rfits_7 a w hI ho h
    · exact rfits_8 a w hI ho h
    · exact rfits_9 a w hI ho h
    · exact rfits_10 a w hI ho h
    · exact rfits_11 a w hI ho h
    · exact rfits_12 a w hI ho h
    · exact rfits_13 a w hI ho h
    · exact rfits_14 a w hI ho h
    · exact rfits_15 a w hI ho h
    · exact rfits_16 a w hI ho h
    · exact rfits_17 a w hI ho h
    · exact rfits_18 a w hI ho h
    · exact rfits_19 a w hI ho h
    · exact rfits_20 a w hI ho h
    · exact rfits_21 a w hI ho h
    · exact rfits_22 a w hI ho h
    · exact rfits_23 a w hI ho h
  · exact rfits_no a w hk
set_option maxRecDepth 100000 in
set_option maxHeartbeats 40000000 in
theorem ractRight_in (a : ActR) (w : World) (hI : ActIn w a) (ho : ActOk a) (g1 : idB a.author = true) (s1 : ¬ a.seq < 0) (s2 : ¬ 1073741824 < a.seq) (t1 : ¬ a.time < 0) (t2 : ¬ 1099511627776 < a.time) (e1 : ¬ a.e < 0) (e2 : ¬ 2305843009213693950 ≤ a.e) (z1 : ¬ a.s < 0) (z2 : ¬ 2305843009213693950 ≤ a.s) : Calls Tryz.prog 170 #[.agg (actA a)] w fun e w' => e = .returned (.bool (actRight a)) ∧ Q w w' := by
  obtain ⟨w1, x, hx, hq1, hA⟩ := ActAt.box w a 38
  have c0 := hA.get 0 rfl
  have c1 := hA.get 1 rfl
  have c2 := hA.get 2 rfl
  have c3 := hA.get 3 rfl
  have c4 := hA.get 4 rfl
  have c18 := hA.get 18 rfl
  have c19 := hA.get 19 rfl
  have hL := hA.load
  have hza : a.author.size ≤ maxLen := ho.strs _ (by simp)
  have hIn : ∀ y : Wd w1, ActIn y.w a := fun y => hI.q (Q.trans hq1 y.q)
  clear hA
  have HX := Lib.hid (show actRight a = ((if a.seq = 0 then noneB a.prev && decide (a.kind = 0) else decide (a.prev.size = 32) && !decide (a.kind = 0)) && fitsB a) by
    rw [actRight_eq, g1, decide_eq_true (show 0 ≤ a.seq ∧ a.seq ≤ 1073741824 by omega), decide_eq_true (show 0 ≤ a.time ∧ a.time ≤ 1099511627776 by omega), decide_eq_true (show 0 ≤ a.e ∧ a.e ≤ 2305843009213693949 by omega), decide_eq_true (show 0 ≤ a.s ∧ a.s ≤ 2305843009213693949 by omega)]
    rfl)
  by_cases s0 : a.seq = 0
  · have q0 : (a.seq == 0) = true := by simpa using s0
    have q1 : ¬ 0 < a.seq := by omega
    cases hp : noneB a.prev
    · have hp2 : a.prev.toList.isEmpty = false := by rw [empty_none]; exact hp
      have HR := Lib.hid (show actRight a = false by rw [HX.out, if_pos s0, hp]; rfl)
      go_enter Tryz.func170, Tryz.ntmps170
      go_upto_region 2 with (first | (refine wpList_load_run 38 (.tmp 1) (.pointer (some ⟨w.heap.size, 0, none⟩)) (.agg (actA a)) ?_ ?_ ?_ ?_ ?_; rfl; rfl; rfl; exact hL _) | (go_at_call 223; refine (ridRight_any _ _ hza).mono ?_; rintro e w' ⟨rfl, rfl⟩) | (go_at_call 224; refine (rfits_any a _ (hIn _) ho).mono ?_; rintro e w' ⟨rfl, hq2⟩; obtain ⟨y, rfl⟩ := Wd.next _ hq2; clear hq2))
      go_upto_region 4 with fail
      clear s1 s2 t1 t2 e1 e2 z1 z2
      go_upto_region 6 with fail
      go_wp2_with (first | (refine wpList_load_run 38 (.tmp 1) (.pointer (some ⟨w.heap.size, 0, none⟩)) (.agg (actA a)) ?_ ?_ ?_ ?_ ?_; rfl; rfl; rfl; exact hL _) | (go_at_call 223; refine (ridRight_any _ _ hza).mono ?_; rintro e w' ⟨rfl, rfl⟩) | (go_at_call 224; refine (rfits_any a _ (hIn _) ho).mono ?_; rintro e w' ⟨rfl, hq2⟩; obtain ⟨y, rfl⟩ := Wd.next _ hq2; clear hq2))
      go_ret
      exact ⟨by rw [HR.out]; rfl, Q.trans hq1 (Wd.q _)⟩
    · have hp2 : a.prev.toList.isEmpty = true := by rw [empty_none]; exact hp
      by_cases hk : a.kind = 0
      · have k1 : (a.kind != 0) = false := by simp [hk]
        have k2 : (a.kind == 0) = true := by simp [hk]
        have HR := Lib.hid (show actRight a = fitsB a by rw [HX.out, if_pos s0, hp, decide_eq_true hk]; rfl)
        clear hk s0
        go_enter Tryz.func170, Tryz.ntmps170
        go_upto_region 2 with (first | (refine wpList_load_run 38 (.tmp 1) (.pointer (some ⟨w.heap.size, 0, none⟩)) (.agg (actA a)) ?_ ?_ ?_ ?_ ?_; rfl; rfl; rfl; exact hL _) | (go_at_call 223; refine (ridRight_any _ _ hza).mono ?_; rintro e w' ⟨rfl, rfl⟩) | (go_at_call 224; refine (rfits_any a _ (hIn _) ho).mono ?_; rintro e w' ⟨rfl, hq2⟩; obtain ⟨y, rfl⟩ := Wd.next _ hq2; clear hq2))
        go_upto_region 4 with fail
        clear s1 s2 t1 t2 e1 e2 z1 z2
        go_upto_region 6 with fail
        go_wp2_with (first | (refine wpList_load_run 38 (.tmp 1) (.pointer (some ⟨w.heap.size, 0, none⟩)) (.agg (actA a)) ?_ ?_ ?_ ?_ ?_; rfl; rfl; rfl; exact hL _) | (go_at_call 223; refine (ridRight_any _ _ hza).mono ?_; rintro e w' ⟨rfl, rfl⟩) | (go_at_call 224; refine (rfits_any a _ (hIn _) ho).mono ?_; rintro e w' ⟨rfl, hq2⟩; obtain ⟨y, rfl⟩ := Wd.next _ hq2; clear hq2))
        go_ret
        exact ⟨by rw [HR.out]; rfl, Q.trans hq1 (Wd.q _)⟩
      · have k1 : (a.kind != 0) = true := by simp [hk]
        have k2 : (a.kind == 0) = false := by simp [hk]
        have HR := Lib.hid (show actRight a = false by rw [HX.out, if_pos s0, hp, decide_eq_false hk]; rfl)
        clear hk s0
        go_enter Tryz.func170, Tryz.ntmps170
        go_upto_region 2 with (first | (refine wpList_load_run 38 (.tmp 1) (.pointer (some ⟨w.heap.size, 0, none⟩)) (.agg (actA a)) ?_ ?_ ?_ ?_ ?_; rfl; rfl; rfl; exact hL _) | (go_at_call 223; refine (ridRight_any _ _ hza).mono ?_; rintro e w' ⟨rfl, rfl⟩) | (go_at_call 224; refine (rfits_any a _ (hIn _) ho).mono ?_; rintro e w' ⟨rfl, hq2⟩; obtain ⟨y, rfl⟩ := Wd.next _ hq2; clear hq2))
        go_upto_region 4 with fail
        clear s1 s2 t1 t2 e1 e2 z1 z2
        go_upto_region 6 with fail
        go_wp2_with (first | (refine wpList_load_run 38 (.tmp 1) (.pointer (some ⟨w.heap.size, 0, none⟩)) (.agg (actA a)) ?_ ?_ ?_ ?_ ?_; rfl; rfl; rfl; exact hL _) | (go_at_call 223; refine (ridRight_any _ _ hza).mono ?_; rintro e w' ⟨rfl, rfl⟩) | (go_at_call 224; refine (rfits_any a _ (hIn _) ho).mono ?_; rintro e w' ⟨rfl, hq2⟩; obtain ⟨y, rfl⟩ := Wd.next _ hq2; clear hq2))
        go_ret
        exact ⟨by rw [HR.out]; rfl, Q.trans hq1 (Wd.q _)⟩
  · have q0 : (a.seq == 0) = false := by simpa using s0
    have q1 : 0 < a.seq := by omega
    by_cases hp : a.prev.size = 32
    · have hp2 : ((a.prev.size : Int) != 32) = false := by simp; omega
      by_cases hk : a.kind = 0
      · have k1 : (a.kind != 0) = false := by simp [hk]
        have k2 : (a.kind == 0) = true := by simp [hk]
        have HR := Lib.hid (show actRight a = false by rw [HX.out, if_neg s0, decide_eq_true hk]; simp)
        clear hk s0
        go_enter Tryz.func170, Tryz.ntmps170
        go_upto_region 2 with (first | (refine wpList_load_run 38 (.tmp 1) (.pointer (some ⟨w.heap.size, 0, none⟩)) (.agg (actA a)) ?_ ?_ ?_ ?_ ?_; rfl; rfl; rfl; exact hL _) | (go_at_call 223; refine (ridRight_any _ _ hza).mono ?_; rintro e w' ⟨rfl, rfl⟩) | (go_at_call 224; refine (rfits_any a _ (hIn _) ho).mono ?_; rintro e w' ⟨rfl, hq2⟩; obtain ⟨y, rfl⟩ := Wd.next _ hq2; clear hq2))
        go_upto_region 4 with fail
        clear s1 s2 t1 t2 e1 e2 z1 z2
        go_upto_region 6 with fail
        go_wp2_with (first | (refine wpList_load_run 38 (.tmp 1) (.pointer (some ⟨w.heap.size, 0, none⟩)) (.agg (actA a)) ?_ ?_ ?_ ?_ ?_; rfl; rfl; rfl; exact hL _) | (go_at_call 223; refine (ridRight_any _ _ hza).mono ?_; rintro e w' ⟨rfl, rfl⟩) | (go_at_call 224; refine (rfits_any a _ (hIn _) ho).mono ?_; rintro e w' ⟨rfl, hq2⟩; obtain ⟨y, rfl⟩ := Wd.next _ hq2; clear hq2))
        go_ret
        exact ⟨by rw [HR.out]; rfl, Q.trans hq1 (Wd.q _)⟩
      · have k1 : (a.kind != 0) = true := by simp [hk]
        have k2 : (a.kind == 0) = false := by simp [hk]
        have HR := Lib.hid (show actRight a = fitsB a by rw [HX.out, if_neg s0, decide_eq_true hp, decide_eq_false hk]; rfl)
        clear hk s0
        go_enter Tryz.func170, Tryz.ntmps170
        go_upto_region 2 with (first | (refine wpList_load_run 38 (.tmp 1) (.pointer (some ⟨w.heap.size, 0, none⟩)) (.agg (actA a)) ?_ ?_ ?_ ?_ ?_; rfl; rfl; rfl; exact hL _) | (go_at_call 223; refine (ridRight_any _ _ hza).mono ?_; rintro e w' ⟨rfl, rfl⟩) | (go_at_call 224; refine (rfits_any a _ (hIn _) ho).mono ?_; rintro e w' ⟨rfl, hq2⟩; obtain ⟨y, rfl⟩ := Wd.next _ hq2; clear hq2))
        go_upto_region 4 with fail
        clear s1 s2 t1 t2 e1 e2 z1 z2
        go_upto_region 6 with fail
        go_wp2_with (first | (refine wpList_load_run 38 (.tmp 1) (.pointer (some ⟨w.heap.size, 0, none⟩)) (.agg (actA a)) ?_ ?_ ?_ ?_ ?_; rfl; rfl; rfl; exact hL _) | (go_at_call 223; refine (ridRight_any _ _ hza).mono ?_; rintro e w' ⟨rfl, rfl⟩) | (go_at_call 224; refine (rfits_any a _ (hIn _) ho).mono ?_; rintro e w' ⟨rfl, hq2⟩; obtain ⟨y, rfl⟩ := Wd.next _ hq2; clear hq2))
        go_ret
        exact ⟨by rw [HR.out]; rfl, Q.trans hq1 (Wd.q _)⟩
    · have hp2 : ((a.prev.size : Int) != 32) = true := by simp; omega
      have HR := Lib.hid (show actRight a = false by rw [HX.out, if_neg s0, decide_eq_false hp]; rfl)
      go_enter Tryz.func170, Tryz.ntmps170
      go_upto_region 2 with (first | (refine wpList_load_run 38 (.tmp 1) (.pointer (some ⟨w.heap.size, 0, none⟩)) (.agg (actA a)) ?_ ?_ ?_ ?_ ?_; rfl; rfl; rfl; exact hL _) | (go_at_call 223; refine (ridRight_any _ _ hza).mono ?_; rintro e w' ⟨rfl, rfl⟩) | (go_at_call 224; refine (rfits_any a _ (hIn _) ho).mono ?_; rintro e w' ⟨rfl, hq2⟩; obtain ⟨y, rfl⟩ := Wd.next _ hq2; clear hq2))
      go_upto_region 4 with fail
      clear s1 s2 t1 t2 e1 e2 z1 z2
      go_upto_region 6 with fail
      go_wp2_with (first | (refine wpList_load_run 38 (.tmp 1) (.pointer (some ⟨w.heap.size, 0, none⟩)) (.agg (actA a)) ?_ ?_ ?_ ?_ ?_; rfl; rfl; rfl; exact hL _) | (go_at_call 223; refine (ridRight_any _ _ hza).mono ?_; rintro e w' ⟨rfl, rfl⟩) | (go_at_call 224; refine (rfits_any a _ (hIn _) ho).mono ?_; rintro e w' ⟨rfl, hq2⟩; obtain ⟨y, rfl⟩ := Wd.next _ hq2; clear hq2))
      go_ret
      exact ⟨by rw [HR.out]; rfl, Q.trans hq1 (Wd.q _)⟩
theorem ractRight_any (a : ActR) (w : World) (hI : ActIn w a) (ho : ActOk a) : Calls Tryz.prog 170 #[.agg (actA a)] w fun e w' => e = .returned (.bool (actRight a)) ∧ Q w w' := by
  by_cases h : idB a.author = true ∧ ¬ a.seq < 0 ∧ ¬ 1073741824 < a.seq ∧ ¬ a.time < 0 ∧ ¬ 1099511627776 < a.time ∧ ¬ a.e < 0 ∧ ¬ 2305843009213693950 ≤ a.e ∧ ¬ a.s < 0 ∧ ¬ 2305843009213693950 ≤ a.s
  · obtain ⟨g1, s1, s2, t1, t2, e1, e2, z1, z2⟩ := h
    exact ractRight_in a w hI ho g1 s1 s2 t1 t2 e1 e2 z1 z2
  · exact ractRight_out a w ho h
end Go.Proofs.YtomkeaeegdjhnaaGreatDoor.Item

namespace Go.Proofs.YtomkeaeegdjhnaaGreatDoor.Item
open Go.RowKit Grp Mem _root_.Go.Proofs.YtomkeaeegdjhnaaGreatDoor.Code Sha Sign _root_.Go.Proofs.YtomkeaeegdjhnaaGreatDoor.Known

set_option maxHeartbeats 2000000 in
theorem rbox_any (n d t : ByteArray) (w : World) (h : n.size + d.size + t.size ≤ 140737488355000) : Calls Tryz.prog 251 #[.agg #[.string n, .string d, .string t]] w fun e w' => e = .returned (.string ⟨(boxL n d t).toArray⟩) ∧ Q w w' := by
  obtain ⟨w1, x, hx, hq1, hlt, hr⟩ := boxed w 33 [.string n, .string d, .string t]
  have c0 := Wd.at0 hlt hr 0 rfl
  have c1 := Wd.at0 hlt hr 1 rfl
  have c2 := Wd.at0 hlt hr 2 rfl
  have z0 := textB_size n
  have z1 := textB_size d
  have z2 := textB_size t
  have a1 : (textB n).size + (textB d).size ≤ 9223372036854775807 := by omega
  have a2 : (textB n).size + (textB d).size + (textB t).size ≤ 9223372036854775807 := by omega
  have HR : Hid ((textB n ++ textB d) ++ textB t = ⟨(boxL n d t).toArray⟩) := Lib.hid (by
    apply ba_ext
    rw [ba_append, ba_append, textB_list, textB_list, textB_list, ba_list, boxL, List.append_assoc])
  go_enter Tryz.func251, Tryz.ntmps251
  go_wp2
  refine wp_region_wd x (by kernel_rfl) (by kernel_rfl) ?_
  repeat (go_big_quiet_step (exact Wd.call _ (RText_any _ _ (by omega))))
  refine wpQuiet_nil ?_
  rintro w'' ⟨z, rfl⟩
  go_wp2
  go_ret
  exact ⟨by rw [← HR.out]; rfl, Q.trans hq1 z.q⟩

set_option maxHeartbeats 1000000 in
theorem rcore_no (a : ActR) (w : World) (hI : ActIn w a) (ho : ActOk a) (h : actRight a = false) : Calls Tryz.prog 220 #[.agg (actA a)] w fun e w' => e = .returned (.string (actCore a)) ∧ Q w w' := by
  obtain ⟨w1, x, hx, hq1, hA⟩ := ActAt.box w a 38
  have hL := hA.load
  have HR : Hid (actCore a = ⟨#[]⟩) := Lib.hid (by unfold actCore; rw [h]; rfl)
  clear hA
  go_enter Tryz.func220, Tryz.ntmps220
  go_wp2_with (first | (refine wpList_load_run 38 (.tmp 1) (.pointer (some ⟨w.heap.size, 0, none⟩)) (.agg (actA a)) ?_ ?_ ?_ ?_ ?_; rfl; rfl; rfl; exact hL _) | (go_at_call 170; refine (ractRight_any _ _ (hI.q (Q.trans hq1 (Wd.q _))) ho).mono ?_; rintro e w' ⟨rfl, hq2⟩; obtain ⟨y, rfl⟩ := Wd.next _ hq2; clear hq2))
  go_ret
  exact ⟨by rw [HR.out]; rfl, Q.trans hq1 (Wd.q _)⟩

set_option maxRecDepth 100000 in
set_option maxHeartbeats 8000000 in
theorem rcore_yes (a : ActR) (w : World) (hI : ActIn w a) (ho : ActOk a) (h : actRight a = true) : Calls Tryz.prog 220 #[.agg (actA a)] w fun e w' => e = .returned (.string (actCore a)) ∧ Q w w' := by
  have sm := act_small h
  obtain ⟨w1, x, hx, hq1, hA⟩ := ActAt.box w a 38
  have hL := hA.load
  have HR : Hid (actCore a = ⟨(coreL a).toArray⟩) := Lib.hid (by unfold actCore; rw [h]; rfl)
  have c0 := hA.get 0 rfl
  have c1 := hA.get 1 rfl
  have c2 := hA.get 2 rfl
  have c3 := hA.get 3 rfl
  have c4 := hA.get 4 rfl
  have c5 := hA.get 5 rfl
  have c6 := hA.get 6 rfl
  have c7 := hA.get 7 rfl
  have c8 := hA.get 8 rfl
  have c9 := hA.get 9 rfl
  have c10 := hA.get 10 rfl
  have c11 := hA.get 11 rfl
  have c12 := hA.get 12 rfl
  have c13 := hA.get 13 rfl
  have c14 := hA.get 14 rfl
  have c15 := hA.get 15 rfl
  have c16 := hA.get 16 rfl
  have c17 := hA.get 17 rfl
  have hI' : ∀ y : Wd w1, ActIn y.w a := fun y => hI.q (Q.trans hq1 y.q)
  have hwl := hI.wrLen
  have b0 : (textB actT).size ≤ 20 := Nat.le_trans (textB_size actT) (by decide)
  have b1 := textB_size a.author
  have b2 := numB_size a.seq
  have b3 := textB_size a.prev
  have b4 := numB_size a.kind
  have b5 := numB_size a.time
  have q0 := sm.seq
  have q1 := sm.author
  have q2 := sm.prev
  have q5 := sm.kind
  have q6 := sm.time
  have f1 : (textB actT).size + (textB a.author).size ≤ 9223372036854775807 := by omega
  have f2 : (textB actT).size + (textB a.author).size + (numB a.seq).size ≤ 9223372036854775807 := by omega
  have f3 : (textB actT).size + (textB a.author).size + (numB a.seq).size + (textB a.prev).size ≤ 9223372036854775807 := by omega
  have f4 : (textB actT).size + (textB a.author).size + (numB a.seq).size + (textB a.prev).size + (numB a.kind).size ≤ 9223372036854775807 := by omega
  have f5 : (textB actT).size + (textB a.author).size + (numB a.seq).size + (textB a.prev).size + (numB a.kind).size + (numB a.time).size ≤ 9223372036854775807 := by omega
  clear hA
  go_enter Tryz.func220, Tryz.ntmps220
  go_wp2_with (first | (refine wpList_load_run 38 (.tmp 1) (.pointer (some ⟨w.heap.size, 0, none⟩)) (.agg (actA a)) ?_ ?_ ?_ ?_ ?_; rfl; rfl; rfl; exact hL _) | (go_at_call 170; refine (ractRight_any _ _ (hI' _) ho).mono ?_; rintro e w' ⟨rfl, hq2⟩; obtain ⟨y, rfl⟩ := Wd.next _ hq2; clear hq2))
  refine wp_region_wd y (by kernel_rfl) (by kernel_rfl) ?_
  repeat (go_big_quiet_step (first | (go_at_call 106; exact Wd.call _ (RNum_any _ _ (by omega))) | (go_at_call 108; exact Wd.call _ (RText_any _ _ (by omega))) | exact Wd.call _ (RText_any actT _ (by decide))))
  refine wpQuiet_nil ?_
  rintro w'' ⟨y4, rfl⟩
  clear f1 f2 f3 f4 f5
  generalize hS4 : ((((textB actT ++ textB a.author) ++ numB a.seq) ++ textB a.prev) ++ numB a.kind) ++ numB a.time = S4
  have s4 : S4.size ≤ 400 := by rw [← hS4]; simp only [ByteArray.size_append]; omega
  have H4 := Lib.hid hS4
  clear hS4 b0 b1 b2 b3 b4 b5
  have b6 := textB_size a.object
  have b7 := textB_size a.target
  have b8 := numB_size a.scope
  have b9 := textB_size a.group
  have b10 := listL_le a.to 16 sm.ids
  have b10' := listB_size a.to
  have b11 := textB_size a.text
  have q3 := sm.object
  have q4 := sm.target
  have q7 := sm.scope
  have q8 := sm.group
  have q9 := sm.to
  have q10 := sm.text
  have g1 : S4.size + (textB a.object).size ≤ 9223372036854775807 := by omega
  have g2 : S4.size + (textB a.object).size + (textB a.target).size ≤ 9223372036854775807 := by omega
  have g3 : S4.size + (textB a.object).size + (textB a.target).size + (numB a.scope).size ≤ 9223372036854775807 := by omega
  have g4 : S4.size + (textB a.object).size + (textB a.target).size + (numB a.scope).size + (textB a.group).size ≤ 9223372036854775807 := by omega
  have g5 : S4.size + (textB a.object).size + (textB a.target).size + (numB a.scope).size + (textB a.group).size + (listB a.to).size ≤ 9223372036854775807 := by omega
  have g6 : S4.size + (textB a.object).size + (textB a.target).size + (numB a.scope).size + (textB a.group).size + (listB a.to).size + (textB a.text).size ≤ 9223372036854775807 := by omega
  go_wp2
  refine wp_region_wd y4 (by kernel_rfl) (by kernel_rfl) ?_
  repeat (go_big_quiet_step (first | (go_at_call 106; exact Wd.call _ (RNum_any _ _ (by omega))) | (go_at_call 108; exact Wd.call _ (RText_any _ _ (by omega))) | (go_at_call 56; exact Wd.call _ (RList_any _ _ _ _ (hI' _).to (by omega) (by omega)))))
  refine wpQuiet_nil ?_
  rintro w'' ⟨y5, rfl⟩
  clear g1 g2 g3 g4 g5 g6
  generalize hS5 : (((((S4 ++ textB a.object) ++ textB a.target) ++ numB a.scope) ++ textB a.group) ++ listB a.to) ++ textB a.text = S5
  have s5 : S5.size ≤ 4000 := by rw [← hS5]; simp only [ByteArray.size_append]; omega
  have H5 := Lib.hid hS5
  clear hS5 b6 b7 b8 b9 b10 b10' b11 s4
  have b12 := boxL_le a.bn a.bd a.bt
  have b12' := box_size a.bn a.bd a.bt
  have b13 := numB_size a.epoch
  have b14 := numB_size a.wraps.length
  have q11 := sm.body
  have q12 := sm.epoch
  have q13 := sm.wraps
  have g0 : S5.size + (⟨(boxL a.bn a.bd a.bt).toArray⟩ : ByteArray).size ≤ 9223372036854775807 := by omega
  have g1 : S5.size + (⟨(boxL a.bn a.bd a.bt).toArray⟩ : ByteArray).size + (numB a.epoch).size ≤ 9223372036854775807 := by omega
  have g2 : S5.size + (⟨(boxL a.bn a.bd a.bt).toArray⟩ : ByteArray).size + (numB a.epoch).size + (numB (a.wraps.length : Int)).size ≤ 9223372036854775807 := by omega
  go_wp2
  refine wp_region_wd y5 (by kernel_rfl) (by kernel_rfl) ?_
  repeat (go_big_quiet_step (first | (go_at_call 106; exact Wd.call _ (RNum_any _ _ (by omega))) | (go_at_call 108; exact Wd.call _ (RText_any _ _ (by omega))) | (go_at_call 251; exact Wd.call _ (rbox_any _ _ _ _ (by omega)))))
  refine wpQuiet_nil ?_
  rintro w'' ⟨y6, rfl⟩
  clear g0 g1 g2
  generalize hS6 : ((S5 ++ (⟨(boxL a.bn a.bd a.bt).toArray⟩ : ByteArray)) ++ numB a.epoch) ++ numB (a.wraps.length : Int) = S6
  have s6 : S6.size ≤ 5000 := by rw [← hS6]; simp only [ByteArray.size_append]; omega
  have H6 := Lib.hid hS6
  clear hS6 b12 b12' b13 b14 s5
  clear q0 q1 q2 q3 q4 q5 q6 q7 q8 q9 q10 q11 q12 c0 c1 c2 c3 c4 c5 c6 c7 c8 c9 c10 c11 c12 c13 c14 hL
  go_wp2
  go_loopw [4, 5] (fun s i wr => ∃ (k : Nat) (z : Wd w1) (S : ByteArray), s = .string S ∧ i = .int .i64 k ∧ wr = z.w ∧ k ≤ a.wraps.length ∧ Hid (S.data.toList = S6.data.toList ++ (a.wraps.take k).flatMap wrapL)) (fun _ i _ => a.wraps.length - (intOf i).toNat)
  case atStart => exact ⟨0, y6, S6, rfl, rfl, rfl, Nat.zero_le _, Lib.hid (by simp)⟩
  case round =>
    obtain ⟨k, z, S, rfl, rfl, rfl, hk, hS⟩ := hrel
    have hSz : S.size ≤ 5000 + 64 * 600 := by
      have h1 := congrArg List.length hS.out
      rw [List.length_append, ba_length, ba_length] at h1
      have h2 := flat_le wrapL 600 (a.wraps.take k) fun v hv => wrapL_le v (sm.each v (List.mem_of_mem_take hv))
      rw [List.length_take] at h2
      have h3 := Nat.mul_le_mul_right 600 (show min k a.wraps.length ≤ 64 by omega)
      omega
    by_cases hlt : k < a.wraps.length
    · obtain ⟨b, o, hwA, hb, hcell⟩ := (hI.wraps.q hq1) (by omega)
      have hv := sm.each _ (List.getElem_mem hlt)
      have hst : (a.wraps.take (k + 1)).flatMap wrapL = (a.wraps.take k).flatMap wrapL ++ wrapL a.wraps[k] := by
        rw [List.take_succ_eq_append_getElem hlt, List.flatMap_append]
        simp
      have k0 := Wd.get (w0 := w1) hb (hcell k hlt) 0 rfl
      have k1 := Wd.get (w0 := w1) hb (hcell k hlt) 1 rfl
      have k2 := Wd.get (w0 := w1) hb (hcell k hlt) 2 rfl
      have k3 := Wd.get (w0 := w1) hb (hcell k hlt) 3 rfl
      have k4 := Wd.get (w0 := w1) hb (hcell k hlt) 4 rfl
      simp only [Nat.add_zero] at k0
      have HST := Lib.hid hst
      clear hst hcell
      generalize a.wraps[k] = v at *
      rw [hwA] at c15
      simp only [wrapOk, Bool.and_eq_true] at hv
      have p1 := publicB_facts hv.1
      have p2 := publicB_facts hv.2.1
      have p3 := sealedB_facts hv.2.2
      have n1 := numB_size v.to
      have n2 := numB_size v.eph
      have n3 := boxL_le v.n v.d v.t
      have n3' := box_size v.n v.d v.t
      have g0 : S.size + (numB v.to).size ≤ 9223372036854775807 := by omega
      have g1 : S.size + (numB v.to).size + (numB v.eph).size ≤ 9223372036854775807 := by omega
      have g2 : S.size + (numB v.to).size + (numB v.eph).size + (⟨(boxL v.n v.d v.t).toArray⟩ : ByteArray).size ≤ 9223372036854775807 := by omega
      have hk0 : (0 : Int) ≤ (k : Int) := by omega
      have hk1 : (k : Int) < (a.wraps.length : Int) := by omega
      go_wp2
      refine wp_region_wd z (by kernel_rfl) (by kernel_rfl) ?_
      repeat (go_big_quiet_step (first | (go_at_call 106; exact Wd.call _ (RNum_any _ _ (by omega))) | (go_at_call 251; exact Wd.call _ (rbox_any _ _ _ _ (by omega)))))
      refine wpQuiet_nil ?_
      rintro w'' ⟨y7, rfl⟩
      go_wp2
      exact ⟨⟨k + 1, y7, _, rfl, by go_num, rfl, by omega, Lib.hid (by
        rw [HST.out, ba_append, ba_append, ba_append, hS.out, ba_list]
        simp only [wrapL, numL_eq, List.append_assoc])⟩, by simp only [intOf]; omega⟩
    · have hks : k = a.wraps.length := by omega
      have n1 := numB_size a.n
      have n2 := numB_size a.m
      have p1 := sm.n
      have p2 := sm.m
      have g0 : S.size + (numB a.n).size ≤ 9223372036854775807 := by omega
      have g1 : S.size + (numB a.n).size + (numB a.m).size ≤ 9223372036854775807 := by omega
      have HF : Hid ((S ++ numB a.n) ++ numB a.m = actCore a) := Lib.hid (by
        have h1 := hS.out
        rw [hks, List.take_length] at h1
        rw [HR.out]
        apply ba_ext
        rw [ba_append, ba_append, h1, ← H6.out, ← H5.out, ← H4.out, ba_list]
        simp only [ba_append, textB_list, numL_eq, listB_list, ba_list, coreL, List.append_assoc])
      clear hks hS
      go_wp2
      refine wp_region_wd z (by kernel_rfl) (by kernel_rfl) ?_
      repeat (go_big_quiet_step ((go_at_call 106; exact Wd.call _ (RNum_any _ _ (by omega)))))
      refine wpQuiet_nil ?_
      rintro w'' ⟨y7, rfl⟩
      go_wp2
      go_ret
      exact ⟨by rw [← HF.out]; rfl, Q.trans hq1 y7.q⟩
theorem rcore_any (a : ActR) (w : World) (hI : ActIn w a) (ho : ActOk a) : Calls Tryz.prog 220 #[.agg (actA a)] w fun e w' => e = .returned (.string (actCore a)) ∧ Q w w' := by
  cases h : actRight a
  · exact rcore_no a w hI ho h
  · exact rcore_yes a w hI ho h
set_option maxHeartbeats 2000000 in
theorem ractBytes_any (a : ActR) (w : World) (hI : ActIn w a) (ho : ActOk a) : Calls Tryz.prog 160 #[.agg (actA a)] w fun e w' => e = .returned (.string (actBytes a)) ∧ Q w w' := by
  obtain ⟨w1, x, hx, hq1, hA⟩ := ActAt.box w a 38
  have hL := hA.load
  have c18 := hA.get 18 rfl
  have c19 := hA.get 19 rfl
  have hem := actCore_empty a
  clear hA
  cases h : actRight a
  · rw [h] at hem
    have HR : Hid (actBytes a = ⟨#[]⟩) := Lib.hid (by unfold actBytes; rw [h]; rfl)
    clear h
    go_enter Tryz.func160, Tryz.ntmps160
    go_wp2_with (first | (refine wpList_load_run 38 (.tmp 1) (.pointer (some ⟨w.heap.size, 0, none⟩)) (.agg (actA a)) ?_ ?_ ?_ ?_ ?_; rfl; rfl; rfl; exact hL _) | (go_at_call 220; refine (rcore_any _ _ (hI.q (Q.trans hq1 (Wd.q _))) ho).mono ?_; rintro e w' ⟨rfl, hq2⟩; obtain ⟨y, rfl⟩ := Wd.next _ hq2; clear hq2))
    go_ret
    exact ⟨by rw [HR.out]; rfl, Q.trans hq1 (Wd.q _)⟩
  · rw [h] at hem
    have sm := act_small h
    have p1 := sm.e
    have p2 := sm.s
    have hsz : (actCore a).size ≤ 60000 := by unfold actCore; rw [h, if_pos rfl, ba_size]; exact coreL_le a h
    have HR : Hid ((actCore a ++ numB a.e) ++ numB a.s = actBytes a) := Lib.hid (by
      unfold actBytes actCore
      rw [h, if_pos rfl, if_pos rfl]
      apply ba_ext
      rw [ba_append, ba_append, ba_list, ba_list, numL_eq, numL_eq, List.append_assoc])
    have n1 := numB_size a.e
    have n2 := numB_size a.s
    have g0 : (actCore a).size + (numB a.e).size ≤ 9223372036854775807 := by omega
    have g1 : (actCore a).size + (numB a.e).size + (numB a.s).size ≤ 9223372036854775807 := by omega
    clear h sm
    go_enter Tryz.func160, Tryz.ntmps160
    go_wp2_with (first | (refine wpList_load_run 38 (.tmp 1) (.pointer (some ⟨w.heap.size, 0, none⟩)) (.agg (actA a)) ?_ ?_ ?_ ?_ ?_; rfl; rfl; rfl; exact hL _) | (go_at_call 220; refine (rcore_any _ _ (hI.q (Q.trans hq1 (Wd.q _))) ho).mono ?_; rintro e w' ⟨rfl, hq2⟩; obtain ⟨y, rfl⟩ := Wd.next _ hq2; clear hq2))
    refine wp_region_wd _ (by kernel_rfl) (by kernel_rfl) ?_
    repeat (go_big_quiet_step ((go_at_call 106; exact Wd.call _ (RNum_any _ _ (by omega)))))
    refine wpQuiet_nil ?_
    rintro w'' ⟨y7, rfl⟩
    go_wp2
    go_ret
    exact ⟨by rw [← HR.out]; rfl, Q.trans hq1 y7.q⟩
end Go.Proofs.YtomkeaeegdjhnaaGreatDoor.Item

namespace Go.Proofs.YtomkeaeegdjhnaaGreatDoor.Item
open Go.RowKit Grp Mem _root_.Go.Proofs.YtomkeaeegdjhnaaGreatDoor.Code Sha Sign _root_.Go.Proofs.YtomkeaeegdjhnaaGreatDoor.Known

theorem ways7b (b1 b2 b3 b4 b5 b6 b7 : Bool) : (b1 = false ∨ (b1 = true ∧ b2 = false) ∨ (b1 = true ∧ b2 = true ∧ b3 = false) ∨ (b1 = true ∧ b2 = true ∧ b3 = true ∧ b4 = false) ∨ (b1 = true ∧ b2 = true ∧ b3 = true ∧ b4 = true ∧ b5 = false) ∨ (b1 = true ∧ b2 = true ∧ b3 = true ∧ b4 = true ∧ b5 = true ∧ b6 = false) ∨
      (b1 = true ∧ b2 = true ∧ b3 = true ∧ b4 = true ∧ b5 = true ∧ b6 = true ∧ b7 = false)) ∨ (b1 = true ∧ b2 = true ∧ b3 = true ∧ b4 = true ∧ b5 = true ∧ b6 = true ∧ b7 = true) := by
  cases b1 <;> cases b2 <;> cases b3 <;> cases b4 <;> cases b5 <;> cases b6 <;> cases b7 <;> simp
theorem terms_kind {d : DecR} (h : termsB d = true) : withinB d.kind 0 9 = true := by
  unfold termsB at h
  simp only [withinB, Bool.and_eq_true, decide_eq_true_eq]
  by_cases h1 : d.kind = 0 ∨ d.kind = 1 ∨ d.kind = 4 ∨ d.kind = 6 ∨ d.kind = 7
  · omega
  rw [if_neg h1] at h
  by_cases h2 : d.kind = 2 ∨ d.kind = 3 ∨ d.kind = 5
  · omega
  rw [if_neg h2] at h
  by_cases h3 : d.kind = 8
  · omega
  rw [if_neg h3] at h
  by_cases h4 : d.kind = 9
  · omega
  rw [if_neg h4] at h
  cases h
theorem rdecided_any (d : DecR) (w : World) (hI : DecIn w d) (ho : DecOk d) : Calls Tryz.prog 173 #[.agg (decA d)] w fun e w' => e = .returned (.bool (decRight d)) ∧ Q w w' := by
  rcases ways7b (withinB d.server 0 19) (withinB d.number 0 1073741824) (withinB d.kind 0 9) (withinB d.start 0 1099511627776) (withinB d.stop 0 1099511627776) (decide (d.start < d.stop)) (inOrd d.e && inOrd d.s) with h | ⟨g1, g2, g3, g4, g5, g6, g7⟩
  · have HR : decRight d = false := by
      cases hd : decRight d
      · rfl
      · exfalso
        unfold decRight at hd
        simp only [Bool.and_eq_true] at hd
        obtain ⟨d1, d2, d3, d4, d5, d6, d7, d8⟩ := hd
        have d9 := terms_kind d6
        rw [d1, d2, d3, d4, d5, d7, d8, d9] at h
        simp at h
    rw [HR]
    exact rdecided_out d w hI ho h
  · have HR : decRight d = termsB d := by
      unfold decRight
      rw [g1, g2, g4, g5, g6, g7]
      simp
    rw [HR]
    have g6 := of_decide_eq_true g6
    have h2 : 0 ≤ d.kind ∧ d.kind ≤ 9 := by simpa [withinB] using g3
    rcases (show d.kind = 0 ∨ d.kind = 1 ∨ d.kind = 2 ∨ d.kind = 3 ∨ d.kind = 4 ∨ d.kind = 5 ∨ d.kind = 6 ∨ d.kind = 7 ∨ d.kind = 8 ∨ d.kind = 9 by omega) with k | k | k | k | k | k | k | k | k | k
    · exact rdecided_0 d w hI ho k g1 g2 g3 g4 g5 g6 g7
    · exact rdecided_1 d w hI ho k g1 g2 g3 g4 g5 g6 g7
    · exact rdecided_2 d w hI ho k g1 g2 g3 g4 g5 g6 g7
    · exact rdecided_3 d w hI ho k g1 g2 g3 g4 g5 g6 g7
    · exact rdecided_4 d w hI ho k g1 g2 g3 g4 g5 g6 g7
    · exact rdecided_5 d w hI ho k g1 g2 g3 g4 g5 g6 g7
    · exact rdecided_6 d w hI ho k g1 g2 g3 g4 g5 g6 g7
    · exact rdecided_7 d w hI ho k g1 g2 g3 g4 g5 g6 g7
    · exact rdecided_8 d w hI ho k g1 g2 g3 g4 g5 g6 g7
    · exact rdecided_9 d w hI ho k g1 g2 g3 g4 g5 g6 g7

set_option maxRecDepth 100000 in
theorem zAct (w : World) : (Instr.build 38 #[]).run Tryz.prog w = .ok (.agg (actA act0)) w := by kernel_rfl
set_option maxRecDepth 100000 in
theorem zClaim (w : World) : (Instr.build 40 #[]).run Tryz.prog w = .ok (.agg (claimA claim0)) w := by kernel_rfl
set_option maxRecDepth 100000 in
theorem zBallot (w : World) : (Instr.build 42 #[]).run Tryz.prog w = .ok (.agg (ballotA ballot0)) w := by kernel_rfl
set_option maxRecDepth 100000 in
theorem zDecision (w : World) : (Instr.build 44 #[]).run Tryz.prog w = .ok (.agg (decA dec0)) w := by kernel_rfl
open Go.Op Go.Instr in
theorem claimEq0 (c : ClaimV) (w : World) : (binOp .eql 40 (.agg (claimA c)) (.agg #[.string ⟨#[]⟩, .int .i64 0, .string ⟨#[]⟩, .int .i64 0, .int .i64 0, .int .i64 0, .int .i64 0, .int .i64 0, .int .i64 0])).run Tryz.prog w = .ok (.bool (c.same claim0)) w := claimEq c claim0 w
open Go.Op Go.Instr in
theorem ballotEq0 (c : BallotV) (w : World) : (binOp .eql 42 (.agg (ballotA c)) (.agg #[.int .i64 0, .string ⟨#[]⟩, .int .i64 0, .string ⟨#[]⟩, .int .i64 0, .int .i64 0, .int .i64 0])).run Tryz.prog w = .ok (.bool (c.same ballot0)) w := ballotEq c ballot0 w
set_option maxRecDepth 100000 in
set_option maxHeartbeats 4000000 in
theorem rright_0 (i : ItemR) (w : World) (hI : ItemIn w i) (ho : ItemOk i) (hk : i.kind = 0) : Calls Tryz.prog 123 #[.agg (itA i)] w fun e w' => e = .returned (.bool (itemRight i)) ∧ Q w w' := by
  obtain ⟨w1, x, hx, hq1, hl, hr⟩ := boxed w 46 i.cells
  have hx : w.alloc (.cells (itA i) 46) = x.w := hx
  have hAct := item_act hl hr
  have hClaim := item_claim hl hr
  have hBallot := item_ballot hl hr
  have hDecision := item_dec hl hr
  have c0 := Wd.at0 hl hr 0 rfl
  have hI' : ∀ y : Wd w1, ItemIn y.w i := fun y => hI.q (Q.trans hq1 y.q)
  have hE1 := claimEq0
  have hE2 := ballotEq0
  clear hl hr
  rw [hk] at c0
  have HK := Lib.hid hk
  clear hk
  go_enter Tryz.func123, Tryz.ntmps123
  go_wp2_with (first | (refine wpList_load_run 38 (.tmp 8) (.pointer (some ⟨w.heap.size, 1, none⟩)) (.agg (actA i.act)) ?_ ?_ ?_ ?_ ?_; rfl; rfl; rfl; exact hAct _) | (refine wpList_load_run 40 (.tmp 12) (.pointer (some ⟨w.heap.size, 21, none⟩)) (.agg (claimA i.claim)) ?_ ?_ ?_ ?_ ?_; rfl; rfl; rfl; exact hClaim _) | (refine wpList_load_run 42 (.tmp 16) (.pointer (some ⟨w.heap.size, 30, none⟩)) (.agg (ballotA i.ballot)) ?_ ?_ ?_ ?_ ?_; rfl; rfl; rfl; exact hBallot _) | (refine wpList_load_run 44 (.tmp 20) (.pointer (some ⟨w.heap.size, 37, none⟩)) (.agg (decA i.dec)) ?_ ?_ ?_ ?_ ?_; rfl; rfl; rfl; exact hDecision _) | (refine wpList_build_run 38 _ #[] (.agg (actA act0)) rfl ?_ ?_ (zAct _) ?_; rfl; (simp; done)) | (refine wpList_build_run 40 _ #[] (.agg (claimA claim0)) rfl ?_ ?_ (zClaim _) ?_; rfl; (simp; done)) | (refine wpList_build_run 42 _ #[] (.agg (ballotA ballot0)) rfl ?_ ?_ (zBallot _) ?_; rfl; (simp; done)) | (refine wpList_build_run 44 _ #[] (.agg (decA dec0)) rfl ?_ ?_ (zDecision _) ?_; rfl; (simp; done)) | (go_at_call 73; refine (ractSame_any i.act act0 _ (hI' _).act (act0_in _)).mono ?_; rintro e w' ⟨rfl, hq2⟩; obtain ⟨y, rfl⟩ := Wd.next _ hq2; clear hq2) | (go_at_call 74; refine (rdecSame_any i.dec dec0 _ (hI' _).dec (dec0_in _)).mono ?_; rintro e w' ⟨rfl, hq2⟩; obtain ⟨y, rfl⟩ := Wd.next _ hq2; clear hq2) | (refine wpList_load_run 38 (.tmp 28) (.pointer (some ⟨w.heap.size, 1, none⟩)) (.agg (actA i.act)) ?_ ?_ ?_ ?_ ?_; rfl; rfl; rfl; exact hAct _) | (go_at_call 170; refine (ractRight_any i.act _ (hI' _).act ho.act).mono ?_; rintro e w' ⟨rfl, hq2⟩; obtain ⟨y, rfl⟩ := Wd.next _ hq2; clear hq2))
  all_goals
    go_ret
    refine ⟨?_, Q.trans hq1 (Wd.q _)⟩
    have hk := HK.out
    clear hAct hClaim hBallot hDecision c0 hx hE1 hE2 hI'
    simp_all [itemRight]
set_option maxRecDepth 100000 in
set_option maxHeartbeats 4000000 in
theorem rright_1 (i : ItemR) (w : World) (hI : ItemIn w i) (ho : ItemOk i) (hk : i.kind = 1) : Calls Tryz.prog 123 #[.agg (itA i)] w fun e w' => e = .returned (.bool (itemRight i)) ∧ Q w w' := by
  obtain ⟨w1, x, hx, hq1, hl, hr⟩ := boxed w 46 i.cells
  have hx : w.alloc (.cells (itA i) 46) = x.w := hx
  have hAct := item_act hl hr
  have hClaim := item_claim hl hr
  have hBallot := item_ballot hl hr
  have hDecision := item_dec hl hr
  have c0 := Wd.at0 hl hr 0 rfl
  have hI' : ∀ y : Wd w1, ItemIn y.w i := fun y => hI.q (Q.trans hq1 y.q)
  have hE1 := claimEq0
  have hE2 := ballotEq0
  clear hl hr
  rw [hk] at c0
  have HK := Lib.hid hk
  clear hk
  go_enter Tryz.func123, Tryz.ntmps123
  go_wp2_with (first | (refine wpList_load_run 38 (.tmp 8) (.pointer (some ⟨w.heap.size, 1, none⟩)) (.agg (actA i.act)) ?_ ?_ ?_ ?_ ?_; rfl; rfl; rfl; exact hAct _) | (refine wpList_load_run 40 (.tmp 12) (.pointer (some ⟨w.heap.size, 21, none⟩)) (.agg (claimA i.claim)) ?_ ?_ ?_ ?_ ?_; rfl; rfl; rfl; exact hClaim _) | (refine wpList_load_run 42 (.tmp 16) (.pointer (some ⟨w.heap.size, 30, none⟩)) (.agg (ballotA i.ballot)) ?_ ?_ ?_ ?_ ?_; rfl; rfl; rfl; exact hBallot _) | (refine wpList_load_run 44 (.tmp 20) (.pointer (some ⟨w.heap.size, 37, none⟩)) (.agg (decA i.dec)) ?_ ?_ ?_ ?_ ?_; rfl; rfl; rfl; exact hDecision _) | (refine wpList_build_run 38 _ #[] (.agg (actA act0)) rfl ?_ ?_ (zAct _) ?_; rfl; (simp; done)) | (refine wpList_build_run 40 _ #[] (.agg (claimA claim0)) rfl ?_ ?_ (zClaim _) ?_; rfl; (simp; done)) | (refine wpList_build_run 42 _ #[] (.agg (ballotA ballot0)) rfl ?_ ?_ (zBallot _) ?_; rfl; (simp; done)) | (refine wpList_build_run 44 _ #[] (.agg (decA dec0)) rfl ?_ ?_ (zDecision _) ?_; rfl; (simp; done)) | (go_at_call 73; refine (ractSame_any i.act act0 _ (hI' _).act (act0_in _)).mono ?_; rintro e w' ⟨rfl, hq2⟩; obtain ⟨y, rfl⟩ := Wd.next _ hq2; clear hq2) | (go_at_call 74; refine (rdecSame_any i.dec dec0 _ (hI' _).dec (dec0_in _)).mono ?_; rintro e w' ⟨rfl, hq2⟩; obtain ⟨y, rfl⟩ := Wd.next _ hq2; clear hq2) | (refine wpList_load_run 40 (.tmp 43) (.pointer (some ⟨w.heap.size, 21, none⟩)) (.agg (claimA i.claim)) ?_ ?_ ?_ ?_ ?_; rfl; rfl; rfl; exact hClaim _) | (go_at_call 171; refine (rclaimed_any i.claim _ ho.claim).mono ?_; rintro e w' ⟨rfl, hq2⟩; obtain ⟨y, rfl⟩ := Wd.next _ hq2; clear hq2))
  all_goals
    go_ret
    refine ⟨?_, Q.trans hq1 (Wd.q _)⟩
    have hk := HK.out
    clear hAct hClaim hBallot hDecision c0 hx hE1 hE2 hI'
    simp_all [itemRight]
set_option maxRecDepth 100000 in
set_option maxHeartbeats 4000000 in
theorem rright_2 (i : ItemR) (w : World) (hI : ItemIn w i) (ho : ItemOk i) (hk : i.kind = 2) : Calls Tryz.prog 123 #[.agg (itA i)] w fun e w' => e = .returned (.bool (itemRight i)) ∧ Q w w' := by
  obtain ⟨w1, x, hx, hq1, hl, hr⟩ := boxed w 46 i.cells
  have hx : w.alloc (.cells (itA i) 46) = x.w := hx
  have hAct := item_act hl hr
  have hClaim := item_claim hl hr
  have hBallot := item_ballot hl hr
  have hDecision := item_dec hl hr
  have c0 := Wd.at0 hl hr 0 rfl
  have hI' : ∀ y : Wd w1, ItemIn y.w i := fun y => hI.q (Q.trans hq1 y.q)
  have hE1 := claimEq0
  have hE2 := ballotEq0
  clear hl hr
  rw [hk] at c0
  have HK := Lib.hid hk
  clear hk
  go_enter Tryz.func123, Tryz.ntmps123
  go_wp2_with (first | (refine wpList_load_run 38 (.tmp 8) (.pointer (some ⟨w.heap.size, 1, none⟩)) (.agg (actA i.act)) ?_ ?_ ?_ ?_ ?_; rfl; rfl; rfl; exact hAct _) | (refine wpList_load_run 40 (.tmp 12) (.pointer (some ⟨w.heap.size, 21, none⟩)) (.agg (claimA i.claim)) ?_ ?_ ?_ ?_ ?_; rfl; rfl; rfl; exact hClaim _) | (refine wpList_load_run 42 (.tmp 16) (.pointer (some ⟨w.heap.size, 30, none⟩)) (.agg (ballotA i.ballot)) ?_ ?_ ?_ ?_ ?_; rfl; rfl; rfl; exact hBallot _) | (refine wpList_load_run 44 (.tmp 20) (.pointer (some ⟨w.heap.size, 37, none⟩)) (.agg (decA i.dec)) ?_ ?_ ?_ ?_ ?_; rfl; rfl; rfl; exact hDecision _) | (refine wpList_build_run 38 _ #[] (.agg (actA act0)) rfl ?_ ?_ (zAct _) ?_; rfl; (simp; done)) | (refine wpList_build_run 40 _ #[] (.agg (claimA claim0)) rfl ?_ ?_ (zClaim _) ?_; rfl; (simp; done)) | (refine wpList_build_run 42 _ #[] (.agg (ballotA ballot0)) rfl ?_ ?_ (zBallot _) ?_; rfl; (simp; done)) | (refine wpList_build_run 44 _ #[] (.agg (decA dec0)) rfl ?_ ?_ (zDecision _) ?_; rfl; (simp; done)) | (go_at_call 73; refine (ractSame_any i.act act0 _ (hI' _).act (act0_in _)).mono ?_; rintro e w' ⟨rfl, hq2⟩; obtain ⟨y, rfl⟩ := Wd.next _ hq2; clear hq2) | (go_at_call 74; refine (rdecSame_any i.dec dec0 _ (hI' _).dec (dec0_in _)).mono ?_; rintro e w' ⟨rfl, hq2⟩; obtain ⟨y, rfl⟩ := Wd.next _ hq2; clear hq2) | (refine wpList_load_run 42 (.tmp 57) (.pointer (some ⟨w.heap.size, 30, none⟩)) (.agg (ballotA i.ballot)) ?_ ?_ ?_ ?_ ?_; rfl; rfl; rfl; exact hBallot _) | (go_at_call 172; refine (rvoted_any i.ballot _ ho.ballot).mono ?_; rintro e w' ⟨rfl, hq2⟩; obtain ⟨y, rfl⟩ := Wd.next _ hq2; clear hq2))
  all_goals
    go_ret
    refine ⟨?_, Q.trans hq1 (Wd.q _)⟩
    have hk := HK.out
    clear hAct hClaim hBallot hDecision c0 hx hE1 hE2 hI'
    simp_all [itemRight]
set_option maxRecDepth 100000 in
set_option maxHeartbeats 4000000 in
theorem rright_3 (i : ItemR) (w : World) (hI : ItemIn w i) (ho : ItemOk i) (hk : i.kind = 3) : Calls Tryz.prog 123 #[.agg (itA i)] w fun e w' => e = .returned (.bool (itemRight i)) ∧ Q w w' := by
  obtain ⟨w1, x, hx, hq1, hl, hr⟩ := boxed w 46 i.cells
  have hx : w.alloc (.cells (itA i) 46) = x.w := hx
  have hAct := item_act hl hr
  have hClaim := item_claim hl hr
  have hBallot := item_ballot hl hr
  have hDecision := item_dec hl hr
  have c0 := Wd.at0 hl hr 0 rfl
  have hI' : ∀ y : Wd w1, ItemIn y.w i := fun y => hI.q (Q.trans hq1 y.q)
  have hE1 := claimEq0
  have hE2 := ballotEq0
  clear hl hr
  rw [hk] at c0
  have HK := Lib.hid hk
  clear hk
  go_enter Tryz.func123, Tryz.ntmps123
  go_wp2_with (first | (refine wpList_load_run 38 (.tmp 8) (.pointer (some ⟨w.heap.size, 1, none⟩)) (.agg (actA i.act)) ?_ ?_ ?_ ?_ ?_; rfl; rfl; rfl; exact hAct _) | (refine wpList_load_run 40 (.tmp 12) (.pointer (some ⟨w.heap.size, 21, none⟩)) (.agg (claimA i.claim)) ?_ ?_ ?_ ?_ ?_; rfl; rfl; rfl; exact hClaim _) | (refine wpList_load_run 42 (.tmp 16) (.pointer (some ⟨w.heap.size, 30, none⟩)) (.agg (ballotA i.ballot)) ?_ ?_ ?_ ?_ ?_; rfl; rfl; rfl; exact hBallot _) | (refine wpList_load_run 44 (.tmp 20) (.pointer (some ⟨w.heap.size, 37, none⟩)) (.agg (decA i.dec)) ?_ ?_ ?_ ?_ ?_; rfl; rfl; rfl; exact hDecision _) | (refine wpList_build_run 38 _ #[] (.agg (actA act0)) rfl ?_ ?_ (zAct _) ?_; rfl; (simp; done)) | (refine wpList_build_run 40 _ #[] (.agg (claimA claim0)) rfl ?_ ?_ (zClaim _) ?_; rfl; (simp; done)) | (refine wpList_build_run 42 _ #[] (.agg (ballotA ballot0)) rfl ?_ ?_ (zBallot _) ?_; rfl; (simp; done)) | (refine wpList_build_run 44 _ #[] (.agg (decA dec0)) rfl ?_ ?_ (zDecision _) ?_; rfl; (simp; done)) | (go_at_call 73; refine (ractSame_any i.act act0 _ (hI' _).act (act0_in _)).mono ?_; rintro e w' ⟨rfl, hq2⟩; obtain ⟨y, rfl⟩ := Wd.next _ hq2; clear hq2) | (go_at_call 74; refine (rdecSame_any i.dec dec0 _ (hI' _).dec (dec0_in _)).mono ?_; rintro e w' ⟨rfl, hq2⟩; obtain ⟨y, rfl⟩ := Wd.next _ hq2; clear hq2) | (refine wpList_load_run 44 (.tmp 71) (.pointer (some ⟨w.heap.size, 37, none⟩)) (.agg (decA i.dec)) ?_ ?_ ?_ ?_ ?_; rfl; rfl; rfl; exact hDecision _) | (go_at_call 173; refine (rdecided_any i.dec _ (hI' _).dec ho.dec).mono ?_; rintro e w' ⟨rfl, hq2⟩; obtain ⟨y, rfl⟩ := Wd.next _ hq2; clear hq2))
  all_goals
    go_ret
    refine ⟨?_, Q.trans hq1 (Wd.q _)⟩
    have hk := HK.out
    clear hAct hClaim hBallot hDecision c0 hx hE1 hE2 hI'
    simp_all [itemRight]
set_option maxRecDepth 100000 in
set_option maxHeartbeats 4000000 in
theorem rright_no (i : ItemR) (w : World) (hI : ItemIn w i) (ho : ItemOk i) (k0 : ¬ i.kind = 0) (k1 : ¬ i.kind = 1) (k2 : ¬ i.kind = 2) (k3 : ¬ i.kind = 3) : Calls Tryz.prog 123 #[.agg (itA i)] w fun e w' => e = .returned (.bool (itemRight i)) ∧ Q w w' := by
  obtain ⟨w1, x, hx, hq1, hl, hr⟩ := boxed w 46 i.cells
  have hx : w.alloc (.cells (itA i) 46) = x.w := hx
  have hAct := item_act hl hr
  have hClaim := item_claim hl hr
  have hBallot := item_ballot hl hr
  have hDecision := item_dec hl hr
  have c0 := Wd.at0 hl hr 0 rfl
  have hI' : ∀ y : Wd w1, ItemIn y.w i := fun y => hI.q (Q.trans hq1 y.q)
  have hE1 := claimEq0
  have hE2 := ballotEq0
  clear hl hr
  have e0 : (i.kind == 0) = false := by simpa using k0
  have e1 : (i.kind == 1) = false := by simpa using k1
  have e2 : (i.kind == 2) = false := by simpa using k2
  have e3 : (i.kind == 3) = false := by simpa using k3
  have HR := Lib.hid (show itemRight i = false by unfold itemRight; rw [if_neg k0, if_neg k1, if_neg k2, if_neg k3])
  clear k0 k1 k2 k3
  go_enter Tryz.func123, Tryz.ntmps123
  go_wp2_with (first | (refine wpList_load_run 38 (.tmp 8) (.pointer (some ⟨w.heap.size, 1, none⟩)) (.agg (actA i.act)) ?_ ?_ ?_ ?_ ?_; rfl; rfl; rfl; exact hAct _) | (refine wpList_load_run 40 (.tmp 12) (.pointer (some ⟨w.heap.size, 21, none⟩)) (.agg (claimA i.claim)) ?_ ?_ ?_ ?_ ?_; rfl; rfl; rfl; exact hClaim _) | (refine wpList_load_run 42 (.tmp 16) (.pointer (some ⟨w.heap.size, 30, none⟩)) (.agg (ballotA i.ballot)) ?_ ?_ ?_ ?_ ?_; rfl; rfl; rfl; exact hBallot _) | (refine wpList_load_run 44 (.tmp 20) (.pointer (some ⟨w.heap.size, 37, none⟩)) (.agg (decA i.dec)) ?_ ?_ ?_ ?_ ?_; rfl; rfl; rfl; exact hDecision _) | (refine wpList_build_run 38 _ #[] (.agg (actA act0)) rfl ?_ ?_ (zAct _) ?_; rfl; (simp; done)) | (refine wpList_build_run 40 _ #[] (.agg (claimA claim0)) rfl ?_ ?_ (zClaim _) ?_; rfl; (simp; done)) | (refine wpList_build_run 42 _ #[] (.agg (ballotA ballot0)) rfl ?_ ?_ (zBallot _) ?_; rfl; (simp; done)) | (refine wpList_build_run 44 _ #[] (.agg (decA dec0)) rfl ?_ ?_ (zDecision _) ?_; rfl; (simp; done)) | (go_at_call 73; refine (ractSame_any i.act act0 _ (hI' _).act (act0_in _)).mono ?_; rintro e w' ⟨rfl, hq2⟩; obtain ⟨y, rfl⟩ := Wd.next _ hq2; clear hq2) | (go_at_call 74; refine (rdecSame_any i.dec dec0 _ (hI' _).dec (dec0_in _)).mono ?_; rintro e w' ⟨rfl, hq2⟩; obtain ⟨y, rfl⟩ := Wd.next _ hq2; clear hq2))
  all_goals
    go_ret
    refine ⟨?_, Q.trans hq1 (Wd.q _)⟩
    rw [HR.out]
    rfl
theorem rright_any (i : ItemR) (w : World) (hI : ItemIn w i) (ho : ItemOk i) : Calls Tryz.prog 123 #[.agg (itA i)] w fun e w' => e = .returned (.bool (itemRight i)) ∧ Q w w' := by
  by_cases k0 : i.kind = 0
  · exact rright_0 i w hI ho k0
  by_cases k1 : i.kind = 1
  · exact rright_1 i w hI ho k1
  by_cases k2 : i.kind = 2
  · exact rright_2 i w hI ho k2
  by_cases k3 : i.kind = 3
  · exact rright_3 i w hI ho k3
  exact rright_no i w hI ho k0 k1 k2 k3
set_option maxRecDepth 100000 in
set_option maxHeartbeats 4000000 in
theorem rbytes_no (i : ItemR) (w : World) (hI : ItemIn w i) (ho : ItemOk i) (h : itemRight i = false)  : Calls Tryz.prog 105 #[.agg (itA i)] w fun e w' => e = .returned (.string (itemBytes i)) ∧ Q w w' := by
  obtain ⟨w1, x, hx, hq1, hl, hr⟩ := boxed w 46 i.cells
  have hx : w.alloc (.cells (itA i) 46) = x.w := hx
  have hIt : ∀ y : Wd w1, (Instr.loadAt 46 (.pointer (some ⟨w.heap.size, 0, none⟩))).run Tryz.prog y.w = .ok (.agg (itA i)) y.w := Wd.load hl hr Tryz.underlying46 rfl (by kernel_rfl)
  have hI' : ∀ y : Wd w1, ItemIn y.w i := fun y => hI.q (Q.trans hq1 y.q)
  have HR : Hid (itemBytes i = ⟨#[]⟩) := Lib.hid (by unfold itemBytes; rw [h]; rfl)
  clear hr
  go_enter Tryz.func105, Tryz.ntmps105
  go_wp2_with (first | (refine wpList_load_run 46 (.tmp 1) (.pointer (some ⟨w.heap.size, 0, none⟩)) (.agg (itA i)) ?_ ?_ ?_ ?_ ?_; rfl; rfl; rfl; exact hIt _) | (go_at_call 123; refine (rright_any i _ (hI' _) ho).mono ?_; rintro e w' ⟨rfl, hq2⟩; obtain ⟨y, rfl⟩ := Wd.next _ hq2; clear hq2))
  go_ret
  exact ⟨by rw [HR.out]; rfl, Q.trans hq1 (Wd.q _)⟩
theorem cat_flat (n : Int) (l : List UInt8) (e s : Int) : ((numB n ++ (⟨l.toArray⟩ : ByteArray)) ++ (numB e ++ numB s)) = ⟨(numL n ++ (l ++ (numL e ++ numL s))).toArray⟩ := by
  apply ba_ext
  rw [ba_list]
  simp only [ba_append, ba_list, numL_eq, List.append_assoc]
set_option maxRecDepth 100000 in
set_option maxHeartbeats 4000000 in
theorem rbytes_act (i : ItemR) (w : World) (hI : ItemIn w i) (ho : ItemOk i) (h : itemRight i = true) (hk : i.kind = 0) : Calls Tryz.prog 105 #[.agg (itA i)] w fun e w' => e = .returned (.string (itemBytes i)) ∧ Q w w' := by
  obtain ⟨w1, x, hx, hq1, hl, hr⟩ := boxed w 46 i.cells
  have hx : w.alloc (.cells (itA i) 46) = x.w := hx
  have hIt : ∀ y : Wd w1, (Instr.loadAt 46 (.pointer (some ⟨w.heap.size, 0, none⟩))).run Tryz.prog y.w = .ok (.agg (itA i)) y.w := Wd.load hl hr Tryz.underlying46 rfl (by kernel_rfl)
  have hI' : ∀ y : Wd w1, ItemIn y.w i := fun y => hI.q (Q.trans hq1 y.q)
  have c0 := Wd.at0 hl hr 0 rfl
  rw [hk] at c0
  have hAct := item_act hl hr
  have hra := right_actB h hk
  have hab := actBytes_le hra
  have hn := numB_size 0
  have hsz : (numB 0).size + (actBytes i.act).size ≤ 9223372036854775807 := by omega
  have HR : Hid (numB 0 ++ actBytes i.act = itemBytes i) := Lib.hid (by unfold itemBytes itemBytesL; rw [h, if_pos rfl, if_pos hk, hk]; apply ba_ext; rw [ba_append, ba_list]; rfl)
  clear hr hk hra
  go_enter Tryz.func105, Tryz.ntmps105
  go_wp2_with (first | (refine wpList_load_run 46 (.tmp 1) (.pointer (some ⟨w.heap.size, 0, none⟩)) (.agg (itA i)) ?_ ?_ ?_ ?_ ?_; rfl; rfl; rfl; exact hIt _) | (go_at_call 123; refine (rright_any i _ (hI' _) ho).mono ?_; rintro e w' ⟨rfl, hq2⟩; obtain ⟨y, rfl⟩ := Wd.next _ hq2; clear hq2) | (go_at_call 106; refine (RNum_any _ _ (by omega)).mono ?_; rintro e w' ⟨rfl, hq2⟩; obtain ⟨y, rfl⟩ := Wd.next _ hq2; clear hq2) | (refine wpList_load_run 38 (.tmp 17) (.pointer (some ⟨w.heap.size, 1, none⟩)) (.agg (actA i.act)) ?_ ?_ ?_ ?_ ?_; rfl; rfl; rfl; exact hAct _) | (go_at_call 160; refine (ractBytes_any i.act _ (hI' _).act ho.act).mono ?_; rintro e w' ⟨rfl, hq2⟩; obtain ⟨y, rfl⟩ := Wd.next _ hq2; clear hq2))
  go_ret
  exact ⟨by rw [← HR.out]; rfl, Q.trans hq1 (Wd.q _)⟩
set_option maxRecDepth 100000 in
set_option maxHeartbeats 4000000 in
theorem rbytes_claim (i : ItemR) (w : World) (hI : ItemIn w i) (ho : ItemOk i) (h : itemRight i = true) (hk : i.kind = 1) : Calls Tryz.prog 105 #[.agg (itA i)] w fun e w' => e = .returned (.string (itemBytes i)) ∧ Q w w' := by
  obtain ⟨w1, x, hx, hq1, hl, hr⟩ := boxed w 46 i.cells
  have hx : w.alloc (.cells (itA i) 46) = x.w := hx
  have hIt : ∀ y : Wd w1, (Instr.loadAt 46 (.pointer (some ⟨w.heap.size, 0, none⟩))).run Tryz.prog y.w = .ok (.agg (itA i)) y.w := Wd.load hl hr Tryz.underlying46 rfl (by kernel_rfl)
  have hI' : ∀ y : Wd w1, ItemIn y.w i := fun y => hI.q (Q.trans hq1 y.q)
  have c0 := Wd.at0 hl hr 0 rfl
  rw [hk] at c0
  have ce := Wd.at0 hl hr 28 rfl
  have cs := Wd.at0 hl hr 29 rfl
  have hClaim := item_claim hl hr
  have sm := small_claim (show claimRight i.claim = true by unfold itemRight at h; simp [hk] at h; exact h.1)
  have hil := itemL_le i (small_right h (by omega))
  have hse : (sigV i).1 ≤ 9223372036854775807 ∧ (sigV i).2 ≤ 9223372036854775807 := sig_le h (by omega)
  have HR : Hid (((numB 1 ++ (⟨(claimL i.claim).toArray⟩ : ByteArray)) ++ (numB i.claim.e ++ numB i.claim.s)) = itemBytes i) := Lib.hid (by rw [cat_flat]; unfold itemBytes itemBytesL itemL sigV; simp [h, hk])
  have hil : (⟨(claimL i.claim).toArray⟩ : ByteArray).size ≤ 110000000 := by rw [ba_size]; unfold itemL at hil; simpa [hk] using hil
  have hse : i.claim.e ≤ 9223372036854775807 ∧ i.claim.s ≤ 9223372036854775807 := by unfold sigV at hse; simpa [hk] using hse
  have hCo : ∀ y : Wd w1, Calls Tryz.prog 161 #[.agg (claimA i.claim)] y.w fun e w' => e = .returned (.string (⟨(claimL i.claim).toArray⟩ : ByteArray)) ∧ Q y.w w' := fun y => rcoreClaim_any i.claim y.w sm.1 sm.2.1 ⟨sm.2.2 _ (by simp), sm.2.2 _ (by simp), sm.2.2 _ (by simp), sm.2.2 _ (by simp), sm.2.2 _ (by simp)⟩
  have hSi : ∀ y : Wd w1, Calls Tryz.prog 162 #[.agg #[.int .i64 i.claim.e, .int .i64 i.claim.s]] y.w fun e w' => e = .returned (.string (numB i.claim.e ++ numB i.claim.s)) ∧ Q y.w w' := fun y => rsigBytes_any _ _ y.w hse.1 hse.2
  have n0 := numB_size 1
  have n1 : (numB i.claim.e ++ numB i.claim.s).size ≤ 20 := by have := numB_size i.claim.e; have := numB_size i.claim.s; rw [ByteArray.size_append]; omega
  generalize (⟨(claimL i.claim).toArray⟩ : ByteArray) = X at *
  generalize numB i.claim.e ++ numB i.claim.s = Y at *
  have f1 : (numB 1).size + X.size ≤ 9223372036854775807 := by omega
  have f2 : (numB 1).size + X.size + Y.size ≤ 9223372036854775807 := by omega
  clear hr hk
  go_enter Tryz.func105, Tryz.ntmps105
  go_wp2_with (first | (refine wpList_load_run 46 (.tmp 1) (.pointer (some ⟨w.heap.size, 0, none⟩)) (.agg (itA i)) ?_ ?_ ?_ ?_ ?_; rfl; rfl; rfl; exact hIt _) | (go_at_call 123; refine (rright_any i _ (hI' _) ho).mono ?_; rintro e w' ⟨rfl, hq2⟩; obtain ⟨y, rfl⟩ := Wd.next _ hq2; clear hq2) | (go_at_call 106; refine (RNum_any _ _ (by omega)).mono ?_; rintro e w' ⟨rfl, hq2⟩; obtain ⟨y, rfl⟩ := Wd.next _ hq2; clear hq2))
  refine wp_region_wd _ (by kernel_rfl) (by kernel_rfl) ?_
  repeat (first | (refine wpQuiet_load_run 40 (.tmp 24) (.pointer (some ⟨w.heap.size, 21, none⟩)) (.agg (claimA i.claim)) ?_ ?_ ?_ ?_ ?_; rfl; rfl; rfl; exact hClaim; dsimp only [Act.put]; simp only [List.setIfInBounds_toArray, List.set_cons_succ, List.set_cons_zero]) | go_big_quiet_step (first | with_reducible exact Wd.call _ (hCo _) | with_reducible exact Wd.call _ (hSi _)))
  refine wpQuiet_nil ?_
  rintro w'' ⟨z, rfl⟩
  go_wp2
  go_ret
  exact ⟨by rw [← HR.out]; rfl, Q.trans hq1 z.q⟩
set_option maxRecDepth 100000 in
set_option maxHeartbeats 4000000 in
theorem rbytes_ballot (i : ItemR) (w : World) (hI : ItemIn w i) (ho : ItemOk i) (h : itemRight i = true) (hk : i.kind = 2) : Calls Tryz.prog 105 #[.agg (itA i)] w fun e w' => e = .returned (.string (itemBytes i)) ∧ Q w w' := by
  obtain ⟨w1, x, hx, hq1, hl, hr⟩ := boxed w 46 i.cells
  have hx : w.alloc (.cells (itA i) 46) = x.w := hx
  have hIt : ∀ y : Wd w1, (Instr.loadAt 46 (.pointer (some ⟨w.heap.size, 0, none⟩))).run Tryz.prog y.w = .ok (.agg (itA i)) y.w := Wd.load hl hr Tryz.underlying46 rfl (by kernel_rfl)
  have hI' : ∀ y : Wd w1, ItemIn y.w i := fun y => hI.q (Q.trans hq1 y.q)
  have c0 := Wd.at0 hl hr 0 rfl
  rw [hk] at c0
  have ce := Wd.at0 hl hr 35 rfl
  have cs := Wd.at0 hl hr 36 rfl
  have hBallot := item_ballot hl hr
  have sm := small_ballot (show ballotRight i.ballot = true by unfold itemRight at h; simp [hk] at h; exact h.1)
  have hil := itemL_le i (small_right h (by omega))
  have hse : (sigV i).1 ≤ 9223372036854775807 ∧ (sigV i).2 ≤ 9223372036854775807 := sig_le h (by omega)
  have HR : Hid (((numB 2 ++ (⟨(ballotL i.ballot).toArray⟩ : ByteArray)) ++ (numB i.ballot.e ++ numB i.ballot.s)) = itemBytes i) := Lib.hid (by rw [cat_flat]; unfold itemBytes itemBytesL itemL sigV; simp [h, hk])
  have hil : (⟨(ballotL i.ballot).toArray⟩ : ByteArray).size ≤ 110000000 := by rw [ba_size]; unfold itemL at hil; simpa [hk] using hil
  have hse : i.ballot.e ≤ 9223372036854775807 ∧ i.ballot.s ≤ 9223372036854775807 := by unfold sigV at hse; simpa [hk] using hse
  have hCo : ∀ y : Wd w1, Calls Tryz.prog 163 #[.agg (ballotA i.ballot)] y.w fun e w' => e = .returned (.string (⟨(ballotL i.ballot).toArray⟩ : ByteArray)) ∧ Q y.w w' := fun y => rcoreBallot_any i.ballot y.w sm.1 sm.2.1 ⟨sm.2.2 _ (by simp), sm.2.2 _ (by simp), sm.2.2 _ (by simp)⟩
  have hSi : ∀ y : Wd w1, Calls Tryz.prog 162 #[.agg #[.int .i64 i.ballot.e, .int .i64 i.ballot.s]] y.w fun e w' => e = .returned (.string (numB i.ballot.e ++ numB i.ballot.s)) ∧ Q y.w w' := fun y => rsigBytes_any _ _ y.w hse.1 hse.2
  have n0 := numB_size 2
  have n1 : (numB i.ballot.e ++ numB i.ballot.s).size ≤ 20 := by have := numB_size i.ballot.e; have := numB_size i.ballot.s; rw [ByteArray.size_append]; omega
  generalize (⟨(ballotL i.ballot).toArray⟩ : ByteArray) = X at *
  generalize numB i.ballot.e ++ numB i.ballot.s = Y at *
  have f1 : (numB 2).size + X.size ≤ 9223372036854775807 := by omega
  have f2 : (numB 2).size + X.size + Y.size ≤ 9223372036854775807 := by omega
  clear hr hk
  go_enter Tryz.func105, Tryz.ntmps105
  go_wp2_with (first | (refine wpList_load_run 46 (.tmp 1) (.pointer (some ⟨w.heap.size, 0, none⟩)) (.agg (itA i)) ?_ ?_ ?_ ?_ ?_; rfl; rfl; rfl; exact hIt _) | (go_at_call 123; refine (rright_any i _ (hI' _) ho).mono ?_; rintro e w' ⟨rfl, hq2⟩; obtain ⟨y, rfl⟩ := Wd.next _ hq2; clear hq2) | (go_at_call 106; refine (RNum_any _ _ (by omega)).mono ?_; rintro e w' ⟨rfl, hq2⟩; obtain ⟨y, rfl⟩ := Wd.next _ hq2; clear hq2))
  refine wp_region_wd _ (by kernel_rfl) (by kernel_rfl) ?_
  repeat (first | (refine wpQuiet_load_run 42 (.tmp 36) (.pointer (some ⟨w.heap.size, 30, none⟩)) (.agg (ballotA i.ballot)) ?_ ?_ ?_ ?_ ?_; rfl; rfl; rfl; exact hBallot; dsimp only [Act.put]; simp only [List.setIfInBounds_toArray, List.set_cons_succ, List.set_cons_zero]) | go_big_quiet_step (first | with_reducible exact Wd.call _ (hCo _) | with_reducible exact Wd.call _ (hSi _)))
  refine wpQuiet_nil ?_
  rintro w'' ⟨z, rfl⟩
  go_wp2
  go_ret
  exact ⟨by rw [← HR.out]; rfl, Q.trans hq1 z.q⟩
set_option maxRecDepth 100000 in
set_option maxHeartbeats 4000000 in
theorem rbytes_dec (i : ItemR) (w : World) (hI : ItemIn w i) (ho : ItemOk i) (h : itemRight i = true) (hk : i.kind = 3) : Calls Tryz.prog 105 #[.agg (itA i)] w fun e w' => e = .returned (.string (itemBytes i)) ∧ Q w w' := by
  obtain ⟨w1, x, hx, hq1, hl, hr⟩ := boxed w 46 i.cells
  have hx : w.alloc (.cells (itA i) 46) = x.w := hx
  have hIt : ∀ y : Wd w1, (Instr.loadAt 46 (.pointer (some ⟨w.heap.size, 0, none⟩))).run Tryz.prog y.w = .ok (.agg (itA i)) y.w := Wd.load hl hr Tryz.underlying46 rfl (by kernel_rfl)
  have hI' : ∀ y : Wd w1, ItemIn y.w i := fun y => hI.q (Q.trans hq1 y.q)
  have c0 := Wd.at0 hl hr 0 rfl
  rw [hk] at c0
  have ce := Wd.at0 hl hr 47 rfl
  have cs := Wd.at0 hl hr 48 rfl
  have hDecision := item_dec hl hr
  have sm := small_dec (show decRight i.dec = true by unfold itemRight at h; simp [hk] at h; exact h.1)
  have hil := itemL_le i (small_right h (by omega))
  have hse : (sigV i).1 ≤ 9223372036854775807 ∧ (sigV i).2 ≤ 9223372036854775807 := sig_le h (by omega)
  have HR : Hid (((numB 3 ++ (⟨(decL i.dec).toArray⟩ : ByteArray)) ++ (numB i.dec.e ++ numB i.dec.s)) = itemBytes i) := Lib.hid (by rw [cat_flat]; unfold itemBytes itemBytesL itemL sigV; simp [h, hk])
  have hil : (⟨(decL i.dec).toArray⟩ : ByteArray).size ≤ 110000000 := by rw [ba_size]; unfold itemL at hil; simpa [hk] using hil
  have hse : i.dec.e ≤ 9223372036854775807 ∧ i.dec.s ≤ 9223372036854775807 := by unfold sigV at hse; simpa [hk] using hse
  have hCo : ∀ y : Wd w1, Calls Tryz.prog 164 #[.agg (decA i.dec)] y.w fun e w' => e = .returned (.string (⟨(decL i.dec).toArray⟩ : ByteArray)) ∧ Q y.w w' := fun y => rcoreDec_any i.dec y.w (hI' y).dec ⟨sm.1, sm.2.1, sm.2.2.1⟩ sm.2.2.2.2.2 sm.2.2.2.2.1 ⟨sm.2.2.2.1 _ (by simp), sm.2.2.2.1 _ (by simp), sm.2.2.2.1 _ (by simp), sm.2.2.2.1 _ (by simp), sm.2.2.2.1 _ (by simp), sm.2.2.2.1 _ (by simp)⟩
  have hSi : ∀ y : Wd w1, Calls Tryz.prog 162 #[.agg #[.int .i64 i.dec.e, .int .i64 i.dec.s]] y.w fun e w' => e = .returned (.string (numB i.dec.e ++ numB i.dec.s)) ∧ Q y.w w' := fun y => rsigBytes_any _ _ y.w hse.1 hse.2
  have n0 := numB_size 3
  have n1 : (numB i.dec.e ++ numB i.dec.s).size ≤ 20 := by have := numB_size i.dec.e; have := numB_size i.dec.s; rw [ByteArray.size_append]; omega
  generalize (⟨(decL i.dec).toArray⟩ : ByteArray) = X at *
  generalize numB i.dec.e ++ numB i.dec.s = Y at *
  have f1 : (numB 3).size + X.size ≤ 9223372036854775807 := by omega
  have f2 : (numB 3).size + X.size + Y.size ≤ 9223372036854775807 := by omega
  clear hr hk
  go_enter Tryz.func105, Tryz.ntmps105
  go_wp2_with (first | (refine wpList_load_run 46 (.tmp 1) (.pointer (some ⟨w.heap.size, 0, none⟩)) (.agg (itA i)) ?_ ?_ ?_ ?_ ?_; rfl; rfl; rfl; exact hIt _) | (go_at_call 123; refine (rright_any i _ (hI' _) ho).mono ?_; rintro e w' ⟨rfl, hq2⟩; obtain ⟨y, rfl⟩ := Wd.next _ hq2; clear hq2) | (go_at_call 106; refine (RNum_any _ _ (by omega)).mono ?_; rintro e w' ⟨rfl, hq2⟩; obtain ⟨y, rfl⟩ := Wd.next _ hq2; clear hq2))
  refine wp_region_wd _ (by kernel_rfl) (by kernel_rfl) ?_
  repeat (first | (refine wpQuiet_load_run 44 (.tmp 46) (.pointer (some ⟨w.heap.size, 37, none⟩)) (.agg (decA i.dec)) ?_ ?_ ?_ ?_ ?_; rfl; rfl; rfl; exact hDecision; dsimp only [Act.put]; simp only [List.setIfInBounds_toArray, List.set_cons_succ, List.set_cons_zero]) | go_big_quiet_step (first | with_reducible exact Wd.call _ (hCo _) | with_reducible exact Wd.call _ (hSi _)))
  refine wpQuiet_nil ?_
  rintro w'' ⟨z, rfl⟩
  go_wp2
  go_ret
  exact ⟨by rw [← HR.out]; rfl, Q.trans hq1 z.q⟩
theorem rbytes_any (i : ItemR) (w : World) (hI : ItemIn w i) (ho : ItemOk i) : Calls Tryz.prog 105 #[.agg (itA i)] w fun e w' => e = .returned (.string (itemBytes i)) ∧ Q w w' := by
  cases h : itemRight i
  · exact rbytes_no i w hI ho h
  · have hk := right_kind h
    rcases (show i.kind = 0 ∨ i.kind = 1 ∨ i.kind = 2 ∨ i.kind = 3 by omega) with k | k | k | k
    · exact rbytes_act i w hI ho h k
    · exact rbytes_claim i w hI ho h k
    · exact rbytes_ballot i w hI ho h k
    · exact rbytes_dec i w hI ho h k
set_option maxHeartbeats 2000000 in
theorem rdigest_any (i : ItemR) (w : World) (hI : ItemIn w i) (ho : ItemOk i) : Calls Tryz.prog 54 #[.agg (itA i)] w fun e w' => e = .returned (.string (digOf i)) ∧ Q w w' := by
  obtain ⟨w1, x, hx, hq1, hl, hr⟩ := boxed w 46 i.cells
  have hx : w.alloc (.cells (itA i) 46) = x.w := hx
  have hIt : ∀ y : Wd w1, (Instr.loadAt 46 (.pointer (some ⟨w.heap.size, 0, none⟩))).run Tryz.prog y.w = .ok (.agg (itA i)) y.w := Wd.load hl hr Tryz.underlying46 rfl (by kernel_rfl)
  have hI' : ∀ y : Wd w1, ItemIn y.w i := fun y => hI.q (Q.trans hq1 y.q)
  have hem := itemBytes_empty i
  have hle := itemBytes_le i
  clear hr
  cases h : itemRight i
  all_goals
    rw [h] at hem
    have HR := Lib.hid (show digOf i = if itemRight i then sha (itemBytes i) else emptyT from rfl)
    rw [h] at HR
    have hem2 : ((itemBytes i).toList == []) = _ := (show ((itemBytes i).toList == []) = (itemBytes i).toList.isEmpty by cases (itemBytes i).toList <;> rfl).trans hem
    go_enter Tryz.func54, Tryz.ntmps54
    go_wp2_with (first | (refine wpList_load_run 46 (.tmp 1) (.pointer (some ⟨w.heap.size, 0, none⟩)) (.agg (itA i)) ?_ ?_ ?_ ?_ ?_; rfl; rfl; rfl; exact hIt _) | (go_at_call 105; refine (rbytes_any i _ (hI' _) ho).mono ?_; rintro e w' ⟨rfl, hq2⟩; obtain ⟨y, rfl⟩ := Wd.next _ hq2; clear hq2) | (go_at_call 83; refine (RSha_any _ _ (by omega)).mono ?_; rintro e w' ⟨rfl, hq2⟩; obtain ⟨y, rfl⟩ := Wd.next _ hq2; clear hq2))
    go_ret
    exact ⟨by rw [HR.out]; rfl, Q.trans hq1 (Wd.q _)⟩
set_option maxRecDepth 100000 in
set_option maxHeartbeats 16000000 in
theorem ritemSame_any (a b : ItemR) (w : World) (hI : ItemIn w a) (hJ : ItemIn w b) : Calls Tryz.prog 24 #[.agg (itA a), .agg (itA b)] w fun e w' => e = .returned (.bool (a.same b)) ∧ Q w w' := by
  obtain ⟨w1, x, hx, hq1, ⟨hA1, hA2⟩, hB1, hB2⟩ := boxed_two w 46 a.cells b.cells
  have hx : (w.alloc (.cells (itA a) 46)).alloc (.cells (itA b) 46) = x.w := hx
  have c0 := Wd.at0 hA1 hA2 0 rfl
  have d0 := Wd.at0 hB1 hB2 0 rfl
  have hAact := item_act hA1 hA2
  have hBact := item_act hB1 hB2
  have hAclaim := item_claim hA1 hA2
  have hBclaim := item_claim hB1 hB2
  have hAballot := item_ballot hA1 hA2
  have hBballot := item_ballot hB1 hB2
  have hAdec := item_dec hA1 hA2
  have hBdec := item_dec hB1 hB2
  have hI' : ∀ y : Wd w1, ItemIn y.w a := fun y => hI.q (Q.trans hq1 y.q)
  have hJ' : ∀ y : Wd w1, ItemIn y.w b := fun y => hJ.q (Q.trans hq1 y.q)
  have hc := claimEq
  have hd := ballotEq
  clear hA1 hA2 hB1 hB2
  rcases ways5 (a.act.same b.act) (a.kind == b.kind) (a.claim.same b.claim) (a.ballot.same b.ballot) (a.dec.same b.dec) with g1 | ⟨g1, g2⟩ | ⟨g1, g2, g3⟩ | ⟨g1, g2, g3, g4⟩ | ⟨g1, g2, g3, g4, g5⟩ | ⟨g1, g2, g3, g4, g5⟩
  all_goals
    have HR := Lib.hid (show a.same b = conj [(a.kind == b.kind), a.act.same b.act, a.claim.same b.claim, a.ballot.same b.ballot, a.dec.same b.dec] by rw [beq_int]; rfl)
    simp [conj, *] at HR
    go_enter Tryz.func24, Tryz.ntmps24
    go_wp2_with (first | (refine wpList_load_run 38 (.tmp 6) (.pointer (some ⟨w.heap.size, 1, none⟩)) (.agg (actA a.act)) ?_ ?_ ?_ ?_ ?_; rfl; rfl; rfl; exact hAact _) | (refine wpList_load_run 38 (.tmp 8) (.pointer (some ⟨w.heap.size + 1, 1, none⟩)) (.agg (actA b.act)) ?_ ?_ ?_ ?_ ?_; rfl; rfl; rfl; exact hBact _) | (refine wpList_load_run 40 (.tmp 20) (.pointer (some ⟨w.heap.size, 21, none⟩)) (.agg (claimA a.claim)) ?_ ?_ ?_ ?_ ?_; rfl; rfl; rfl; exact hAclaim _) | (refine wpList_load_run 40 (.tmp 22) (.pointer (some ⟨w.heap.size + 1, 21, none⟩)) (.agg (claimA b.claim)) ?_ ?_ ?_ ?_ ?_; rfl; rfl; rfl; exact hBclaim _) | (refine wpList_load_run 42 (.tmp 27) (.pointer (some ⟨w.heap.size, 30, none⟩)) (.agg (ballotA a.ballot)) ?_ ?_ ?_ ?_ ?_; rfl; rfl; rfl; exact hAballot _) | (refine wpList_load_run 42 (.tmp 29) (.pointer (some ⟨w.heap.size + 1, 30, none⟩)) (.agg (ballotA b.ballot)) ?_ ?_ ?_ ?_ ?_; rfl; rfl; rfl; exact hBballot _) | (refine wpList_load_run 44 (.tmp 34) (.pointer (some ⟨w.heap.size, 37, none⟩)) (.agg (decA a.dec)) ?_ ?_ ?_ ?_ ?_; rfl; rfl; rfl; exact hAdec _) | (refine wpList_load_run 44 (.tmp 36) (.pointer (some ⟨w.heap.size + 1, 37, none⟩)) (.agg (decA b.dec)) ?_ ?_ ?_ ?_ ?_; rfl; rfl; rfl; exact hBdec _) | (go_at_call 73; refine (ractSame_any a.act b.act _ (hI' _).act (hJ' _).act).mono ?_; rintro e w' ⟨rfl, hq2⟩; obtain ⟨y, rfl⟩ := Wd.next _ hq2; clear hq2) | (go_at_call 74; refine (rdecSame_any a.dec b.dec _ (hI' _).dec (hJ' _).dec).mono ?_; rintro e w' ⟨rfl, hq2⟩; obtain ⟨y, rfl⟩ := Wd.next _ hq2; clear hq2))
    go_ret
    exact ⟨by rw [HR.out]; rfl, Q.trans hq1 (Wd.q _)⟩
end Go.Proofs.YtomkeaeegdjhnaaGreatDoor.Item

namespace Go.Proofs.YtomkeaeegdjhnaaGreatDoor.Known
open Go.RowKit Grp Mem _root_.Go.Proofs.YtomkeaeegdjhnaaGreatDoor.Code Sha Sign _root_.Go.Proofs.YtomkeaeegdjhnaaGreatDoor.Item

theorem ofNat_inj {n m : Nat} (hn : n < 256) (hm : m < 256) (h : UInt8.ofNat n = UInt8.ofNat m) : n = m := by
  have := congrArg UInt8.toNat h
  simp at this
  omega
theorem vint_prefix : ∀ (f n m : Nat) (X Y : List UInt8), n < 128 ^ (f + 1) → m < 128 ^ (f + 1) → vint f n ++ X = vint f m ++ Y → n = m ∧ X = Y
  | 0, n, m, X, Y, hn, hm, h => by
    rw [vint, vint] at h
    simp only [List.singleton_append, List.cons.injEq] at h
    exact ⟨ofNat_inj (by omega) (by omega) h.1, h.2⟩
  | f + 1, n, m, X, Y, hn, hm, h => by
    have e : (128 : Nat) ^ (f + 1 + 1) = 128 ^ (f + 1) * 128 := Nat.pow_succ ..
    rw [vint, vint] at h
    by_cases h1 : n < 128
    · rw [if_pos h1] at h
      by_cases h2 : m < 128
      · rw [if_pos h2] at h
        simp only [List.singleton_append, List.cons.injEq] at h
        exact ⟨ofNat_inj (by omega) (by omega) h.1, h.2⟩
      · rw [if_neg h2] at h
        simp only [List.singleton_append, List.cons_append, List.cons.injEq] at h
        have := ofNat_inj (by omega) (by omega) h.1
        omega
    · rw [if_neg h1] at h
      by_cases h2 : m < 128
      · rw [if_pos h2] at h
        simp only [List.singleton_append, List.cons_append, List.cons.injEq] at h
        have := ofNat_inj (by omega) (by omega) h.1
        omega
      · rw [if_neg h2] at h
        simp only [List.cons_append, List.cons.injEq] at h
        have h3 := ofNat_inj (by omega) (by omega) h.1
        have h4 := vint_prefix f (n / 128) (m / 128) X Y (by omega) (by omega) h.2
        exact ⟨by omega, h4.2⟩
theorem varint_prefix {n m : Nat} {X Y : List UInt8} (hn : n < 9223372036854775808) (hm : m < 9223372036854775808) (h : varint n ++ X = varint m ++ Y) : n = m ∧ X = Y := by
  have e : (9223372036854775808 : Nat) < 128 ^ (9 + 1) := by decide
  exact vint_prefix 9 n m X Y (by omega) (by omega) h
theorem text_prefix {a b : ByteArray} {X Y : List UInt8} (ha : a.size < 9223372036854775808) (hb : b.size < 9223372036854775808) (h : textL a ++ X = textL b ++ Y) : a = b ∧ X = Y := by
  unfold textL at h
  rw [List.append_assoc, List.append_assoc] at h
  obtain ⟨h1, h2⟩ := varint_prefix ha hb h
  have h3 := List.append_inj h2 (by rw [ba_length, ba_length, h1])
  exact ⟨ba_ext h3.1, h3.2⟩
theorem flat_prefix {α : Type} (f : α → List UInt8) (G : α → Prop) (hf : ∀ a b X Y, G a → G b → f a ++ X = f b ++ Y → a = b ∧ X = Y) : ∀ (l m : List α) (X Y : List UInt8), l.length = m.length → (∀ a ∈ l, G a) → (∀ a ∈ m, G a) → l.flatMap f ++ X = m.flatMap f ++ Y → l = m ∧ X = Y
  | [], [], X, Y, _, _, _, h => ⟨rfl, by simpa using h⟩
  | [], b :: m, X, Y, hl, _, _, _ => by simp at hl
  | a :: l, [], X, Y, hl, _, _, _ => by simp at hl
  | a :: l, b :: m, X, Y, hl, hG, hM, h => by
    rw [List.flatMap_cons, List.flatMap_cons, List.append_assoc, List.append_assoc] at h
    obtain ⟨h1, h2⟩ := hf a b _ _ (hG a (by simp)) (hM b (by simp)) h
    obtain ⟨h3, h4⟩ := flat_prefix f G hf l m X Y (by simpa using hl) (fun x hx => hG x (by simp [hx])) (fun x hx => hM x (by simp [hx])) h2
    exact ⟨by rw [h1, h3], h4⟩
theorem intL_prefix (a b : Int) (X Y : List UInt8) (ha : publicB a = true) (hb : publicB b = true) (h : intL a ++ X = intL b ++ Y) : a = b ∧ X = Y := by
  simp only [publicB, withinB, Bool.and_eq_true, decide_eq_true_eq] at ha hb
  unfold intL numL numB zigN at h
  rw [if_neg (by omega), if_neg (by omega), if_neg (by omega), if_neg (by omega), if_neg (by omega), if_neg (by omega), ba_list, ba_list] at h
  obtain ⟨h1, h2⟩ := varint_prefix (by omega) (by omega) h
  exact ⟨by omega, h2⟩
theorem nums_prefix {l m : List Int} {X Y : List UInt8} (hl : l.length ≤ 20) (hm : m.length ≤ 20) (pl : publicsB l = true) (pm : publicsB m = true) (h : numsL l ++ X = numsL m ++ Y) : l = m ∧ X = Y := by
  unfold numsL numL numB at h
  rw [if_neg (by omega), if_neg (by omega), ba_list, ba_list, List.append_assoc, List.append_assoc] at h
  obtain ⟨h1, h2⟩ := varint_prefix (by omega) (by omega) h
  unfold publicsB at pl pm
  rw [List.all_eq_true] at pl pm
  exact flat_prefix intL (fun n => publicB n = true) intL_prefix l m X Y (by omega) pl pm h2
theorem list_inj {l m : List ByteArray} (hl : l.length < 9223372036854775808) (hm : m.length < 9223372036854775808) (sl : ∀ s ∈ l, s.size < 9223372036854775808) (sm : ∀ s ∈ m, s.size < 9223372036854775808) (h : listL l = listL m) : l = m := by
  unfold listL at h
  obtain ⟨h1, h2⟩ := varint_prefix hl hm h
  exact (flat_prefix textL (fun s => s.size < 9223372036854775808) (fun a b X Y ha hb h => text_prefix ha hb h) l m [] [] h1 sl sm (by simpa using h2)).1
theorem digs_size (l : List ItemR) : ∀ s ∈ digs l, s.size < 9223372036854775808 := by
  intro s hs
  obtain ⟨x, -, rfl⟩ := List.mem_map.1 hs
  unfold digOf
  split
  · rw [sha_size]; omega
  · decide
/-- The text of a right known set determines the digests of its items. -/
theorem set_digs {sv sv2 : List Int} {l m : List ItemR} (hr : rightK sv l = true) (hr2 : rightK sv2 m = true) (hl : l.length < 1000) (hm : m.length < 1000) (h : setL sv l = setL sv2 m) : digs l = digs m := by
  unfold rightK at hr hr2
  simp only [Bool.and_eq_true, decide_eq_true_eq] at hr hr2
  unfold setL at h
  have h1 := (nums_prefix hr.1 hr2.1 hr.2.1 hr2.2.1 h).2
  exact list_inj (by simp [digs]; omega) (by simp [digs]; omega) (digs_size l) (digs_size m) h1
/-- The text that is digested. -/
def setB (sv : List Int) (l : List ItemR) : ByteArray := ⟨(setL sv l).toArray⟩
theorem setB_digs {sv sv2 : List Int} {l m : List ItemR} (hr : rightK sv l = true) (hr2 : rightK sv2 m = true) (hl : l.length < 1000) (hm : m.length < 1000) (h : setB sv l = setB sv2 m) : digs l = digs m := by
  refine set_digs hr hr2 hl hm ?_
  have := congrArg (fun b : ByteArray => b.data.toList) h
  simpa [setB] using this
theorem right_each {sv : List Int} {l : List ItemR} (hr : rightK sv l = true) (x : ItemR) (hx : x ∈ l) : itemRight x = true := by
  unfold rightK at hr
  simp only [Bool.and_eq_true, List.all_eq_true] at hr
  have := hr.2.2.1 x hx
  unfold signedB at this
  rw [Bool.and_eq_true] at this
  exact this.1
theorem shas_eq {sv sv2 : List Int} {l m : List ItemR} (hr : rightK sv l = true) (hr2 : rightK sv2 m = true) (hd : digs l = digs m) (j : Nat) (h : j < l.length) (h2 : j < m.length) : sha (itemBytes l[j]) = sha (itemBytes m[j]) := by
  have h3 : (digs l)[j]'(by simpa [digs] using h) = (digs m)[j]'(by simpa [digs] using h2) := by simp only [hd]
  simp only [digs, List.getElem_map] at h3
  unfold digOf at h3
  rwa [if_pos (right_each hr _ (List.getElem_mem h)), if_pos (right_each hr2 _ (List.getElem_mem h2))] at h3
theorem digs_length_eq {l m : List ItemR} (hd : digs l = digs m) : l.length = m.length := by
  have := congrArg List.length hd
  simpa [digs] using this
end Go.Proofs.YtomkeaeegdjhnaaGreatDoor.Known

namespace Go.Proofs.YtomkeaeegdjhnaaGreatDoor.Known
open Go.RowKit Go.ChangeShapes Go.WideShapes Go.Deep Grp Mem _root_.Go.Proofs.YtomkeaeegdjhnaaGreatDoor.Code Sha Sign _root_.Go.Proofs.YtomkeaeegdjhnaaGreatDoor.Item

structure KOk (k : KR) : Prop where
  items : ∀ x ∈ k.l, ItemOk x
  ints : ∀ n ∈ k.sv, I64 n
theorem k_known : Tryz.prog.cellsOf 25 = 2 := by kernel_rfl
section
variable {H : Type} {enc : TypeId × Value → H} {W : World} {base : Nat} {spare : Nat → Bool} {held : Bool}
set_option maxHeartbeats 1000000 in
theorem o_known : Opens enc Tryz.prog W base spare held 25 KR.cells (fun k => KIn W k ∧ KOk k) := fun fuel cs x h => by
  obtain ⟨xs, n, -, -, hcl, hxl, hf⟩ := DataW.trod_struct Tryz.underlying25 h
  rw [k_known] at hcl
  have hxl : xs.length = 2 := hxl
  obtain ⟨s0, e0, g0⟩ := field_opens (off := 0) (show DataW.trod enc Tryz.prog W base spare held n 22 ((cs.drop 0).take (Tryz.prog.cellsOf 22)) = xs[0]? from hf 0 _ rfl) (by omega) k_ints o_ints
  obtain ⟨s1, e1, g1⟩ := field_opens (off := 1) (show DataW.trod enc Tryz.prog W base spare held n 23 ((cs.drop 1).take (Tryz.prog.cellsOf 23)) = xs[1]? from hf 1 _ rfl) (by omega) k_items o_items
  have t2 : cs.drop 2 = [] := List.drop_eq_nil_of_le (by omega)
  have t1 := drop_step e1
  simp only [Nat.reduceAdd] at t1
  rw [t2] at t1
  have t0 := drop_step e0
  simp only [Nat.reduceAdd] at t0
  rw [t1] at t0
  rw [List.drop_zero] at t0
  refine ⟨⟨s0.l, s0.A, s0.c, s1.l, s1.A, s1.c⟩, by rw [t0]; rfl, ?_⟩
  exact ⟨⟨ints_of g0.rows, ⟨g1.rows, fun x hx => (g1.all x hx).1⟩, ⟨g0.le, g0.cap⟩, ⟨g1.le, g1.cap⟩⟩, fun x hx => (g1.all x hx).2, g0.all⟩
set_option maxRecDepth 100000 in
theorem open_kn {r : Reach} {b0 : Nat} {v : Value} {d : DataW H} {p : List MemPlace} (hval : Value.okWide Tryz.prog W r b0 25 v) (h : DataW.Trod enc Tryz.prog W base spare held 25 v d p) : ∃ k : KR, v = .agg (knA k) ∧ KIn W k ∧ KOk k := by
  simp only [Value.okWide, Tryz.underlying25] at hval
  obtain ⟨cs, rfl, -⟩ := hval
  obtain ⟨fuel, hf⟩ := h
  obtain ⟨k, hk, g1, g2⟩ := o_known fuel _ _ hf
  have hk : cs.toList = k.cells := hk
  exact ⟨k, by rw [knA, ← hk], g1, g2⟩
end
end Go.Proofs.YtomkeaeegdjhnaaGreatDoor.Known

namespace Go.Proofs.YtomkeaeegdjhnaaGreatDoor.Known
open Go.RowKit Grp Mem _root_.Go.Proofs.YtomkeaeegdjhnaaGreatDoor.Code Sha Sign _root_.Go.Proofs.YtomkeaeegdjhnaaGreatDoor.Item

set_option maxRecDepth 100000 in
set_option maxHeartbeats 4000000 in
theorem rtext_any (k : KR) (w : World) (hK : KIn w k) (hO : KOk k) (hn : k.l.length ≤ 100000) (hsn : k.sv.length ≤ 1000000) : Calls Tryz.prog 12 #[.agg (knA k)] w fun e w' => e = .returned (.string (setB k.sv k.l)) ∧ Q w w' := by
  obtain ⟨w1, x, hx, hq1, hbk⟩ := boxedB w 25 k.cells
  have hx : w.alloc (.cells (knA k) 25) = x.w := hx
  have cS : ∀ y : Wd w1, y.w.cell? ⟨w.heap.size, 0, none⟩ = some (.slice k.sA k.sv.length k.sC) := fun y => (y.blk hbk).cell 0
  have cI : ∀ y : Wd w1, y.w.cell? ⟨w.heap.size, 1, none⟩ = some (.slice k.iA k.l.length k.iC) := fun y => (y.blk hbk).cell 1
  have hKy : ∀ y : Wd w1, KIn y.w k := fun y => hK.q (Q.trans hq1 y.q)
  have HQ := Lib.hid hq1
  obtain ⟨i0, hi, hz0, hz1, hz2⟩ := info_parts str_info
  clear hbk hq1
  go_enter Tryz.func12, Tryz.ntmps12
  go_wp2_with fail
  go_loopw [3, 4] (fun a i wr => ∃ (j c : Nat) (A : Option Addr) (z : Wd w1), a = .slice A j c ∧ i = .int .i64 j ∧ wr = z.w ∧ j ≤ k.l.length ∧ j ≤ c ∧ c ≤ maxLen ∧ Owns z.w w1.heap.size 9 1 (.slice A j c) j ((digs (k.l.take j)).flatMap strC)) (fun _ i _ => k.l.length - (intOf i).toNat)
  case atStart => exact ⟨0, 0, none, x, rfl, rfl, rfl, Nat.zero_le _, Nat.zero_le _, Nat.zero_le _, Owns.nil_ _ _ _ _⟩
  case round =>
    obtain ⟨j, c, A, z, rfl, rfl, rfl, hj, hjc, hcm, hown⟩ := hrel
    by_cases hlt : j < k.l.length
    · obtain ⟨b, o, eA, hb, hld⟩ := (hKy z).items.load j hlt
      have hio := fun y : Wd z.w => ((hKy z).items.each _ (List.getElem_mem hlt)).q y.q
      have hko := hO.items _ (List.getElem_mem hlt)
      rw [eA] at cI
      have hzs := z.q.size
      have HDS := Lib.hid (digs_snoc k.l j hlt)
      have hlt' : (j : Int) < (k.l.length : Int) := by omega
      generalize k.l[j] = it at *
      have hdg2 : ∀ y : Wd z.w, Calls Tryz.prog 54 #[.agg (itA it)] y.w fun e w' => e = .returned (.string (digOf it)) ∧ Q y.w w' := fun y => rdigest_any it y.w (hio y) hko
      have hownW : ∀ y : Wd z.w, Owns y.w w1.heap.size 9 1 (.slice A j c) j ((digs (k.l.take j)).flatMap strC) := fun y => hown.q y.q
      have HQ3 := Lib.hid z.q
      have hcI : ∀ y : Wd z.w, y.w.cell? ⟨w.heap.size, 1, none⟩ = some (.slice (some ⟨b, o, none⟩) k.l.length k.iC) := fun y => cI ⟨y.w, Q.trans z.q y.q⟩
      obtain ⟨v, hv⟩ := Wd.first z.w
      rw [hv]
      clear hv hio hown cI cS hKy
      generalize digOf it = d2 at *
      go_upto_region 5 with (fail)
      refine wp_region_lit ?_
      go_wp2_with (first | (refine wpList_index_rows 23 46 (.tmp 14) (.tmp 15) b o k.l.length k.iC j 49 rfl rfl rfl rfl Tryz.underlying23 (by kernel_rfl) Tryz.sizeOf46 hlt ?_) | (refine wpList_load_run 46 (.tmp 16) (.pointer (some ⟨b, o + j * 49, none⟩)) (.agg (itA it)) ?_ ?_ ?_ ?_ ?_; rfl; rfl; rfl; exact hld ⟨_, Wd.q _⟩) | (go_at_call 54; refine (hdg2 _).mono ?_; rintro e w' ⟨rfl, hq2⟩; obtain ⟨y, rfl⟩ := Wd.next _ hq2; clear hq2) | (at_builtin; refine wpList_append_rows str_len str_one rfl (.tmp 12) (.tmp 19) 31 9 i0 _ 16 rfl Tryz.underlying31 hi hz0 hz1 hz2 rfl (by decide) (by decide) w1.heap.size (.slice A j c) j (digs (k.l.take j)) rfl ((hownW y).alloc (.cells #[.string d2] 9)) (some ⟨y.w.heap.size, 0, none⟩) 1 1 [d2] rfl (RowsAt.one y.w 9 d2 _ rfl) rfl (by omega) (by have := y.q.size; simp; omega) ?_))
      intro A' c' w5 hc5 hm5 hown5 hg5
      have hq5 : Q w1 w5 := q_grown (Q.trans (Q.trans HQ3.out y.q) (q_new _ _ _)) (Nat.le_refl _) ((hownW y).alloc _) hg5
      obtain ⟨y5, rfl⟩ : ∃ y5 : Wd w1, w5 = y5.w := ⟨⟨w5, hq5⟩, rfl⟩
      have e5 : List.flatMap strC (digs (List.take j k.l)) ++ strC d2 = (digs (k.l.take (j + 1))).flatMap strC := by
        rw [HDS.out, List.flatMap_append, List.flatMap_cons, List.flatMap_nil, List.append_nil]
      rw [e5] at hown5
      clear e5 hownW hg5 hq5 hdg2 hld
      go_wp2_with fail
      exact ⟨⟨j + 1, c', A', y5, rfl, by go_num, rfl, by omega, hc5, hm5, hown5⟩, by simp only [intOf]; omega⟩
    · have hjn : j = k.l.length := by omega
      rw [hjn, List.take_length] at hown
      have hdl := digs_len k.l
      rw [← hdl] at hown
      have hSt := strs_of (Owns.rows str_len hown rfl)
      have hStz : ∀ y : Wd z.w, Strs y.w A (digs k.l) := fun y => hSt.q y.q
      have cSz : ∀ y : Wd z.w, y.w.cell? ⟨w.heap.size, 0, none⟩ = some (.slice k.sA k.sv.length k.sC) := fun y => cS ⟨y.w, Q.trans z.q y.q⟩
      have cIz : ∀ y : Wd z.w, y.w.cell? ⟨w.heap.size, 1, none⟩ = some (.slice k.iA k.l.length k.iC) := fun y => cI ⟨y.w, Q.trans z.q y.q⟩
      have hSv : ∀ y : Wd z.w, Ints y.w k.sA k.sv := fun y => (hKy ⟨y.w, Q.trans z.q y.q⟩).sv
      have hll := listL_le (digs k.l) 32 (fun s hs => by obtain ⟨x, _, rfl⟩ := List.mem_map.1 hs; exact dig_le x)
      have hll2 : (listL (digs k.l)).length ≤ 10 + 100000 * 42 := by
        have := Nat.mul_le_mul_right 42 (show (digs k.l).length ≤ 100000 by omega)
        omega
      have hnb : (numsB k.sv).size ≤ 10 + 10000000 := by
        unfold numsB
        rw [ba_size, ← numsL_upto]
        have := uptoN_bd k.sv k.sv.length (Nat.le_refl _)
        omega
      have hlB : (listB (digs k.l)).size ≤ 10 + 100000 * 42 := by rw [listB_size]; exact hll2
      have hsum : (numsB k.sv).size + (listB (digs k.l)).size ≤ 9223372036854775807 := by omega
      have HS := Lib.hid (show numsB k.sv ++ listB (digs k.l) = setB k.sv k.l by
        unfold setB setL numsB listB
        apply ba_ext
        rw [ba_append, ba_list, ba_list, ba_list])
      have hdn : (digs k.l).length ≤ 140737488355327 := by omega
      have hlm : (listL (digs k.l)).length ≤ 140737488355327 := by omega
      have hList : ∀ y : Wd z.w, Calls Tryz.prog 56 #[.slice A k.l.length c] y.w fun e w' => e = .returned (.string (listB (digs k.l))) ∧ Q y.w w' := fun y => by
        have := RList_any A c (digs k.l) y.w (hStz y) hlm hdn
        rwa [hdl] at this
      have hNums : ∀ y : Wd z.w, Calls Tryz.prog 55 #[.slice k.sA k.sv.length k.sC] y.w fun e w' => e = .returned (.string (numsB k.sv)) ∧ Q y.w w' := fun y => RNums_any _ _ _ _ (hSv y) hsn
      generalize listB (digs k.l) = LB at *
      generalize numsB k.sv = NB at *
      obtain ⟨z0, hz0'⟩ := Wd.first z.w
      rw [hz0']
      clear hown hSt hz0' hll cS cI hlt hll2 hlm hdn hStz hSv hdl
      subst hjn
      go_wp2_with (first | (go_at_call 55; refine (hNums _).mono ?_; rintro e w' ⟨rfl, hq2⟩; obtain ⟨y, rfl⟩ := Wd.next _ hq2; clear hq2) | (go_at_call 56; refine (hList _).mono ?_; rintro e w' ⟨rfl, hq2⟩; obtain ⟨y, rfl⟩ := Wd.next _ hq2; clear hq2))
      go_ret
      exact ⟨by rw [← HS.out]; rfl, Q.trans (Q.trans HQ.out z.q) (Wd.q _)⟩
end Go.Proofs.YtomkeaeegdjhnaaGreatDoor.Known

namespace Go.Proofs.YtomkeaeegdjhnaaGreatDoor.Known
open Go.RowKit Grp Mem _root_.Go.Proofs.YtomkeaeegdjhnaaGreatDoor.Code Sha Sign _root_.Go.Proofs.YtomkeaeegdjhnaaGreatDoor.Item

theorem wpQuiet_skip {P : Program} {C : World → Prop} {ops : Array Oper} {rest : List Oper} {o : Oper} {a : Act} {K : Act → Prop} (hw : Region.wanted o (yielded ops a.tmps) = false) (h : wpQuiet P ops C K rest (a.put o.dst undef)) : wpQuiet P ops C K (o :: rest) a := by
  unfold wpQuiet
  rw [if_neg (by rw [hw]; exact Bool.false_ne_true)]
  exact h
theorem wpQuiet_one_move {P : Program} {C : World → Prop} {ops : Array Oper} {rest : List Oper} {o : Oper} {a : Act} {K : Act → Prop} (x : Operand) (v : Value) (ho : o.op = .move x) (hw : Region.wanted o (yielded ops a.tmps) = true) (hx : a.eval x = v) (h : wpQuiet P ops C K rest (a.put o.dst v)) : wpQuiet P ops C K (o :: rest) a := by
  unfold wpQuiet
  rw [if_pos hw]
  refine ⟨v, ?_, h⟩
  intro w _
  unfold Oper.quietAt execOp
  simp only [ho, hx, Sem.run_bind, Result.andThen_ok, Sem.run_pure, Oper.quietUpon]
  exact ⟨trivial, trivial⟩
def lightB (x : ItemR) : Bool := decide (x.act.to.length ≤ 100) && (decide (x.act.wraps.length ≤ 100) && (decide (x.dec.to.length ≤ 100) && (decide (x.act.text.size ≤ 10000) && decide (x.dec.text.size ≤ 10000))))
def fewB (k : KR) : Bool := decide (k.l.length ≤ 20) && (decide (k.sv.length ≤ 30) && k.l.all lightB)
theorem few_facts {k : KR} (h : fewB k = true) : k.l.length ≤ 20 ∧ k.sv.length ≤ 30 := by
  unfold fewB at h
  simp only [Bool.and_eq_true, decide_eq_true_eq] at h
  exact ⟨h.1, h.2.1⟩
set_option maxRecDepth 100000 in
set_option maxHeartbeats 4000000 in
theorem light_any (x : ItemR) (w : World) : Calls Tryz.prog 50 #[.agg (itA x)] w fun e w' => e = .returned (.bool (lightB x)) ∧ Q w w' := by
  obtain ⟨w1, y, hx, hq1, hl, hr⟩ := boxed w 46 x.cells
  have hx : w.alloc (.cells (itA x) 46) = y.w := hx
  have c10 := Wd.at0 hl hr 10 rfl
  have c11 := Wd.at0 hl hr 11 rfl
  have c16 := Wd.at0 hl hr 16 rfl
  have c42 := Wd.at0 hl hr 42 rfl
  have c43 := Wd.at0 hl hr 43 rfl
  clear hl hr
  go_enter Tryz.func50, Tryz.ntmps50
  go_wp2
  all_goals
    go_ret
    refine ⟨?_, Q.trans hq1 y.q⟩
    clear c10 c11 c16 c42 c43 hx
    refine congrArg (fun b => Ending.returned (.bool b)) ?_
    unfold lightB
    rw [Bool.eq_iff_iff]
    simp
    omega
set_option maxRecDepth 100000 in
set_option maxHeartbeats 4000000 in
theorem few_any (k : KR) (w : World) (hK : KIn w k) : Calls Tryz.prog 9 #[.agg (knA k)] w fun e w' => e = .returned (.bool (fewB k)) ∧ Q w w' := by
  obtain ⟨w1, x, hx, hq1, hbk⟩ := boxedB w 25 k.cells
  have hx : w.alloc (.cells (knA k) 25) = x.w := hx
  have cS : ∀ y : Wd w1, y.w.cell? ⟨w.heap.size, 0, none⟩ = some (.slice k.sA k.sv.length k.sC) := fun y => (y.blk hbk).cell 0
  have cI : ∀ y : Wd w1, y.w.cell? ⟨w.heap.size, 1, none⟩ = some (.slice k.iA k.l.length k.iC) := fun y => (y.blk hbk).cell 1
  have hKy : ∀ y : Wd w1, KIn y.w k := fun y => hK.q (Q.trans hq1 y.q)
  have hlb : k.l.length ≤ 9223372036854775807 := by have h8 := hK.lC.1; have h9 := hK.lC.2; simp only [maxLen] at h9; omega
  have hsb : k.sv.length ≤ 9223372036854775807 := by have h8 := hK.svC.1; have h9 := hK.svC.2; simp only [maxLen] at h9; omega
  have HQ := Lib.hid hq1
  clear hbk hq1
  by_cases h1 : 20 < k.l.length
  · have HR := Lib.hid (show fewB k = false by unfold fewB; rw [decide_eq_false (by omega)]; rfl)
    go_enter Tryz.func9, Tryz.ntmps9
    go_wp2_with fail
    go_ret
    exact ⟨by rw [HR.out]; rfl, Q.trans HQ.out x.q⟩
  by_cases h2 : 30 < k.sv.length
  · have HR := Lib.hid (show fewB k = false by unfold fewB; rw [decide_eq_false (show ¬ k.sv.length ≤ 30 by omega)]; simp)
    go_enter Tryz.func9, Tryz.ntmps9
    go_wp2_with fail
    go_ret
    exact ⟨by rw [HR.out]; rfl, Q.trans HQ.out x.q⟩
  have HFE := Lib.hid (show fewB k = k.l.all lightB by unfold fewB; rw [decide_eq_true (show k.l.length ≤ 20 by omega), decide_eq_true (show k.sv.length ≤ 30 by omega)]; rfl)
  go_enter Tryz.func9, Tryz.ntmps9
  go_wp2_with fail
  go_loopw [3] (fun i wr => ∃ (j : Nat) (z : Wd w1), i = .int .i64 j ∧ wr = z.w ∧ j ≤ k.l.length ∧ Hid ((k.l.take j).all lightB = true)) (fun i _ => k.l.length - (intOf i).toNat)
  case atStart => exact ⟨0, x, rfl, rfl, Nat.zero_le _, Lib.hid rfl⟩
  case round =>
    obtain ⟨j, z, rfl, rfl, hj, hall⟩ := hrel
    by_cases hlt : j < k.l.length
    · obtain ⟨b, o, eA, hb, hld⟩ := (hKy z).items.load j hlt
      have hst := all_take_snoc k.l lightB j hlt
      rw [hall.out, Bool.true_and] at hst
      have HNO := Lib.hid (all_not k.l lightB j hlt)
      have HST := Lib.hid hst
      have hlt' : (j : Int) < (k.l.length : Int) := by omega
      have hcI : ∀ y : Wd z.w, y.w.cell? ⟨w.heap.size, 1, none⟩ = some (.slice (some ⟨b, o, none⟩) k.l.length k.iC) := fun y => eA ▸ cI ⟨y.w, Q.trans z.q y.q⟩
      have HQ3 := Lib.hid z.q
      clear hst hall eA
      generalize k.l[j] = it at *
      have hlg := fun y : Wd z.w => light_any it y.w
      obtain ⟨v, hv⟩ := Wd.first z.w
      rw [hv]
      clear hv cI cS hKy
      cases hL : lightB it
      all_goals
        rw [hL] at hlg
        go_upto_region 6 with (fail)
        refine wp_region_lit ?_
        go_wp2_with (first | (refine wpList_index_rows 23 46 (.tmp 22) (.tmp 23) b o k.l.length k.iC j 49 rfl rfl rfl rfl Tryz.underlying23 (by kernel_rfl) Tryz.sizeOf46 hlt ?_) | (refine wpList_load_run 46 (.tmp 24) (.pointer (some ⟨b, o + j * 49, none⟩)) (.agg (itA it)) ?_ ?_ ?_ ?_ ?_; rfl; rfl; rfl; exact hld _) | (go_at_call 50; refine (hlg _).mono ?_; rintro e w' ⟨rfl, hq2⟩; obtain ⟨y, rfl⟩ := Wd.next _ hq2; clear hq2))
      · go_ret
        exact ⟨by rw [HFE.out, HNO.out hL]; rfl, Q.trans HQ.out (Q.trans HQ3.out y.q)⟩
      · exact ⟨⟨j + 1, ⟨y.w, Q.trans HQ3.out y.q⟩, by go_num, rfl, by omega, Lib.hid (by rw [HST.out]; exact hL)⟩, by simp only [intOf]; omega⟩
    · have hjn : j = k.l.length := by omega
      have hall' := hall.out
      rw [hjn, List.take_length] at hall'
      have HR := Lib.hid hall'
      clear hjn hall'
      go_wp2_with fail
      go_ret
      exact ⟨by rw [HFE.out, HR.out]; rfl, Q.trans HQ.out z.q⟩

theorem setB_size (k : KR) (hn : k.l.length ≤ 100000) (hsn : k.sv.length ≤ 1000000) : (setB k.sv k.l).size ≤ 140737488355327 := by
  have hll := listL_le (digs k.l) 32 (fun s hs => by obtain ⟨x, _, rfl⟩ := List.mem_map.1 hs; exact dig_le x)
  have hdl := digs_len k.l
  have hll2 : (listL (digs k.l)).length ≤ 10 + 100000 * 42 := by
    have := Nat.mul_le_mul_right 42 (show (digs k.l).length ≤ 100000 by omega)
    omega
  have hnb := uptoN_bd k.sv k.sv.length (Nat.le_refl _)
  rw [numsL_upto] at hnb
  unfold setB setL
  rw [ba_size, List.length_append]
  omega

set_option maxRecDepth 100000 in
set_option maxHeartbeats 16000000 in
theorem equal_walk (a b : KR) (w : World) (hT : Tab w) (hA : KIn w a) (hB : KIn w b) (oa : KOk a) (ob : KOk b) : Calls Tryz.prog 3 #[.agg (knA a), .agg (knA b)] w fun e w' => e = .returned (.bool true) ∧ Q w w' := by
  obtain ⟨w1, x, hx, hq1, ⟨hA1, hA2⟩, hB1, hB2⟩ := boxed_two w 25 a.cells b.cells
  have hx : (w.alloc (.cells (knA a) 25)).alloc (.cells (knA b) 25) = x.w := hx
  have hLa : ∀ y : Wd w1, (Instr.loadAt 25 (.pointer (some ⟨w.heap.size, 0, none⟩))).run Tryz.prog y.w = .ok (.agg (knA a)) y.w := Wd.load hA1 hA2 Tryz.underlying25 rfl (by kernel_rfl)
  have hLb : ∀ y : Wd w1, (Instr.loadAt 25 (.pointer (some ⟨w.heap.size + 1, 0, none⟩))).run Tryz.prog y.w = .ok (.agg (knA b)) y.w := Wd.load hB1 hB2 Tryz.underlying25 rfl (by kernel_rfl)
  have cA : ∀ y : Wd w1, y.w.cell? ⟨w.heap.size, 1, none⟩ = some (.slice a.iA a.l.length a.iC) := Wd.at0 hA1 hA2 1 rfl
  have cB : ∀ y : Wd w1, y.w.cell? ⟨w.heap.size + 1, 1, none⟩ = some (.slice b.iA b.l.length b.iC) := Wd.at0 hB1 hB2 1 rfl
  have hTy : ∀ y : Wd w1, Tab y.w := fun y => hT.q (Q.trans hq1 y.q)
  have hKa : ∀ y : Wd w1, KIn y.w a := fun y => hA.q (Q.trans hq1 y.q)
  have hKb : ∀ y : Wd w1, KIn y.w b := fun y => hB.q (Q.trans hq1 y.q)
  have hSm := fun y : Wd w1 => small_any y.w (hTy y)
  have hFa := fun y : Wd w1 => few_any a y.w (hKa y)
  have hFb := fun y : Wd w1 => few_any b y.w (hKb y)
  have hRa := fun y : Wd w1 => kright_any a y.w (hTy y) (hKa y)
  have hRb := fun y : Wd w1 => kright_any b y.w (hTy y) (hKb y)
  clear hA1 hA2 hB1 hB2
  rcases ways5 (fewB a) (fewB b) (rightK a.sv a.l) (rightK b.sv b.l) (decide (setDig a.sv a.l = setDig b.sv b.l)) with g1 | ⟨g1, g2⟩ | ⟨g1, g2, g3⟩ | ⟨g1, g2, g3, g4⟩ | ⟨g1, g2, g3, g4, g5⟩ | ⟨g1, g2, g3, g4, g5⟩
  · rw [g1] at hFa
    go_enter Tryz.func3, Tryz.ntmps3
    go_wp2_with (go_at_call 8; refine (hSm _).mono ?_; rintro e w' ⟨rfl, hq2⟩; obtain ⟨y, rfl⟩ := Wd.next _ hq2; clear hq2)
    refine wp_region_wd y (by kernel_rfl) (by kernel_rfl) ?_
    repeat (first | (refine wpQuiet_load_run 25 (.tmp 2) (.pointer (some ⟨w.heap.size, 0, none⟩)) (.agg (knA a)) ?_ ?_ ?_ ?_ ?_; rfl; rfl; rfl; exact hLa; dsimp only [Act.put]; simp only [List.setIfInBounds_toArray, List.set_cons_succ, List.set_cons_zero]) | (refine wpQuiet_load_run 25 (.tmp 3) (.pointer (some ⟨w.heap.size + 1, 0, none⟩)) (.agg (knA b)) ?_ ?_ ?_ ?_ ?_; rfl; rfl; rfl; exact hLb; dsimp only [Act.put]; simp only [List.setIfInBounds_toArray, List.set_cons_succ, List.set_cons_zero]) | go_big_quiet_step (first | with_reducible exact Wd.call _ (hFa _)))
    refine wpQuiet_nil ?_
    rintro w'' ⟨z, rfl⟩
    go_wp2
    go_ret
    exact ⟨rfl, Q.trans hq1 z.q⟩
  · rw [g1] at hFa
    rw [g2] at hFb
    go_enter Tryz.func3, Tryz.ntmps3
    go_wp2_with (go_at_call 8; refine (hSm _).mono ?_; rintro e w' ⟨rfl, hq2⟩; obtain ⟨y, rfl⟩ := Wd.next _ hq2; clear hq2)
    refine wp_region_wd y (by kernel_rfl) (by kernel_rfl) ?_
    repeat (first | (refine wpQuiet_load_run 25 (.tmp 2) (.pointer (some ⟨w.heap.size, 0, none⟩)) (.agg (knA a)) ?_ ?_ ?_ ?_ ?_; rfl; rfl; rfl; exact hLa; dsimp only [Act.put]; simp only [List.setIfInBounds_toArray, List.set_cons_succ, List.set_cons_zero]) | (refine wpQuiet_load_run 25 (.tmp 3) (.pointer (some ⟨w.heap.size + 1, 0, none⟩)) (.agg (knA b)) ?_ ?_ ?_ ?_ ?_; rfl; rfl; rfl; exact hLb; dsimp only [Act.put]; simp only [List.setIfInBounds_toArray, List.set_cons_succ, List.set_cons_zero]) | go_big_quiet_step (first | with_reducible exact Wd.call _ (hFa _) | with_reducible exact Wd.call _ (hFb _)))
    refine wpQuiet_nil ?_
    rintro w'' ⟨z, rfl⟩
    go_wp2
    go_ret
    exact ⟨rfl, Q.trans hq1 z.q⟩
  · rw [g1] at hFa
    rw [g2] at hFb
    rw [g3] at hRa
    go_enter Tryz.func3, Tryz.ntmps3
    go_wp2_with (go_at_call 8; refine (hSm _).mono ?_; rintro e w' ⟨rfl, hq2⟩; obtain ⟨y, rfl⟩ := Wd.next _ hq2; clear hq2)
    refine wp_region_wd y (by kernel_rfl) (by kernel_rfl) ?_
    repeat (first | (refine wpQuiet_load_run 25 (.tmp 2) (.pointer (some ⟨w.heap.size, 0, none⟩)) (.agg (knA a)) ?_ ?_ ?_ ?_ ?_; rfl; rfl; rfl; exact hLa; dsimp only [Act.put]; simp only [List.setIfInBounds_toArray, List.set_cons_succ, List.set_cons_zero]) | (refine wpQuiet_load_run 25 (.tmp 3) (.pointer (some ⟨w.heap.size + 1, 0, none⟩)) (.agg (knA b)) ?_ ?_ ?_ ?_ ?_; rfl; rfl; rfl; exact hLb; dsimp only [Act.put]; simp only [List.setIfInBounds_toArray, List.set_cons_succ, List.set_cons_zero]) | go_big_quiet_step (first | with_reducible exact Wd.call _ (hFa _) | with_reducible exact Wd.call _ (hFb _) | with_reducible exact Wd.call _ (hRa _)))
    refine wpQuiet_nil ?_
    rintro w'' ⟨z, rfl⟩
    go_wp2
    go_ret
    exact ⟨rfl, Q.trans hq1 z.q⟩
  · rw [g1] at hFa
    rw [g2] at hFb
    rw [g3] at hRa
    rw [g4] at hRb
    go_enter Tryz.func3, Tryz.ntmps3
    go_wp2_with (go_at_call 8; refine (hSm _).mono ?_; rintro e w' ⟨rfl, hq2⟩; obtain ⟨y, rfl⟩ := Wd.next _ hq2; clear hq2)
    refine wp_region_wd y (by kernel_rfl) (by kernel_rfl) ?_
    repeat (first | (refine wpQuiet_load_run 25 (.tmp 2) (.pointer (some ⟨w.heap.size, 0, none⟩)) (.agg (knA a)) ?_ ?_ ?_ ?_ ?_; rfl; rfl; rfl; exact hLa; dsimp only [Act.put]; simp only [List.setIfInBounds_toArray, List.set_cons_succ, List.set_cons_zero]) | (refine wpQuiet_load_run 25 (.tmp 3) (.pointer (some ⟨w.heap.size + 1, 0, none⟩)) (.agg (knA b)) ?_ ?_ ?_ ?_ ?_; rfl; rfl; rfl; exact hLb; dsimp only [Act.put]; simp only [List.setIfInBounds_toArray, List.set_cons_succ, List.set_cons_zero]) | go_big_quiet_step (first | with_reducible exact Wd.call _ (hFa _) | with_reducible exact Wd.call _ (hFb _) | with_reducible exact Wd.call _ (hRa _) | with_reducible exact Wd.call _ (hRb _)))
    refine wpQuiet_nil ?_
    rintro w'' ⟨z, rfl⟩
    go_wp2
    go_ret
    exact ⟨rfl, Q.trans hq1 z.q⟩
  · rw [g1] at hFa
    rw [g2] at hFb
    rw [g3] at hRa
    rw [g4] at hRb
    obtain ⟨la, sa⟩ := few_facts g1
    obtain ⟨lb, sb⟩ := few_facts g2
    have hDa := fun y : Wd w1 => kdigest_any a y.w (hTy y) (hKa y) (by omega) (by omega)
    have hDb := fun y : Wd w1 => kdigest_any b y.w (hTy y) (hKb y) (by omega) (by omega)
    rw [decide_eq_false_iff_not] at g5
    generalize setDig a.sv a.l = D1 at *
    generalize setDig b.sv b.l = D2 at *
    have hne : ¬ D1.toList = D2.toList := str_ne g5
    have hne2 : (D1.toList == D2.toList) = false := beq_eq_false_iff_ne.2 (str_ne g5)
    go_enter Tryz.func3, Tryz.ntmps3
    go_wp2_with (go_at_call 8; refine (hSm _).mono ?_; rintro e w' ⟨rfl, hq2⟩; obtain ⟨y, rfl⟩ := Wd.next _ hq2; clear hq2)
    refine wp_region_wd y (by kernel_rfl) (by kernel_rfl) ?_
    repeat (first | (refine wpQuiet_load_run 25 (.tmp 2) (.pointer (some ⟨w.heap.size, 0, none⟩)) (.agg (knA a)) ?_ ?_ ?_ ?_ ?_; rfl; rfl; rfl; exact hLa; dsimp only [Act.put]; simp only [List.setIfInBounds_toArray, List.set_cons_succ, List.set_cons_zero]) | (refine wpQuiet_load_run 25 (.tmp 3) (.pointer (some ⟨w.heap.size + 1, 0, none⟩)) (.agg (knA b)) ?_ ?_ ?_ ?_ ?_; rfl; rfl; rfl; exact hLb; dsimp only [Act.put]; simp only [List.setIfInBounds_toArray, List.set_cons_succ, List.set_cons_zero]) | go_big_quiet_step (first | with_reducible exact Wd.call _ (hFa _) | with_reducible exact Wd.call _ (hFb _) | with_reducible exact Wd.call _ (hRa _) | with_reducible exact Wd.call _ (hRb _) | with_reducible exact Wd.call _ (hDa _) | with_reducible exact Wd.call _ (hDb _)))
    refine wpQuiet_nil ?_
    rintro w'' ⟨z, rfl⟩
    go_wp2
    go_ret
    exact ⟨rfl, Q.trans hq1 z.q⟩
  rw [g1] at hFa
  rw [g2] at hFb
  rw [g3] at hRa
  rw [g4] at hRb
  obtain ⟨la, sa⟩ := few_facts g1
  obtain ⟨lb, sb⟩ := few_facts g2
  have hDa := fun y : Wd w1 => kdigest_any a y.w (hTy y) (hKa y) (by omega) (by omega)
  have hDb := fun y : Wd w1 => kdigest_any b y.w (hTy y) (hKb y) (by omega) (by omega)
  have hTa := fun y : Wd w1 => rtext_any a y.w (hKa y) oa (by omega) (by omega)
  have hTb := fun y : Wd w1 => rtext_any b y.w (hKb y) ob (by omega) (by omega)
  have g5 := of_decide_eq_true g5
  rw [← g5] at hDb
  have hs1 : sha (setB a.sv a.l) = setDig a.sv a.l := rfl
  have hs2 : sha (setB b.sv b.l) = setDig a.sv a.l := by rw [g5]; rfl
  have hz1 := setB_size a (by omega) (by omega)
  have hz2 := setB_size b (by omega) (by omega)
  have HE := Lib.hid (setB_digs g3 g4 (by omega) (by omega))
  have H3 := Lib.hid g3
  have H4 := Lib.hid g4
  generalize setDig a.sv a.l = D at *
  clear g5 g1 g2 g3 g4
  generalize setB a.sv a.l = T1 at *
  generalize setB b.sv b.l = T2 at *
  have hSa : ∀ y : Wd w1, Calls Tryz.prog 13 #[.string T1] y.w fun e w' => e = .returned (.string D) ∧ Q y.w w' := fun y => hs1 ▸ Sha_any T1 y.w (hTy y) hz1
  have hSb : ∀ y : Wd w1, Calls Tryz.prog 13 #[.string T2] y.w fun e w' => e = .returned (.string D) ∧ Q y.w w' := fun y => hs2 ▸ Sha_any T2 y.w (hTy y) hz2
  clear hs1 hs2 hz1 hz2
  go_enter Tryz.func3, Tryz.ntmps3
  go_wp2_with (go_at_call 8; refine (hSm _).mono ?_; rintro e w' ⟨rfl, hq2⟩; obtain ⟨y, rfl⟩ := Wd.next _ hq2; clear hq2)
  refine wp_region_wd y (by kernel_rfl) (by kernel_rfl) ?_
  repeat (first | (refine wpQuiet_load_run 25 (.tmp 2) (.pointer (some ⟨w.heap.size, 0, none⟩)) (.agg (knA a)) ?_ ?_ ?_ ?_ ?_; rfl; rfl; rfl; exact hLa; dsimp only [Act.put]; simp only [List.setIfInBounds_toArray, List.set_cons_succ, List.set_cons_zero]) | (refine wpQuiet_load_run 25 (.tmp 3) (.pointer (some ⟨w.heap.size + 1, 0, none⟩)) (.agg (knA b)) ?_ ?_ ?_ ?_ ?_; rfl; rfl; rfl; exact hLb; dsimp only [Act.put]; simp only [List.setIfInBounds_toArray, List.set_cons_succ, List.set_cons_zero]) | go_big_quiet_step (first | with_reducible exact Wd.call _ (hFa _) | with_reducible exact Wd.call _ (hFb _) | with_reducible exact Wd.call _ (hRa _) | with_reducible exact Wd.call _ (hRb _) | with_reducible exact Wd.call _ (hDa _) | with_reducible exact Wd.call _ (hDb _)))
  refine wpQuiet_nil ?_
  rintro w'' ⟨z, rfl⟩
  clear hFa hFb hRa hRb hDa hDb
  by_cases ht : T1 = T2
  rotate_left
  · have ht' : ¬ T1.toList = T2.toList := str_ne ht
    have ht2 : (T1.toList == T2.toList) = false := beq_eq_false_iff_ne.2 (str_ne ht)
    go_wp2_with fail
    refine wp_region_wd z (by kernel_rfl) (by kernel_rfl) ?_
    repeat (first | (refine wpQuiet_load_run 25 (.tmp 2) (.pointer (some ⟨w.heap.size, 0, none⟩)) (.agg (knA a)) ?_ ?_ ?_ ?_ ?_; rfl; rfl; rfl; exact hLa; dsimp only [Act.put]; simp only [List.setIfInBounds_toArray, List.set_cons_succ, List.set_cons_zero]) | (refine wpQuiet_load_run 25 (.tmp 3) (.pointer (some ⟨w.heap.size + 1, 0, none⟩)) (.agg (knA b)) ?_ ?_ ?_ ?_ ?_; rfl; rfl; rfl; exact hLb; dsimp only [Act.put]; simp only [List.setIfInBounds_toArray, List.set_cons_succ, List.set_cons_zero]) | go_big_quiet_step (first | with_reducible exact Wd.call _ (hTa _) | with_reducible exact Wd.call _ (hTb _)))
    refine wpQuiet_nil ?_
    rintro w'' ⟨z2, rfl⟩
    go_wp2_with fail
    refine wp_region_wd z2 (by kernel_rfl) (by kernel_rfl) ?_
    repeat (first | (refine wpQuiet_load_run 25 (.tmp 2) (.pointer (some ⟨w.heap.size, 0, none⟩)) (.agg (knA a)) ?_ ?_ ?_ ?_ ?_; rfl; rfl; rfl; exact hLa; dsimp only [Act.put]; simp only [List.setIfInBounds_toArray, List.set_cons_succ, List.set_cons_zero]) | (refine wpQuiet_load_run 25 (.tmp 3) (.pointer (some ⟨w.heap.size + 1, 0, none⟩)) (.agg (knA b)) ?_ ?_ ?_ ?_ ?_; rfl; rfl; rfl; exact hLb; dsimp only [Act.put]; simp only [List.setIfInBounds_toArray, List.set_cons_succ, List.set_cons_zero]) | go_big_quiet_step (first | with_reducible exact Wd.call _ (hTa _) | with_reducible exact Wd.call _ (hTb _) | with_reducible exact Wd.call _ (hSa _) | with_reducible exact Wd.call _ (hSb _)))
    refine wpQuiet_nil ?_
    rintro w'' ⟨z3, rfl⟩
    go_wp2_with fail
    go_ret
    exact ⟨rfl, Q.trans hq1 z3.q⟩
  have HD := Lib.hid (HE.out ht)
  have HLN := Lib.hid (digs_length_eq (HE.out ht))
  subst ht
  go_wp2_with fail
  refine wp_region_wd z (by kernel_rfl) (by kernel_rfl) ?_
  repeat (first | (refine wpQuiet_load_run 25 (.tmp 2) (.pointer (some ⟨w.heap.size, 0, none⟩)) (.agg (knA a)) ?_ ?_ ?_ ?_ ?_; rfl; rfl; rfl; exact hLa; dsimp only [Act.put]; simp only [List.setIfInBounds_toArray, List.set_cons_succ, List.set_cons_zero]) | (refine wpQuiet_load_run 25 (.tmp 3) (.pointer (some ⟨w.heap.size + 1, 0, none⟩)) (.agg (knA b)) ?_ ?_ ?_ ?_ ?_; rfl; rfl; rfl; exact hLb; dsimp only [Act.put]; simp only [List.setIfInBounds_toArray, List.set_cons_succ, List.set_cons_zero]) | go_big_quiet_step (first | with_reducible exact Wd.call _ (hTa _) | with_reducible exact Wd.call _ (hTb _)))
  refine wpQuiet_nil ?_
  rintro w'' ⟨z2, rfl⟩
  have hln : a.l.length = b.l.length := HLN.out
  have hneq : ((a.l.length : Int) != (b.l.length : Int)) = false := by simp [hln]
  clear hln hTa hTb hSa hSb
  go_wp2_with fail
  clear hneq
  go_loopw [6] (fun i wr => ∃ (j : Nat) (z : Wd w1), i = .int .i64 j ∧ wr = z.w ∧ j ≤ a.l.length) (fun i _ => a.l.length - (intOf i).toNat)
  case atStart => exact ⟨0, z2, rfl, rfl, Nat.zero_le _⟩
  case round =>
    obtain ⟨j, z4, rfl, rfl, hj⟩ := hrel
    by_cases hlt : j < a.l.length
    · have hlt2 : j < b.l.length := by rw [← HLN.out]; exact hlt
      obtain ⟨p1, o1, e1, hp1, hld1⟩ := (hKa ⟨w1, Q.refl _⟩).items.load j hlt
      obtain ⟨p2, o2, e2, hp2, hld2⟩ := (hKb ⟨w1, Q.refl _⟩).items.load j hlt2
      have hi1 : ∀ y : Wd w1, ItemIn y.w a.l[j] := fun y => (hKa y).items.each _ (List.getElem_mem hlt)
      have hi2 : ∀ y : Wd w1, ItemIn y.w b.l[j] := fun y => (hKb y).items.each _ (List.getElem_mem hlt2)
      have hsh := shas_eq H3.out H4.out HD.out j hlt hlt2
      have hx1 : (j : Int) < (a.l.length : Int) := by omega
      have hx2 : (j : Int) < (b.l.length : Int) := by omega
      have hx0 : (0 : Int) ≤ (j : Int) := by omega
      rw [e1] at cA
      rw [e2] at cB
      clear e1 e2
      generalize a.l[j] = s at *
      generalize b.l[j] = t at *
      have hSame := fun y : Wd w1 => itemSame_any s t y.w (hi1 y) (hi2 y)
      have hb1 := itemBytes_le s
      have hb2 := itemBytes_le t
      have hBy1 := fun y : Wd w1 => itemBytes_any s y.w (hi1 y)
      have hBy2 := fun y : Wd w1 => itemBytes_any t y.w (hi2 y)
      have hSh1 : ∀ y : Wd w1, Calls Tryz.prog 13 #[.string (itemBytes s)] y.w fun e w' => e = .returned (.string (sha (itemBytes s))) ∧ Q y.w w' := fun y => Sha_any _ y.w (hTy y) (by omega)
      have hSh2 : ∀ y : Wd w1, Calls Tryz.prog 13 #[.string (itemBytes t)] y.w fun e w' => e = .returned (.string (sha (itemBytes s))) ∧ Q y.w w' := fun y => hsh ▸ Sha_any _ y.w (hTy y) (by omega)
      generalize sha (itemBytes s) = E at *
      generalize itemBytes s = B1 at *
      generalize itemBytes t = B2 at *
      clear hsh hb1 hb2 hi1 hi2
      cases hs : s.same t
      · rw [hs] at hSame
        go_wp2_with fail
        refine wp_region_wd z4 (by kernel_rfl) (by kernel_rfl) ?_
        repeat (first | (refine wpQuiet_load_run 46 (.tmp 66) (.pointer (some ⟨p1, o1 + j * 49, none⟩)) (.agg (itA s)) ?_ ?_ ?_ ?_ ?_; rfl; rfl; rfl; exact fun y => hld1 ⟨y.w, y.q⟩; dsimp only [Act.put]; simp only [List.setIfInBounds_toArray, List.set_cons_succ, List.set_cons_zero]) | (refine wpQuiet_load_run 46 (.tmp 71) (.pointer (some ⟨p2, o2 + j * 49, none⟩)) (.agg (itA t)) ?_ ?_ ?_ ?_ ?_; rfl; rfl; rfl; exact fun y => hld2 ⟨y.w, y.q⟩; dsimp only [Act.put]; simp only [List.setIfInBounds_toArray, List.set_cons_succ, List.set_cons_zero]) | (refine wpQuiet_load_run 46 (.tmp 79) (.pointer (some ⟨p1, o1 + j * 49, none⟩)) (.agg (itA s)) ?_ ?_ ?_ ?_ ?_; rfl; rfl; rfl; exact fun y => hld1 ⟨y.w, y.q⟩; dsimp only [Act.put]; simp only [List.setIfInBounds_toArray, List.set_cons_succ, List.set_cons_zero]) | (refine wpQuiet_load_run 46 (.tmp 86) (.pointer (some ⟨p2, o2 + j * 49, none⟩)) (.agg (itA t)) ?_ ?_ ?_ ?_ ?_; rfl; rfl; rfl; exact fun y => hld2 ⟨y.w, y.q⟩; dsimp only [Act.put]; simp only [List.setIfInBounds_toArray, List.set_cons_succ, List.set_cons_zero]) | go_big_quiet_step (first | with_reducible exact Wd.call _ (hSame _) | with_reducible exact Wd.call _ (hBy1 _) | with_reducible exact Wd.call _ (hBy2 _) | with_reducible exact Wd.call _ (hSh1 _) | with_reducible exact Wd.call _ (hSh2 _)))
        refine wpQuiet_nil ?_
        rintro w'' ⟨y, rfl⟩
        go_wp2_with fail
        exact ⟨⟨j + 1, y, by go_num, rfl, by omega⟩, by simp only [intOf]; omega⟩
      · rw [hs] at hSame
        go_wp2_with fail
        refine wp_region_wd z4 (by kernel_rfl) (by kernel_rfl) ?_
        iterate 12 (first | (refine wpQuiet_load_run 46 (.tmp 66) (.pointer (some ⟨p1, o1 + j * 49, none⟩)) (.agg (itA s)) ?_ ?_ ?_ ?_ ?_; rfl; rfl; rfl; exact fun y => hld1 ⟨y.w, y.q⟩; dsimp only [Act.put]; simp only [List.setIfInBounds_toArray, List.set_cons_succ, List.set_cons_zero]) | (refine wpQuiet_load_run 46 (.tmp 71) (.pointer (some ⟨p2, o2 + j * 49, none⟩)) (.agg (itA t)) ?_ ?_ ?_ ?_ ?_; rfl; rfl; rfl; exact fun y => hld2 ⟨y.w, y.q⟩; dsimp only [Act.put]; simp only [List.setIfInBounds_toArray, List.set_cons_succ, List.set_cons_zero]) | (refine wpQuiet_load_run 46 (.tmp 79) (.pointer (some ⟨p1, o1 + j * 49, none⟩)) (.agg (itA s)) ?_ ?_ ?_ ?_ ?_; rfl; rfl; rfl; exact fun y => hld1 ⟨y.w, y.q⟩; dsimp only [Act.put]; simp only [List.setIfInBounds_toArray, List.set_cons_succ, List.set_cons_zero]) | (refine wpQuiet_load_run 46 (.tmp 86) (.pointer (some ⟨p2, o2 + j * 49, none⟩)) (.agg (itA t)) ?_ ?_ ?_ ?_ ?_; rfl; rfl; rfl; exact fun y => hld2 ⟨y.w, y.q⟩; dsimp only [Act.put]; simp only [List.setIfInBounds_toArray, List.set_cons_succ, List.set_cons_zero]) | go_big_quiet_step (first | with_reducible exact Wd.call _ (hSame _) | with_reducible exact Wd.call _ (hBy1 _) | with_reducible exact Wd.call _ (hBy2 _) | with_reducible exact Wd.call _ (hSh1 _) | with_reducible exact Wd.call _ (hSh2 _)))
        with_reducible refine wpQuiet_one_move (.tmp 74) (.bool false) (by kernel_rfl) (by kernel_rfl) (by kernel_rfl) ?_
        dsimp only [Act.put]
        simp only [List.setIfInBounds_toArray, List.set_cons_succ, List.set_cons_zero]
        iterate 15 (with_reducible refine wpQuiet_skip (by kernel_rfl) ?_; dsimp only [Act.put]; simp only [List.setIfInBounds_toArray, List.set_cons_succ, List.set_cons_zero])
        repeat (go_big_quiet_step (fail))
        refine wpQuiet_nil ?_
        rintro w'' ⟨y, rfl⟩
        go_wp2_with fail
        exact ⟨⟨j + 1, y, by go_num, rfl, by omega⟩, by simp only [intOf]; omega⟩
    · have hnlt : ¬ (j : Int) < (a.l.length : Int) := by omega
      go_wp2_with fail
      go_ret
      exact ⟨rfl, Q.trans hq1 z4.q⟩
end Go.Proofs.YtomkeaeegdjhnaaGreatDoor.Known
