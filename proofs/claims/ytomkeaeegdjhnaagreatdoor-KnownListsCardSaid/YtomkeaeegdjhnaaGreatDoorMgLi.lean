/-
  The contract of agoraref12.fits, all kinds; Right (printed by gen_fits.py).
  Package agoraref12's Right, box, Core and Bytes.
  Package agoraref13: Right, Bytes, Digest and Same (printed by gen_ref13.py).
  What an argument's type gives: a known set.
  Insertion from the right: the kit's insertion sort over an array as a fold over a list; it commutes with a filter. No walk in this text.
  The contracts of agoraref14's After and Sorted.
-/
import Derived.Test.YtomkeaeegdjhnaaGreatDoorRef12F
import Derived.Test.YtomkeaeegdjhnaaGreatDoorRef12G
import Derived.Test.YtomkeaeegdjhnaaGreatDoorRef12H
import Derived.Test.YtomkeaeegdjhnaaGreatDoorMgRefSame
import Derived.Test.YtomkeaeegdjhnaaGreatDoorMgRefBase
import Derived.Test.YtomkeaeegdjhnaaGreatDoorMgRefIt
import Derived.Deep.Cut
import Derived.Test.YtomkeaeegdjhnaaGreatDoorMgItKn
import Derived.ChangeMaps5
import Derived.Sort.Defs
set_option linter.unusedVariables false
set_option linter.unusedSimpArgs false
namespace Go.Proofs.YtomkeaeegdjhnaaGreatDoor.Item
open Go.RowKit Grp Mem _root_.Go.Proofs.YtomkeaeegdjhnaaGreatDoor.Code Sha Sign
set_option maxRecDepth 100000 in
set_option maxHeartbeats 8000000 in
theorem rfits_no (a : ActR) (w : World) (hk : ¬ (0 ≤ a.kind ∧ a.kind < 24)) : Calls Tryz.prog 224 #[.agg (actA a)] w fun e w' => e = .returned (.bool (fitsB a)) ∧ Q w w' := by
  obtain ⟨w1, x, hx, hq1, hA⟩ := ActAt.box w a 38
  have hL1 := hA.load
  have HF := Lib.hid (fits_no a hk)
  have hlt1 := hA.lt
  have e0 : (a.kind == 0) = false := by rw [beq_eq_false_iff_ne]; omega
  have e1 : (a.kind == 1) = false := by rw [beq_eq_false_iff_ne]; omega
  have e2 : (a.kind == 2) = false := by rw [beq_eq_false_iff_ne]; omega
  have e3 : (a.kind == 3) = false := by rw [beq_eq_false_iff_ne]; omega
  have e4 : (a.kind == 4) = false := by rw [beq_eq_false_iff_ne]; omega
  have e5 : (a.kind == 5) = false := by rw [beq_eq_false_iff_ne]; omega
  have e6 : (a.kind == 6) = false := by rw [beq_eq_false_iff_ne]; omega
  have e7 : (a.kind == 7) = false := by rw [beq_eq_false_iff_ne]; omega
  have e8 : (a.kind == 8) = false := by rw [beq_eq_false_iff_ne]; omega
  have e9 : (a.kind == 9) = false := by rw [beq_eq_false_iff_ne]; omega
  have e10 : (a.kind == 10) = false := by rw [beq_eq_false_iff_ne]; omega
  have e11 : (a.kind == 11) = false := by rw [beq_eq_false_iff_ne]; omega
  have e12 : (a.kind == 12) = false := by rw [beq_eq_false_iff_ne]; omega
  have e13 : (a.kind == 13) = false := by rw [beq_eq_false_iff_ne]; omega
  have e14 : (a.kind == 14) = false := by rw [beq_eq_false_iff_ne]; omega
  have e15 : (a.kind == 15) = false := by rw [beq_eq_false_iff_ne]; omega
  have e16 : (a.kind == 16) = false := by rw [beq_eq_false_iff_ne]; omega
  have e17 : (a.kind == 17) = false := by rw [beq_eq_false_iff_ne]; omega
  have e18 : (a.kind == 18) = false := by rw [beq_eq_false_iff_ne]; omega
  have e19 : (a.kind == 19) = false := by rw [beq_eq_false_iff_ne]; omega
  have e20 : (a.kind == 20) = false := by rw [beq_eq_false_iff_ne]; omega
  have e21 : (a.kind == 21) = false := by rw [beq_eq_false_iff_ne]; omega
  have e22 : (a.kind == 22) = false := by rw [beq_eq_false_iff_ne]; omega
  have e23 : (a.kind == 23) = false := by rw [beq_eq_false_iff_ne]; omega
  clear hk
  go_enter Tryz.func224, Tryz.ntmps224
  go_wp2_with (first | (refine wpList_load_run 38 (.tmp 1) (.pointer (some ⟨w.heap.size, 0, none⟩)) (.agg (actA a)) ?_ ?_ ?_ ?_ ?_; rfl; rfl; rfl; exact hL1 _) | (refine wpList_store_blk (Blk.new x.w 38 act0.cells.toArray) rfl 38 (.tmp 3) (.tmp 11) a.cells rfl rfl rfl (by kernel_rfl) (act_all _) (Nat.le_refl 20) ?_))
  intro W hW hbel
  rw [splice_all _ _ (by rfl)] at hW
  have hqx : Q x.w W := hbel _ _ (Nat.le_refl _) (q_new _ _ _)
  have hqW : Q w W := Q.trans hq1 (Q.trans x.q hqx)
  have hA := ActAt.mk (w0 := W) (g := w.heap.size) (a := a) (Nat.lt_of_lt_of_le hlt1 (Q.trans x.q hqx).size) (range_q hA.range (Q.trans x.q hqx) hlt1)
  have c3 := hA.get 3 rfl
  obtain ⟨v, hv⟩ := Wd.first W
  rw [hv]
  have HQ := Lib.hid hqW
  clear hbel hL1 hqx hlt1 hx hA hq1 hv hqW hW
  go_wp2_with fail
  go_ret
  exact ⟨by rw [HF.out]; rfl, Q.trans HQ.out v.q⟩
theorem rfits_any (a : ActR) (w : World) (hI : ActIn w a) (ho : ActOk a) : Calls Tryz.prog 224 #[.agg (actA a)] w fun e w' => e = .returned (.bool (fitsB a)) ∧ Q w w' := by
  by_cases hk : 0 ≤ a.kind ∧ a.kind < 24
  · rcases (show a.kind = 0 ∨ a.kind = 1 ∨ a.kind = 2 ∨ a.kind = 3 ∨ a.kind = 4 ∨ a.kind = 5 ∨ a.kind = 6 ∨ a.kind = 7 ∨ a.kind = 8 ∨ a.kind = 9 ∨ a.kind = 10 ∨ a.kind = 11 ∨ a.kind = 12 ∨ a.kind = 13 ∨ a.kind = 14 ∨ a.kind = 15 ∨ a.kind = 16 ∨ a.kind = 17 ∨ a.kind = 18 ∨ a.kind = 19 ∨ a.kind = 20 ∨ a.kind = 21 ∨ a.kind = 22 ∨ a.kind = 23 by omega) with h | h | h | h | h | h | h | h | h | h | h | h | h | h | h | h | h | h | h | h | h | h | h | h
    · exact rfits_0 a w hI ho h
    · exact rfits_1 a w hI ho h
    · exact rfits_2 a w hI ho h
    · exact rfits_3 a w hI ho h
    · exact rfits_4 a w hI ho h
    · exact rfits_5 a w hI ho h
    · exact rfits_6 a w hI ho h
    · exact rfits_7 a w hI ho h
    · exact rfits_8 a w hI ho h
    · exact rfits_9 a w hI ho h
    · exact rfits_10 a w hI ho h
    · exact rfits_11 a w hI ho h
    · exact rfits_12 a w hI ho h
    · exact rfits_13 a w hI ho h
    · exact rfits_14 a w hI ho h
    · exact rfits_15 a w hI ho h
    · exact rfits_16 a w hI ho h
    · exact rfits_17 a w hI ho h
    · exact rfits_18 a w hI ho h
    · exact rfits_19 a w hI ho h
    · exact rfits_20 a w hI ho h
    · exact rfits_21 a w hI ho h
    · exact rfits_22 a w hI ho h
    · exact rfits_23 a w hI ho h
  · exact rfits_no a w hk
set_option maxRecDepth 100000 in
set_option maxHeartbeats 40000000 in
theorem ractRight_in (a : ActR) (w : World) (hI : ActIn w a) (ho : ActOk a) (g1 : idB a.author = true) (s1 : ¬ a.seq < 0) (s2 : ¬ 1073741824 < a.seq) (t1 : ¬ a.time < 0) (t2 : ¬ 1099511627776 < a.time) (e1 : ¬ a.e < 0) (e2 : ¬ 2305843009213693950 ≤ a.e) (z1 : ¬ a.s < 0) (z2 : ¬ 2305843009213693950 ≤ a.s) : Calls Tryz.prog 170 #[.agg (actA a)] w fun e w' => e = .returned (.bool (actRight a)) ∧ Q w w' := by
  obtain ⟨w1, x, hx, hq1, hA⟩ := ActAt.box w a 38
  have c0 := hA.get 0 rfl
  have c1 := hA.get 1 rfl
  have c2 := hA.get 2 rfl
  have c3 := hA.get 3 rfl
  have c4 := hA.get 4 rfl
  have c18 := hA.get 18 rfl
  have c19 := hA.get 19 rfl
  have hL := hA.load
  have hza : a.author.size ≤ maxLen := ho.strs _ (by simp)
  have hIn : ∀ y : Wd w1, ActIn y.w a := fun y => hI.q (Q.trans hq1 y.q)
  clear hA
  have HX := Lib.hid (show actRight a = ((if a.seq = 0 then noneB a.prev && decide (a.kind = 0) else decide (a.prev.size = 32) && !decide (a.kind = 0)) && fitsB a) by
    rw [actRight_eq, g1, decide_eq_true (show 0 ≤ a.seq ∧ a.seq ≤ 1073741824 by omega), decide_eq_true (show 0 ≤ a.time ∧ a.time ≤ 1099511627776 by omega), decide_eq_true (show 0 ≤ a.e ∧ a.e ≤ 2305843009213693949 by omega), decide_eq_true (show 0 ≤ a.s ∧ a.s ≤ 2305843009213693949 by omega)]
    rfl)
  by_cases s0 : a.seq = 0
  · have q0 : (a.seq == 0) = true := by simpa using s0
    have q1 : ¬ 0 < a.seq := by omega
    cases hp : noneB a.prev
    · have hp2 : a.prev.toList.isEmpty = false := by rw [empty_none]; exact hp
      have HR := Lib.hid (show actRight a = false by rw [HX.out, if_pos s0, hp]; rfl)
      go_enter Tryz.func170, Tryz.ntmps170
      go_upto_region 2 with (first | (refine wpList_load_run 38 (.tmp 1) (.pointer (some ⟨w.heap.size, 0, none⟩)) (.agg (actA a)) ?_ ?_ ?_ ?_ ?_; rfl; rfl; rfl; exact hL _) | (go_at_call 223; refine (ridRight_any _ _ hza).mono ?_; rintro e w' ⟨rfl, rfl⟩) | (go_at_call 224; refine (rfits_any a _ (hIn _) ho).mono ?_; rintro e w' ⟨rfl, hq2⟩; obtain ⟨y, rfl⟩ := Wd.next _ hq2; clear hq2))
      go_upto_region 4 with fail
      clear s1 s2 t1 t2 e1 e2 z1 z2
      go_upto_region 6 with fail
      go_wp2_with (first | (refine wpList_load_run 38 (.tmp 1) (.pointer (some ⟨w.heap.size, 0, none⟩)) (.agg (actA a)) ?_ ?_ ?_ ?_ ?_; rfl; rfl; rfl; exact hL _) | (go_at_call 223; refine (ridRight_any _ _ hza).mono ?_; rintro e w' ⟨rfl, rfl⟩) | (go_at_call 224; refine (rfits_any a _ (hIn _) ho).mono ?_; rintro e w' ⟨rfl, hq2⟩; obtain ⟨y, rfl⟩ := Wd.next _ hq2; clear hq2))
      go_ret
      exact ⟨by rw [HR.out]; rfl, Q.trans hq1 (Wd.q _)⟩
    · have hp2 : a.prev.toList.isEmpty = true := by rw [empty_none]; exact hp
      by_cases hk : a.kind = 0
      · have k1 : (a.kind != 0) = false := by simp [hk]
        have k2 : (a.kind == 0) = true := by simp [hk]
        have HR := Lib.hid (show actRight a = fitsB a by rw [HX.out, if_pos s0, hp, decide_eq_true hk]; rfl)
        clear hk s0
        go_enter Tryz.func170, Tryz.ntmps170
        go_upto_region 2 with (first | (refine wpList_load_run 38 (.tmp 1) (.pointer (some ⟨w.heap.size, 0, none⟩)) (.agg (actA a)) ?_ ?_ ?_ ?_ ?_; rfl; rfl; rfl; exact hL _) | (go_at_call 223; refine (ridRight_any _ _ hza).mono ?_; rintro e w' ⟨rfl, rfl⟩) | (go_at_call 224; refine (rfits_any a _ (hIn _) ho).mono ?_; rintro e w' ⟨rfl, hq2⟩; obtain ⟨y, rfl⟩ := Wd.next _ hq2; clear hq2))
        go_upto_region 4 with fail
        clear s1 s2 t1 t2 e1 e2 z1 z2
        go_upto_region 6 with fail
        go_wp2_with (first | (refine wpList_load_run 38 (.tmp 1) (.pointer (some ⟨w.heap.size, 0, none⟩)) (.agg (actA a)) ?_ ?_ ?_ ?_ ?_; rfl; rfl; rfl; exact hL _) | (go_at_call 223; refine (ridRight_any _ _ hza).mono ?_; rintro e w' ⟨rfl, rfl⟩) | (go_at_call 224; refine (rfits_any a _ (hIn _) ho).mono ?_; rintro e w' ⟨rfl, hq2⟩; obtain ⟨y, rfl⟩ := Wd.next _ hq2; clear hq2))
        go_ret
        exact ⟨by rw [HR.out]; rfl, Q.trans hq1 (Wd.q _)⟩
      · have k1 : (a.kind != 0) = true := by simp [hk]
        have k2 : (a.kind == 0) = false := by simp [hk]
        have HR := Lib.hid (show actRight a = false by rw [HX.out, if_pos s0, hp, decide_eq_false hk]; rfl)
        clear hk s0
        go_enter Tryz.func170, Tryz.ntmps170
        go_upto_region 2 with (first | (refine wpList_load_run 38 (.tmp 1) (.pointer (some ⟨w.heap.size, 0, none⟩)) (.agg (actA a)) ?_ ?_ ?_ ?_ ?_; rfl; rfl; rfl; exact hL _) | (go_at_call 223; refine (ridRight_any _ _ hza).mono ?_; rintro e w' ⟨rfl, rfl⟩) | (go_at_call 224; refine (rfits_any a _ (hIn _) ho).mono ?_; rintro e w' ⟨rfl, hq2⟩; obtain ⟨y, rfl⟩ := Wd.next _ hq2; clear hq2))
        go_upto_region 4 with fail
        clear s1 s2 t1 t2 e1 e2 z1 z2
        go_upto_region 6 with fail
        go_wp2_with (first | (refine wpList_load_run 38 (.tmp 1) (.pointer (some ⟨w.heap.size, 0, none⟩)) (.agg (actA a)) ?_ ?_ ?_ ?_ ?_; rfl; rfl; rfl; exact hL _) | (go_at_call 223; refine (ridRight_any _ _ hza).mono ?_; rintro e w' ⟨rfl, rfl⟩) | (go_at_call 224; refine (rfits_any a _ (hIn _) ho).mono ?_; rintro e w' ⟨rfl, hq2⟩; obtain ⟨y, rfl⟩ := Wd.next _ hq2; clear hq2))
        go_ret
        exact ⟨by rw [HR.out]; rfl, Q.trans hq1 (Wd.q _)⟩
  · have q0 : (a.seq == 0) = false := by simpa using s0
    have q1 : 0 < a.seq := by omega
    by_cases hp : a.prev.size = 32
    · have hp2 : ((a.prev.size : Int) != 32) = false := by simp; omega
      by_cases hk : a.kind = 0
      · have k1 : (a.kind != 0) = false := by simp [hk]
        have k2 : (a.kind == 0) = true := by simp [hk]
        have HR := Lib.hid (show actRight a = false by rw [HX.out, if_neg s0, decide_eq_true hk]; simp)
        clear hk s0
        go_enter Tryz.func170, Tryz.ntmps170
        go_upto_region 2 with (first | (refine wpList_load_run 38 (.tmp 1) (.pointer (some ⟨w.heap.size, 0, none⟩)) (.agg (actA a)) ?_ ?_ ?_ ?_ ?_; rfl; rfl; rfl; exact hL _) | (go_at_call 223; refine (ridRight_any _ _ hza).mono ?_; rintro e w' ⟨rfl, rfl⟩) | (go_at_call 224; refine (rfits_any a _ (hIn _) ho).mono ?_; rintro e w' ⟨rfl, hq2⟩; obtain ⟨y, rfl⟩ := Wd.next _ hq2; clear hq2))
        go_upto_region 4 with fail
        clear s1 s2 t1 t2 e1 e2 z1 z2
        go_upto_region 6 with fail
        go_wp2_with (first | (refine wpList_load_run 38 (.tmp 1) (.pointer (some ⟨w.heap.size, 0, none⟩)) (.agg (actA a)) ?_ ?_ ?_ ?_ ?_; rfl; rfl; rfl; exact hL _) | (go_at_call 223; refine (ridRight_any _ _ hza).mono ?_; rintro e w' ⟨rfl, rfl⟩) | (go_at_call 224; refine (rfits_any a _ (hIn _) ho).mono ?_; rintro e w' ⟨rfl, hq2⟩; obtain ⟨y, rfl⟩ := Wd.next _ hq2; clear hq2))
        go_ret
        exact ⟨by rw [HR.out]; rfl, Q.trans hq1 (Wd.q _)⟩
      · have k1 : (a.kind != 0) = true := by simp [hk]
        have k2 : (a.kind == 0) = false := by simp [hk]
        have HR := Lib.hid (show actRight a = fitsB a by rw [HX.out, if_neg s0, decide_eq_true hp, decide_eq_false hk]; rfl)
        clear hk s0
        go_enter Tryz.func170, Tryz.ntmps170
        go_upto_region 2 with (first | (refine wpList_load_run 38 (.tmp 1) (.pointer (some ⟨w.heap.size, 0, none⟩)) (.agg (actA a)) ?_ ?_ ?_ ?_ ?_; rfl; rfl; rfl; exact hL _) | (go_at_call 223; refine (ridRight_any _ _ hza).mono ?_; rintro e w' ⟨rfl, rfl⟩) | (go_at_call 224; refine (rfits_any a _ (hIn _) ho).mono ?_; rintro e w' ⟨rfl, hq2⟩; obtain ⟨y, rfl⟩ := Wd.next _ hq2; clear hq2))
        go_upto_region 4 with fail
        clear s1 s2 t1 t2 e1 e2 z1 z2
        go_upto_region 6 with fail
        go_wp2_with (first | (refine wpList_load_run 38 (.tmp 1) (.pointer (some ⟨w.heap.size, 0, none⟩)) (.agg (actA a)) ?_ ?_ ?_ ?_ ?_; rfl; rfl; rfl; exact hL _) | (go_at_call 223; refine (ridRight_any _ _ hza).mono ?_; rintro e w' ⟨rfl, rfl⟩) | (go_at_call 224; refine (rfits_any a _ (hIn _) ho).mono ?_; rintro e w' ⟨rfl, hq2⟩; obtain ⟨y, rfl⟩ := Wd.next _ hq2; clear hq2))
        go_ret
        exact ⟨by rw [HR.out]; rfl, Q.trans hq1 (Wd.q _)⟩
    · have hp2 : ((a.prev.size : Int) != 32) = true := by simp; omega
      have HR := Lib.hid (show actRight a = false by rw [HX.out, if_neg s0, decide_eq_false hp]; rfl)
      go_enter Tryz.func170, Tryz.ntmps170
      go_upto_region 2 with (first | (refine wpList_load_run 38 (.tmp 1) (.pointer (some ⟨w.heap.size, 0, none⟩)) (.agg (actA a)) ?_ ?_ ?_ ?_ ?_; rfl; rfl; rfl; exact hL _) | (go_at_call 223; refine (ridRight_any _ _ hza).mono ?_; rintro e w' ⟨rfl, rfl⟩) | (go_at_call 224; refine (rfits_any a _ (hIn _) ho).mono ?_; rintro e w' ⟨rfl, hq2⟩; obtain ⟨y, rfl⟩ := Wd.next _ hq2; clear hq2))
      go_upto_region 4 with fail
      clear s1 s2 t1 t2 e1 e2 z1 z2
      go_upto_region 6 with fail
      go_wp2_with (first | (refine wpList_load_run 38 (.tmp 1) (.pointer (some ⟨w.heap.size, 0, none⟩)) (.agg (actA a)) ?_ ?_ ?_ ?_ ?_; rfl; rfl; rfl; exact hL _) | (go_at_call 223; refine (ridRight_any _ _ hza).mono ?_; rintro e w' ⟨rfl, rfl⟩) | (go_at_call 224; refine (rfits_any a _ (hIn _) ho).mono ?_; rintro e w' ⟨rfl, hq2⟩; obtain ⟨y, rfl⟩ := Wd.next _ hq2; clear hq2))
      go_ret
      exact ⟨by rw [HR.out]; rfl, Q.trans hq1 (Wd.q _)⟩
theorem ractRight_any (a : ActR) (w : World) (hI : ActIn w a) (ho : ActOk a) : Calls Tryz.prog 170 #[.agg (actA a)] w fun e w' => e = .returned (.bool (actRight a)) ∧ Q w w' := by
  by_cases h : idB a.author = true ∧ ¬ a.seq < 0 ∧ ¬ 1073741824 < a.seq ∧ ¬ a.time < 0 ∧ ¬ 1099511627776 < a.time ∧ ¬ a.e < 0 ∧ ¬ 2305843009213693950 ≤ a.e ∧ ¬ a.s < 0 ∧ ¬ 2305843009213693950 ≤ a.s
  · obtain ⟨g1, s1, s2, t1, t2, e1, e2, z1, z2⟩ := h
    exact ractRight_in a w hI ho g1 s1 s2 t1 t2 e1 e2 z1 z2
  · exact ractRight_out a w ho h
end Go.Proofs.YtomkeaeegdjhnaaGreatDoor.Item

namespace Go.Proofs.YtomkeaeegdjhnaaGreatDoor.Item
open Go.RowKit Grp Mem _root_.Go.Proofs.YtomkeaeegdjhnaaGreatDoor.Code Sha Sign _root_.Go.Proofs.YtomkeaeegdjhnaaGreatDoor.Known

set_option maxHeartbeats 2000000 in
theorem rbox_any (n d t : ByteArray) (w : World) (h : n.size + d.size + t.size ≤ 140737488355000) : Calls Tryz.prog 251 #[.agg #[.string n, .string d, .string t]] w fun e w' => e = .returned (.string ⟨(boxL n d t).toArray⟩) ∧ Q w w' := by
  obtain ⟨w1, x, hx, hq1, hlt, hr⟩ := boxed w 33 [.string n, .string d, .string t]
  have c0 := Wd.at0 hlt hr 0 rfl
  have c1 := Wd.at0 hlt hr 1 rfl
  have c2 := Wd.at0 hlt hr 2 rfl
  have z0 := textB_size n
  have z1 := textB_size d
  have z2 := textB_size t
  have a1 : (textB n).size + (textB d).size ≤ 9223372036854775807 := by omega
  have a2 : (textB n).size + (textB d).size + (textB t).size ≤ 9223372036854775807 := by omega
  have HR : Hid ((textB n ++ textB d) ++ textB t = ⟨(boxL n d t).toArray⟩) := Lib.hid (by
    apply ba_ext
    rw [ba_append, ba_append, textB_list, textB_list, textB_list, ba_list, boxL, List.append_assoc])
  go_enter Tryz.func251, Tryz.ntmps251
  go_wp2
  refine wp_region_wd x (by kernel_rfl) (by kernel_rfl) ?_
  repeat (go_big_quiet_step (exact Wd.call _ (RText_any _ _ (by omega))))
  refine wpQuiet_nil ?_
  rintro w'' ⟨z, rfl⟩
  go_wp2
  go_ret
  exact ⟨by rw [← HR.out]; rfl, Q.trans hq1 z.q⟩

set_option maxHeartbeats 1000000 in
theorem rcore_no (a : ActR) (w : World) (hI : ActIn w a) (ho : ActOk a) (h : actRight a = false) : Calls Tryz.prog 220 #[.agg (actA a)] w fun e w' => e = .returned (.string (actCore a)) ∧ Q w w' := by
  obtain ⟨w1, x, hx, hq1, hA⟩ := ActAt.box w a 38
  have hL := hA.load
  have HR : Hid (actCore a = ⟨#[]⟩) := Lib.hid (by unfold actCore; rw [h]; rfl)
  clear hA
  go_enter Tryz.func220, Tryz.ntmps220
  go_wp2_with (first | (refine wpList_load_run 38 (.tmp 1) (.pointer (some ⟨w.heap.size, 0, none⟩)) (.agg (actA a)) ?_ ?_ ?_ ?_ ?_; rfl; rfl; rfl; exact hL _) | (go_at_call 170; refine (ractRight_any _ _ (hI.q (Q.trans hq1 (Wd.q _))) ho).mono ?_; rintro e w' ⟨rfl, hq2⟩; obtain ⟨y, rfl⟩ := Wd.next _ hq2; clear hq2))
  go_ret
  exact ⟨by rw [HR.out]; rfl, Q.trans hq1 (Wd.q _)⟩

set_option maxRecDepth 100000 in
set_option maxHeartbeats 8000000 in
theorem rcore_yes (a : ActR) (w : World) (hI : ActIn w a) (ho : ActOk a) (h : actRight a = true) : Calls Tryz.prog 220 #[.agg (actA a)] w fun e w' => e = .returned (.string (actCore a)) ∧ Q w w' := by
  have sm := act_small h
  obtain ⟨w1, x, hx, hq1, hA⟩ := ActAt.box w a 38
  have hL := hA.load
  have HR : Hid (actCore a = ⟨(coreL a).toArray⟩) := Lib.hid (by unfold actCore; rw [h]; rfl)
  have c0 := hA.get 0 rfl
  have c1 := hA.get 1 rfl
  have c2 := hA.get 2 rfl
  have c3 := hA.get 3 rfl
  have c4 := hA.get 4 rfl
  have c5 := hA.get 5 rfl
  have c6 := hA.get 6 rfl
  have c7 := hA.get 7 rfl
  have c8 := hA.get 8 rfl
  have c9 := hA.get 9 rfl
  have c10 := hA.get 10 rfl
  have c11 := hA.get 11 rfl
  have c12 := hA.get 12 rfl
  have c13 := hA.get 13 rfl
  have c14 := hA.get 14 rfl
  have c15 := hA.get 15 rfl
  have c16 := hA.get 16 rfl
  have c17 := hA.get 17 rfl
  have hI' : ∀ y : Wd w1, ActIn y.w a := fun y => hI.q (Q.trans hq1 y.q)
  have hwl := hI.wrLen
  have b0 : (textB actT).size ≤ 20 := Nat.le_trans (textB_size actT) (by decide)
  have b1 := textB_size a.author
  have b2 := numB_size a.seq
  have b3 := textB_size a.prev
  have b4 := numB_size a.kind
  have b5 := numB_size a.time
  have q0 := sm.seq
  have q1 := sm.author
  have q2 := sm.prev
  have q5 := sm.kind
  have q6 := sm.time
  have f1 : (textB actT).size + (textB a.author).size ≤ 9223372036854775807 := by omega
  have f2 : (textB actT).size + (textB a.author).size + (numB a.seq).size ≤ 9223372036854775807 := by omega
  have f3 : (textB actT).size + (textB a.author).size + (numB a.seq).size + (textB a.prev).size ≤ 9223372036854775807 := by omega
  have f4 : (textB actT).size + (textB a.author).size + (numB a.seq).size + (textB a.prev).size + (numB a.kind).size ≤ 9223372036854775807 := by omega
  have f5 : (textB actT).size + (textB a.author).size + (numB a.seq).size + (textB a.prev).size + (numB a.kind).size + (numB a.time).size ≤ 9223372036854775807 := by omega
  clear hA
  go_enter Tryz.func220, Tryz.ntmps220
  go_wp2_with (first | (refine wpList_load_run 38 (.tmp 1) (.pointer (some ⟨w.heap.size, 0, none⟩)) (.agg (actA a)) ?_ ?_ ?_ ?_ ?_; rfl; rfl; rfl; exact hL _) | (go_at_call 170; refine (ractRight_any _ _ (hI' _) ho).mono ?_; rintro e w' ⟨rfl, hq2⟩; obtain ⟨y, rfl⟩ := Wd.next _ hq2; clear hq2))
  refine wp_region_wd y (by kernel_rfl) (by kernel_rfl) ?_
  repeat (go_big_quiet_step (first | (go_at_call 106; exact Wd.call _ (RNum_any _ _ (by omega))) | (go_at_call 108; exact Wd.call _ (RText_any _ _ (by omega))) | exact Wd.call _ (RText_any actT _ (by decide))))
  refine wpQuiet_nil ?_
  rintro w'' ⟨y4, rfl⟩
  clear f1 f2 f3 f4 f5
  generalize hS4 : ((((textB actT ++ textB a.author) ++ numB a.seq) ++ textB a.prev) ++ numB a.kind) ++ numB a.time = S4
  have s4 : S4.size ≤ 400 := by rw [← hS4]; simp only [ByteArray.size_append]; omega
  have H4 := Lib.hid hS4
  clear hS4 b0 b1 b2 b3 b4 b5
  have b6 := textB_size a.object
  have b7 := textB_size a.target
  have b8 := numB_size a.scope
  have b9 := textB_size a.group
  have b10 := listL_le a.to 16 sm.ids
  have b10' := listB_size a.to
  have b11 := textB_size a.text
  have q3 := sm.object
  have q4 := sm.target
  have q7 := sm.scope
  have q8 := sm.group
  have q9 := sm.to
  have q10 := sm.text
  have g1 : S4.size + (textB a.object).size ≤ 9223372036854775807 := by omega
  have g2 : S4.size + (textB a.object).size + (textB a.target).size ≤ 9223372036854775807 := by omega
  have g3 : S4.size + (textB a.object).size + (textB a.target).size + (numB a.scope).size ≤ 9223372036854775807 := by omega
  have g4 : S4.size + (textB a.object).size + (textB a.target).size + (numB a.scope).size + (textB a.group).size ≤ 9223372036854775807 := by omega
  have g5 : S4.size + (textB a.object).size + (textB a.target).size + (numB a.scope).size + (textB a.group).size + (listB a.to).size ≤ 9223372036854775807 := by omega
  have g6 : S4.size + (textB a.object).size + (textB a.target).size + (numB a.scope).size + (textB a.group).size + (listB a.to).size + (textB a.text).size ≤ 9223372036854775807 := by omega
  go_wp2
  refine wp_region_wd y4 (by kernel_rfl) (by kernel_rfl) ?_
  repeat (go_big_quiet_step (first | (go_at_call 106; exact Wd.call _ (RNum_any _ _ (by omega))) | (go_at_call 108; exact Wd.call _ (RText_any _ _ (by omega))) | (go_at_call 56; exact Wd.call _ (RList_any _ _ _ _ (hI' _).to (by omega) (by omega)))))
  refine wpQuiet_nil ?_
  rintro w'' ⟨y5, rfl⟩
  clear g1 g2 g3 g4 g5 g6
  generalize hS5 : (((((S4 ++ textB a.object) ++ textB a.target) ++ numB a.scope) ++ textB a.group) ++ listB a.to) ++ textB a.text = S5
  have s5 : S5.size ≤ 4000 := by rw [← hS5]; simp only [ByteArray.size_append]; omega
  have H5 := Lib.hid hS5
  clear hS5 b6 b7 b8 b9 b10 b10' b11 s4
  have b12 := boxL_le a.bn a.bd a.bt
  have b12' := box_size a.bn a.bd a.bt
  have b13 := numB_size a.epoch
  have b14 := numB_size a.wraps.length
  have q11 := sm.body
  have q12 := sm.epoch
  have q13 := sm.wraps
  have g0 : S5.size + (⟨(boxL a.bn a.bd a.bt).toArray⟩ : ByteArray).size ≤ 9223372036854775807 := by omega
  have g1 : S5.size + (⟨(boxL a.bn a.bd a.bt).toArray⟩ : ByteArray).size + (numB a.epoch).size ≤ 9223372036854775807 := by omega
  have g2 : S5.size + (⟨(boxL a.bn a.bd a.bt).toArray⟩ : ByteArray).size + (numB a.epoch).size + (numB (a.wraps.length : Int)).size ≤ 9223372036854775807 := by omega
  go_wp2
  refine wp_region_wd y5 (by kernel_rfl) (by kernel_rfl) ?_
  repeat (go_big_quiet_step (first | (go_at_call 106; exact Wd.call _ (RNum_any _ _ (by omega))) | (go_at_call 108; exact Wd.call _ (RText_any _ _ (by omega))) | (go_at_call 251; exact Wd.call _ (rbox_any _ _ _ _ (by omega)))))
  refine wpQuiet_nil ?_
  rintro w'' ⟨y6, rfl⟩
  clear g0 g1 g2
  generalize hS6 : ((S5 ++ (⟨(boxL a.bn a.bd a.bt).toArray⟩ : ByteArray)) ++ numB a.epoch) ++ numB (a.wraps.length : Int) = S6
  have s6 : S6.size ≤ 5000 := by rw [← hS6]; simp only [ByteArray.size_append]; omega
  have H6 := Lib.hid hS6
  clear hS6 b12 b12' b13 b14 s5
  clear q0 q1 q2 q3 q4 q5 q6 q7 q8 q9 q10 q11 q12 c0 c1 c2 c3 c4 c5 c6 c7 c8 c9 c10 c11 c12 c13 c14 hL
  go_wp2
  go_loopw [4, 5] (fun s i wr => ∃ (k : Nat) (z : Wd w1) (S : ByteArray), s = .string S ∧ i = .int .i64 k ∧ wr = z.w ∧ k ≤ a.wraps.length ∧ Hid (S.data.toList = S6.data.toList ++ (a.wraps.take k).flatMap wrapL)) (fun _ i _ => a.wraps.length - (intOf i).toNat)
  case atStart => exact ⟨0, y6, S6, rfl, rfl, rfl, Nat.zero_le _, Lib.hid (by simp)⟩
  case round =>
    obtain ⟨k, z, S, rfl, rfl, rfl, hk, hS⟩ := hrel
    have hSz : S.size ≤ 5000 + 64 * 600 := by
      have h1 := congrArg List.length hS.out
      rw [List.length_append, ba_length, ba_length] at h1
      have h2 := flat_le wrapL 600 (a.wraps.take k) fun v hv => wrapL_le v (sm.each v (List.mem_of_mem_take hv))
      rw [List.length_take] at h2
      have h3 := Nat.mul_le_mul_right 600 (show min k a.wraps.length ≤ 64 by omega)
      omega
    by_cases hlt : k < a.wraps.length
    · obtain ⟨b, o, hwA, hb, hcell⟩ := (hI.wraps.q hq1) (by omega)
      have hv := sm.each _ (List.getElem_mem hlt)
      have hst : (a.wraps.take (k + 1)).flatMap wrapL = (a.wraps.take k).flatMap wrapL ++ wrapL a.wraps[k] := by
        rw [List.take_succ_eq_append_getElem hlt, List.flatMap_append]
        simp
      have k0 := Wd.get (w0 := w1) hb (hcell k hlt) 0 rfl
      have k1 := Wd.get (w0 := w1) hb (hcell k hlt) 1 rfl
      have k2 := Wd.get (w0 := w1) hb (hcell k hlt) 2 rfl
      have k3 := Wd.get (w0 := w1) hb (hcell k hlt) 3 rfl
      have k4 := Wd.get (w0 := w1) hb (hcell k hlt) 4 rfl
      simp only [Nat.add_zero] at k0
      have HST := Lib.hid hst
      clear hst hcell
      generalize a.wraps[k] = v at *
      rw [hwA] at c15
      simp only [wrapOk, Bool.and_eq_true] at hv
      have p1 := publicB_facts hv.1
      have p2 := publicB_facts hv.2.1
      have p3 := sealedB_facts hv.2.2
      have n1 := numB_size v.to
      have n2 := numB_size v.eph
      have n3 := boxL_le v.n v.d v.t
      have n3' := box_size v.n v.d v.t
      have g0 : S.size + (numB v.to).size ≤ 9223372036854775807 := by omega
      have g1 : S.size + (numB v.to).size + (numB v.eph).size ≤ 9223372036854775807 := by omega
      have g2 : S.size + (numB v.to).size + (numB v.eph).size + (⟨(boxL v.n v.d v.t).toArray⟩ : ByteArray).size ≤ 9223372036854775807 := by omega
      have hk0 : (0 : Int) ≤ (k : Int) := by omega
      have hk1 : (k : Int) < (a.wraps.length : Int) := by omega
      go_wp2
      refine wp_region_wd z (by kernel_rfl) (by kernel_rfl) ?_
      repeat (go_big_quiet_step (first | (go_at_call 106; exact Wd.call _ (RNum_any _ _ (by omega))) | (go_at_call 251; exact Wd.call _ (rbox_any _ _ _ _ (by omega)))))
      refine wpQuiet_nil ?_
      rintro w'' ⟨y7, rfl⟩
      go_wp2
      exact ⟨⟨k + 1, y7, _, rfl, by go_num, rfl, by omega, Lib.hid (by
        rw [HST.out, ba_append, ba_append, ba_append, hS.out, ba_list]
        simp only [wrapL, numL_eq, List.append_assoc])⟩, by simp only [intOf]; omega⟩
    · have hks : k = a.wraps.length := by omega
      have n1 := numB_size a.n
      have n2 := numB_size a.m
      have p1 := sm.n
      have p2 := sm.m
      have g0 : S.size + (numB a.n).size ≤ 9223372036854775807 := by omega
      have g1 : S.size + (numB a.n).size + (numB a.m).size ≤ 9223372036854775807 := by omega
      have HF : Hid ((S ++ numB a.n) ++ numB a.m = actCore a) := Lib.hid (by
        have h1 := hS.out
        rw [hks, List.take_length] at h1
        rw [HR.out]
        apply ba_ext
        rw [ba_append, ba_append, h1, ← H6.out, ← H5.out, ← H4.out, ba_list]
        simp only [ba_append, textB_list, numL_eq, listB_list, ba_list, coreL, List.append_assoc])
      clear hks hS
      go_wp2
      refine wp_region_wd z (by kernel_rfl) (by kernel_rfl) ?_
      repeat (go_big_quiet_step ((go_at_call 106; exact Wd.call _ (RNum_any _ _ (by omega)))))
      refine wpQuiet_nil ?_
      rintro w'' ⟨y7, rfl⟩
      go_wp2
      go_ret
      exact ⟨by rw [← HF.out]; rfl, Q.trans hq1 y7.q⟩
theorem rcore_any (a : ActR) (w : World) (hI : ActIn w a) (ho : ActOk a) : Calls Tryz.prog 220 #[.agg (actA a)] w fun e w' => e = .returned (.string (actCore a)) ∧ Q w w' := by
  cases h : actRight a
  · exact rcore_no a w hI ho h
  · exact rcore_yes a w hI ho h
set_option maxHeartbeats 2000000 in
theorem ractBytes_any (a : ActR) (w : World) (hI : ActIn w a) (ho : ActOk a) : Calls Tryz.prog 160 #[.agg (actA a)] w fun e w' => e = .returned (.string (actBytes a)) ∧ Q w w' := by
  obtain ⟨w1, x, hx, hq1, hA⟩ := ActAt.box w a 38
  have hL := hA.load
  have c18 := hA.get 18 rfl
  have c19 := hA.get 19 rfl
  have hem := actCore_empty a
  clear hA
  cases h : actRight a
  · rw [h] at hem
    have HR : Hid (actBytes a = ⟨#[]⟩) := Lib.hid (by unfold actBytes; rw [h]; rfl)
    clear h
    go_enter Tryz.func160, Tryz.ntmps160
    go_wp2_with (first | (refine wpList_load_run 38 (.tmp 1) (.pointer (some ⟨w.heap.size, 0, none⟩)) (.agg (actA a)) ?_ ?_ ?_ ?_ ?_; rfl; rfl; rfl; exact hL _) | (go_at_call 220; refine (rcore_any _ _ (hI.q (Q.trans hq1 (Wd.q _))) ho).mono ?_; rintro e w' ⟨rfl, hq2⟩; obtain ⟨y, rfl⟩ := Wd.next _ hq2; clear hq2))
    go_ret
    exact ⟨by rw [HR.out]; rfl, Q.trans hq1 (Wd.q _)⟩
  · rw [h] at hem
    have sm := act_small h
    have p1 := sm.e
    have p2 := sm.s
    have hsz : (actCore a).size ≤ 60000 := by unfold actCore; rw [h, if_pos rfl, ba_size]; exact coreL_le a h
    have HR : Hid ((actCore a ++ numB a.e) ++ numB a.s = actBytes a) := Lib.hid (by
      unfold actBytes actCore
      rw [h, if_pos rfl, if_pos rfl]
      apply ba_ext
      rw [ba_append, ba_append, ba_list, ba_list, numL_eq, numL_eq, List.append_assoc])
    have n1 := numB_size a.e
    have n2 := numB_size a.s
    have g0 : (actCore a).size + (numB a.e).size ≤ 9223372036854775807 := by omega
    have g1 : (actCore a).size + (numB a.e).size + (numB a.s).size ≤ 9223372036854775807 := by omega
    clear h sm
    go_enter Tryz.func160, Tryz.ntmps160
    go_wp2_with (first | (refine wpList_load_run 38 (.tmp 1) (.pointer (some ⟨w.heap.size, 0, none⟩)) (.agg (actA a)) ?_ ?_ ?_ ?_ ?_; rfl; rfl; rfl; exact hL _) | (go_at_call 220; refine (rcore_any _ _ (hI.q (Q.trans hq1 (Wd.q _))) ho).mono ?_; rintro e w' ⟨rfl, hq2⟩; obtain ⟨y, rfl⟩ := Wd.next _ hq2; clear hq2))
    refine wp_region_wd _ (by kernel_rfl) (by kernel_rfl) ?_
    repeat (go_big_quiet_step ((go_at_call 106; exact Wd.call _ (RNum_any _ _ (by omega)))))
    refine wpQuiet_nil ?_
    rintro w'' ⟨y7, rfl⟩
    go_wp2
    go_ret
    exact ⟨by rw [← HR.out]; rfl, Q.trans hq1 y7.q⟩
end Go.Proofs.YtomkeaeegdjhnaaGreatDoor.Item

namespace Go.Proofs.YtomkeaeegdjhnaaGreatDoor.Item
open Go.RowKit Grp Mem _root_.Go.Proofs.YtomkeaeegdjhnaaGreatDoor.Code Sha Sign _root_.Go.Proofs.YtomkeaeegdjhnaaGreatDoor.Known

theorem ways7b (b1 b2 b3 b4 b5 b6 b7 : Bool) : (b1 = false ∨ (b1 = true ∧ b2 = false) ∨ (b1 = true ∧ b2 = true ∧ b3 = false) ∨ (b1 = true ∧ b2 = true ∧ b3 = true ∧ b4 = false) ∨ (b1 = true ∧ b2 = true ∧ b3 = true ∧ b4 = true ∧ b5 = false) ∨ (b1 = true ∧ b2 = true ∧ b3 = true ∧ b4 = true ∧ b5 = true ∧ b6 = false) ∨
      (b1 = true ∧ b2 = true ∧ b3 = true ∧ b4 = true ∧ b5 = true ∧ b6 = true ∧ b7 = false)) ∨ (b1 = true ∧ b2 = true ∧ b3 = true ∧ b4 = true ∧ b5 = true ∧ b6 = true ∧ b7 = true) := by
  cases b1 <;> cases b2 <;> cases b3 <;> cases b4 <;> cases b5 <;> cases b6 <;> cases b7 <;> simp
theorem terms_kind {d : DecR} (h : termsB d = true) : withinB d.kind 0 9 = true := by
  unfold termsB at h
  simp only [withinB, Bool.and_eq_true, decide_eq_true_eq]
  by_cases h1 : d.kind = 0 ∨ d.kind = 1 ∨ d.kind = 4 ∨ d.kind = 6 ∨ d.kind = 7
  · omega
  rw [if_neg h1] at h
  by_cases h2 : d.kind = 2 ∨ d.kind = 3 ∨ d.kind = 5
  · omega
  rw [if_neg h2] at h
  by_cases h3 : d.kind = 8
  · omega
  rw [if_neg h3] at h
  by_cases h4 : d.kind = 9
  · omega
  rw [if_neg h4] at h
  cases h
theorem rdecided_any (d : DecR) (w : World) (hI : DecIn w d) (ho : DecOk d) : Calls Tryz.prog 173 #[.agg (decA d)] w fun e w' => e = .returned (.bool (decRight d)) ∧ Q w w' := by
  rcases ways7b (withinB d.server 0 19) (withinB d.number 0 1073741824) (withinB d.kind 0 9) (withinB d.start 0 1099511627776) (withinB d.stop 0 1099511627776) (decide (d.start < d.stop)) (inOrd d.e && inOrd d.s) with h | ⟨g1, g2, g3, g4, g5, g6, g7⟩
  · have HR : decRight d = false := by
      cases hd : decRight d
      · rfl
      · exfalso
        unfold decRight at hd
        simp only [Bool.and_eq_true] at hd
        obtain ⟨d1, d2, d3, d4, d5, d6, d7, d8⟩ := hd
        have d9 := terms_kind d6
        rw [d1, d2, d3, d4, d5, d7, d8, d9] at h
        simp at h
    rw [HR]
    exact rdecided_out d w hI ho h
  · have HR : decRight d = termsB d := by
      unfold decRight
      rw [g1, g2, g4, g5, g6, g7]
      simp
    rw [HR]
    have g6 := of_decide_eq_true g6
    have h2 : 0 ≤ d.kind ∧ d.kind ≤ 9 := by simpa [withinB] using g3
    rcases (show d.kind = 0 ∨ d.kind = 1 ∨ d.kind = 2 ∨ d.kind = 3 ∨ d.kind = 4 ∨ d.kind = 5 ∨ d.kind = 6 ∨ d.kind = 7 ∨ d.kind = 8 ∨ d.kind = 9 by omega) with k | k | k | k | k | k | k | k | k | k
    · exact rdecided_0 d w hI ho k g1 g2 g3 g4 g5 g6 g7
    · exact rdecided_1 d w hI ho k g1 g2 g3 g4 g5 g6 g7
    · exact rdecided_2 d w hI ho k g1 g2 g3 g4 g5 g6 g7
    · exact rdecided_3 d w hI ho k g1 g2 g3 g4 g5 g6 g7
    · exact rdecided_4 d w hI ho k g1 g2 g3 g4 g5 g6 g7
    · exact rdecided_5 d w hI ho k g1 g2 g3 g4 g5 g6 g7
    · exact rdecided_6 d w hI ho k g1 g2 g3 g4 g5 g6 g7
    · exact rdecided_7 d w hI ho k g1 g2 g3 g4 g5 g6 g7
    · exact rdecided_8 d w hI ho k g1 g2 g3 g4 g5 g6 g7
    · exact rdecided_9 d w hI ho k g1 g2 g3 g4 g5 g6 g7

set_option maxRecDepth 100000 in
theorem zAct (w : World) : (Instr.build 38 #[]).run Tryz.prog w = .ok (.agg (actA act0)) w := by kernel_rfl
set_option maxRecDepth 100000 in
theorem zClaim (w : World) : (Instr.build 40 #[]).run Tryz.prog w = .ok (.agg (claimA claim0)) w := by kernel_rfl
set_option maxRecDepth 100000 in
theorem zBallot (w : World) : (Instr.build 42 #[]).run Tryz.prog w = .ok (.agg (ballotA ballot0)) w := by kernel_rfl
set_option maxRecDepth 100000 in
theorem zDecision (w : World) : (Instr.build 44 #[]).run Tryz.prog w = .ok (.agg (decA dec0)) w := by kernel_rfl
open Go.Op Go.Instr in
theorem claimEq0 (c : ClaimV) (w : World) : (binOp .eql 40 (.agg (claimA c)) (.agg #[.string ⟨#[]⟩, .int .i64 0, .string ⟨#[]⟩, .int .i64 0, .int .i64 0, .int .i64 0, .int .i64 0, .int .i64 0, .int .i64 0])).run Tryz.prog w = .ok (.bool (c.same claim0)) w := claimEq c claim0 w
open Go.Op Go.Instr in
theorem ballotEq0 (c : BallotV) (w : World) : (binOp .eql 42 (.agg (ballotA c)) (.agg #[.int .i64 0, .string ⟨#[]⟩, .int .i64 0, .string ⟨#[]⟩, .int .i64 0, .int .i64 0, .int .i64 0])).run Tryz.prog w = .ok (.bool (c.same ballot0)) w := ballotEq c ballot0 w
set_option maxRecDepth 100000 in
set_option maxHeartbeats 4000000 in
theorem rright_0 (i : ItemR) (w : World) (hI : ItemIn w i) (ho : ItemOk i) (hk : i.kind = 0) : Calls Tryz.prog 123 #[.agg (itA i)] w fun e w' => e = .returned (.bool (itemRight i)) ∧ Q w w' := by
  obtain ⟨w1, x, hx, hq1, hl, hr⟩ := boxed w 46 i.cells
  have hx : w.alloc (.cells (itA i) 46) = x.w := hx
  have hAct := item_act hl hr
  have hClaim := item_claim hl hr
  have hBallot := item_ballot hl hr
  have hDecision := item_dec hl hr
  have c0 := Wd.at0 hl hr 0 rfl
  have hI' : ∀ y : Wd w1, ItemIn y.w i := fun y => hI.q (Q.trans hq1 y.q)
  have hE1 := claimEq0
  have hE2 := ballotEq0
  clear hl hr
  rw [hk] at c0
  have HK := Lib.hid hk
  clear hk
  go_enter Tryz.func123, Tryz.ntmps123
  go_wp2_with (first | (refine wpList_load_run 38 (.tmp 8) (.pointer (some ⟨w.heap.size, 1, none⟩)) (.agg (actA i.act)) ?_ ?_ ?_ ?_ ?_; rfl; rfl; rfl; exact hAct _) | (refine wpList_load_run 40 (.tmp 12) (.pointer (some ⟨w.heap.size, 21, none⟩)) (.agg (claimA i.claim)) ?_ ?_ ?_ ?_ ?_; rfl; rfl; rfl; exact hClaim _) | (refine wpList_load_run 42 (.tmp 16) (.pointer (some ⟨w.heap.size, 30, none⟩)) (.agg (ballotA i.ballot)) ?_ ?_ ?_ ?_ ?_; rfl; rfl; rfl; exact hBallot _) | (refine wpList_load_run 44 (.tmp 20) (.pointer (some ⟨w.heap.size, 37, none⟩)) (.agg (decA i.dec)) ?_ ?_ ?_ ?_ ?_; rfl; rfl; rfl; exact hDecision _) | (refine wpList_build_run 38 _ #[] (.agg (actA act0)) rfl ?_ ?_ (zAct _) ?_; rfl; (simp; done)) | (refine wpList_build_run 40 _ #[] (.agg (claimA claim0)) rfl ?_ ?_ (zClaim _) ?_; rfl; (simp; done)) | (refine wpList_build_run 42 _ #[] (.agg (ballotA ballot0)) rfl ?_ ?_ (zBallot _) ?_; rfl; (simp; done)) | (refine wpList_build_run 44 _ #[] (.agg (decA dec0)) rfl ?_ ?_ (zDecision _) ?_; rfl; (simp; done)) | (go_at_call 73; refine (ractSame_any i.act act0 _ (hI' _).act (act0_in _)).mono ?_; rintro e w' ⟨rfl, hq2⟩; obtain ⟨y, rfl⟩ := Wd.next _ hq2; clear hq2) | (go_at_call 74; refine (rdecSame_any i.dec dec0 _ (hI' _).dec (dec0_in _)).mono ?_; rintro e w' ⟨rfl, hq2⟩; obtain ⟨y, rfl⟩ := Wd.next _ hq2; clear hq2) | (refine wpList_load_run 38 (.tmp 28) (.pointer (some ⟨w.heap.size, 1, none⟩)) (.agg (actA i.act)) ?_ ?_ ?_ ?_ ?_; rfl; rfl; rfl; exact hAct _) | (go_at_call 170; refine (ractRight_any i.act _ (hI' _).act ho.act).mono ?_; rintro e w' ⟨rfl, hq2⟩; obtain ⟨y, rfl⟩ := Wd.next _ hq2; clear hq2))
  all_goals
    go_ret
    refine ⟨?_, Q.trans hq1 (Wd.q _)⟩
    have hk := HK.out
    clear hAct hClaim hBallot hDecision c0 hx hE1 hE2 hI'
    simp_all [itemRight]
set_option maxRecDepth 100000 in
set_option maxHeartbeats 4000000 in
theorem rright_1 (i : ItemR) (w : World) (hI : ItemIn w i) (ho : ItemOk i) (hk : i.kind = 1) : Calls Tryz.prog 123 #[.agg (itA i)] w fun e w' => e = .returned (.bool (itemRight i)) ∧ Q w w' := by
  obtain ⟨w1, x, hx, hq1, hl, hr⟩ := boxed w 46 i.cells
  have hx : w.alloc (.cells (itA i) 46) = x.w := hx
  have hAct := item_act hl hr
  have hClaim := item_claim hl hr
  have hBallot := item_ballot hl hr
  have hDecision := item_dec hl hr
  have c0 := Wd.at0 hl hr 0 rfl
  have hI' : ∀ y : Wd w1, ItemIn y.w i := fun y => hI.q (Q.trans hq1 y.q)
  have hE1 := claimEq0
  have hE2 := ballotEq0
  clear hl hr
  rw [hk] at c0
  have HK := Lib.hid hk
  clear hk
  go_enter Tryz.func123, Tryz.ntmps123
  go_wp2_with (first | (refine wpList_load_run 38 (.tmp 8) (.pointer (some ⟨w.heap.size, 1, none⟩)) (.agg (actA i.act)) ?_ ?_ ?_ ?_ ?_; rfl; rfl; rfl; exact hAct _) | (refine wpList_load_run 40 (.tmp 12) (.pointer (some ⟨w.heap.size, 21, none⟩)) (.agg (claimA i.claim)) ?_ ?_ ?_ ?_ ?_; rfl; rfl; rfl; exact hClaim _) | (refine wpList_load_run 42 (.tmp 16) (.pointer (some ⟨w.heap.size, 30, none⟩)) (.agg (ballotA i.ballot)) ?_ ?_ ?_ ?_ ?_; rfl; rfl; rfl; exact hBallot _) | (refine wpList_load_run 44 (.tmp 20) (.pointer (some ⟨w.heap.size, 37, none⟩)) (.agg (decA i.dec)) ?_ ?_ ?_ ?_ ?_; rfl; rfl; rfl; exact hDecision _) | (refine wpList_build_run 38 _ #[] (.agg (actA act0)) rfl ?_ ?_ (zAct _) ?_; rfl; (simp; done)) | (refine wpList_build_run 40 _ #[] (.agg (claimA claim0)) rfl ?_ ?_ (zClaim _) ?_; rfl; (simp; done)) | (refine wpList_build_run 42 _ #[] (.agg (ballotA ballot0)) rfl ?_ ?_ (zBallot _) ?_; rfl; (simp; done)) | (refine wpList_build_run 44 _ #[] (.agg (decA dec0)) rfl ?_ ?_ (zDecision _) ?_; rfl; (simp; done)) | (go_at_call 73; refine (ractSame_any i.act act0 _ (hI' _).act (act0_in _)).mono ?_; rintro e w' ⟨rfl, hq2⟩; obtain ⟨y, rfl⟩ := Wd.next _ hq2; clear hq2) | (go_at_call 74; refine (rdecSame_any i.dec dec0 _ (hI' _).dec (dec0_in _)).mono ?_; rintro e w' ⟨rfl, hq2⟩; obtain ⟨y, rfl⟩ := Wd.next _ hq2; clear hq2) | (refine wpList_load_run 40 (.tmp 43) (.pointer (some ⟨w.heap.size, 21, none⟩)) (.agg (claimA i.claim)) ?_ ?_ ?_ ?_ ?_; rfl; rfl; rfl; exact hClaim _) | (go_at_call 171; refine (rclaimed_any i.claim _ ho.claim).mono ?_; rintro e w' ⟨rfl, hq2⟩; obtain ⟨y, rfl⟩ := Wd.next _ hq2; clear hq2))
  all_goals
    go_ret
    refine ⟨?_, Q.trans hq1 (Wd.q _)⟩
    have hk := HK.out
    clear hAct hClaim hBallot hDecision c0 hx hE1 hE2 hI'
    simp_all [itemRight]
set_option maxRecDepth 100000 in
set_option maxHeartbeats 4000000 in
theorem rright_2 (i : ItemR) (w : World) (hI : ItemIn w i) (ho : ItemOk i) (hk : i.kind = 2) : Calls Tryz.prog 123 #[.agg (itA i)] w fun e w' => e = .returned (.bool (itemRight i)) ∧ Q w w' := by
  obtain ⟨w1, x, hx, hq1, hl, hr⟩ := boxed w 46 i.cells
  have hx : w.alloc (.cells (itA i) 46) = x.w := hx
  have hAct := item_act hl hr
  have hClaim := item_claim hl hr
  have hBallot := item_ballot hl hr
  have hDecision := item_dec hl hr
  have c0 := Wd.at0 hl hr 0 rfl
  have hI' : ∀ y : Wd w1, ItemIn y.w i := fun y => hI.q (Q.trans hq1 y.q)
  have hE1 := claimEq0
  have hE2 := ballotEq0
  clear hl hr
  rw [hk] at c0
  have HK := Lib.hid hk
  clear hk
  go_enter Tryz.func123, Tryz.ntmps123
  go_wp2_with (first | (refine wpList_load_run 38 (.tmp 8) (.pointer (some ⟨w.heap.size, 1, none⟩)) (.agg (actA i.act)) ?_ ?_ ?_ ?_ ?_; rfl; rfl; rfl; exact hAct _) | (refine wpList_load_run 40 (.tmp 12) (.pointer (some ⟨w.heap.size, 21, none⟩)) (.agg (claimA i.claim)) ?_ ?_ ?_ ?_ ?_; rfl; rfl; rfl; exact hClaim _) | (refine wpList_load_run 42 (.tmp 16) (.pointer (some ⟨w.heap.size, 30, none⟩)) (.agg (ballotA i.ballot)) ?_ ?_ ?_ ?_ ?_; rfl; rfl; rfl; exact hBallot _) | (refine wpList_load_run 44 (.tmp 20) (.pointer (some ⟨w.heap.size, 37, none⟩)) (.agg (decA i.dec)) ?_ ?_ ?_ ?_ ?_; rfl; rfl; rfl; exact hDecision _) | (refine wpList_build_run 38 _ #[] (.agg (actA act0)) rfl ?_ ?_ (zAct _) ?_; rfl; (simp; done)) | (refine wpList_build_run 40 _ #[] (.agg (claimA claim0)) rfl ?_ ?_ (zClaim _) ?_; rfl; (simp; done)) | (refine wpList_build_run 42 _ #[] (.agg (ballotA ballot0)) rfl ?_ ?_ (zBallot _) ?_; rfl; (simp; done)) | (refine wpList_build_run 44 _ #[] (.agg (decA dec0)) rfl ?_ ?_ (zDecision _) ?_; rfl; (simp; done)) | (go_at_call 73; refine (ractSame_any i.act act0 _ (hI' _).act (act0_in _)).mono ?_; rintro e w' ⟨rfl, hq2⟩; obtain ⟨y, rfl⟩ := Wd.next _ hq2; clear hq2) | (go_at_call 74; refine (rdecSame_any i.dec dec0 _ (hI' _).dec (dec0_in _)).mono ?_; rintro e w' ⟨rfl, hq2⟩; obtain ⟨y, rfl⟩ := Wd.next _ hq2; clear hq2) | (refine wpList_load_run 42 (.tmp 57) (.pointer (some ⟨w.heap.size, 30, none⟩)) (.agg (ballotA i.ballot)) ?_ ?_ ?_ ?_ ?_; rfl; rfl; rfl; exact hBallot _) | (go_at_call 172; refine (rvoted_any i.ballot _ ho.ballot).mono ?_; rintro e w' ⟨rfl, hq2⟩; obtain ⟨y, rfl⟩ := Wd.next _ hq2; clear hq2))
  all_goals
    go_ret
    refine ⟨?_, Q.trans hq1 (Wd.q _)⟩
    have hk := HK.out
    clear hAct hClaim hBallot hDecision c0 hx hE1 hE2 hI'
    simp_all [itemRight]
set_option maxRecDepth 100000 in
set_option maxHeartbeats 4000000 in
theorem rright_3 (i : ItemR) (w : World) (hI : ItemIn w i) (ho : ItemOk i) (hk : i.kind = 3) : Calls Tryz.prog 123 #[.agg (itA i)] w fun e w' => e = .returned (.bool (itemRight i)) ∧ Q w w' := by
  obtain ⟨w1, x, hx, hq1, hl, hr⟩ := boxed w 46 i.cells
  have hx : w.alloc (.cells (itA i) 46) = x.w := hx
  have hAct := item_act hl hr
  have hClaim := item_claim hl hr
  have hBallot := item_ballot hl hr
  have hDecision := item_dec hl hr
  have c0 := Wd.at0 hl hr 0 rfl
  have hI' : ∀ y : Wd w1, ItemIn y.w i := fun y => hI.q (Q.trans hq1 y.q)
  have hE1 := claimEq0
  have hE2 := ballotEq0
  clear hl hr
  rw [hk] at c0
  have HK := Lib.hid hk
  clear hk
  go_enter Tryz.func123, Tryz.ntmps123
  go_wp2_with (first | (refine wpList_load_run 38 (.tmp 8) (.pointer (some ⟨w.heap.size, 1, none⟩)) (.agg (actA i.act)) ?_ ?_ ?_ ?_ ?_; rfl; rfl; rfl; exact hAct _) | (refine wpList_load_run 40 (.tmp 12) (.pointer (some ⟨w.heap.size, 21, none⟩)) (.agg (claimA i.claim)) ?_ ?_ ?_ ?_ ?_; rfl; rfl; rfl; exact hClaim _) | (refine wpList_load_run 42 (.tmp 16) (.pointer (some ⟨w.heap.size, 30, none⟩)) (.agg (ballotA i.ballot)) ?_ ?_ ?_ ?_ ?_; rfl; rfl; rfl; exact hBallot _) | (refine wpList_load_run 44 (.tmp 20) (.pointer (some ⟨w.heap.size, 37, none⟩)) (.agg (decA i.dec)) ?_ ?_ ?_ ?_ ?_; rfl; rfl; rfl; exact hDecision _) | (refine wpList_build_run 38 _ #[] (.agg (actA act0)) rfl ?_ ?_ (zAct _) ?_; rfl; (simp; done)) | (refine wpList_build_run 40 _ #[] (.agg (claimA claim0)) rfl ?_ ?_ (zClaim _) ?_; rfl; (simp; done)) | (refine wpList_build_run 42 _ #[] (.agg (ballotA ballot0)) rfl ?_ ?_ (zBallot _) ?_; rfl; (simp; done)) | (refine wpList_build_run 44 _ #[] (.agg (decA dec0)) rfl ?_ ?_ (zDecision _) ?_; rfl; (simp; done)) | (go_at_call 73; refine (ractSame_any i.act act0 _ (hI' _).act (act0_in _)).mono ?_; rintro e w' ⟨rfl, hq2⟩; obtain ⟨y, rfl⟩ := Wd.next _ hq2; clear hq2) | (go_at_call 74; refine (rdecSame_any i.dec dec0 _ (hI' _).dec (dec0_in _)).mono ?_; rintro e w' ⟨rfl, hq2⟩; obtain ⟨y, rfl⟩ := Wd.next _ hq2; clear hq2) | (refine wpList_load_run 44 (.tmp 71) (.pointer (some ⟨w.heap.size, 37, none⟩)) (.agg (decA i.dec)) ?_ ?_ ?_ ?_ ?_; rfl; rfl; rfl; exact hDecision _) | (go_at_call 173; refine (rdecided_any i.dec _ (hI' _).dec ho.dec).mono ?_; rintro e w' ⟨rfl, hq2⟩; obtain ⟨y, rfl⟩ := Wd.next _ hq2; clear hq2))
  all_goals
    go_ret
    refine ⟨?_, Q.trans hq1 (Wd.q _)⟩
    have hk := HK.out
    clear hAct hClaim hBallot hDecision c0 hx hE1 hE2 hI'
    simp_all [itemRight]
set_option maxRecDepth 100000 in
set_option maxHeartbeats 4000000 in
theorem rright_no (i : ItemR) (w : World) (hI : ItemIn w i) (ho : ItemOk i) (k0 : ¬ i.kind = 0) (k1 : ¬ i.kind = 1) (k2 : ¬ i.kind = 2) (k3 : ¬ i.kind = 3) : Calls Tryz.prog 123 #[.agg (itA i)] w fun e w' => e = .returned (.bool (itemRight i)) ∧ Q w w' := by
  obtain ⟨w1, x, hx, hq1, hl, hr⟩ := boxed w 46 i.cells
  have hx : w.alloc (.cells (itA i) 46) = x.w := hx
  have hAct := item_act hl hr
  have hClaim := item_claim hl hr
  have hBallot := item_ballot hl hr
  have hDecision := item_dec hl hr
  have c0 := Wd.at0 hl hr 0 rfl
  have hI' : ∀ y : Wd w1, ItemIn y.w i := fun y => hI.q (Q.trans hq1 y.q)
  have hE1 := claimEq0
  have hE2 := ballotEq0
  clear hl hr
  have e0 : (i.kind == 0) = false := by simpa using k0
  have e1 : (i.kind == 1) = false := by simpa using k1
  have e2 : (i.kind == 2) = false := by simpa using k2
  have e3 : (i.kind == 3) = false := by simpa using k3
  have HR := Lib.hid (show itemRight i = false by unfold itemRight; rw [if_neg k0, if_neg k1, if_neg k2, if_neg k3])
  clear k0 k1 k2 k3
  go_enter Tryz.func123, Tryz.ntmps123
  go_wp2_with (first | (refine wpList_load_run 38 (.tmp 8) (.pointer (some ⟨w.heap.size, 1, none⟩)) (.agg (actA i.act)) ?_ ?_ ?_ ?_ ?_; rfl; rfl; rfl; exact hAct _) | (refine wpList_load_run 40 (.tmp 12) (.pointer (some ⟨w.heap.size, 21, none⟩)) (.agg (claimA i.claim)) ?_ ?_ ?_ ?_ ?_; rfl; rfl; rfl; exact hClaim _) | (refine wpList_load_run 42 (.tmp 16) (.pointer (some ⟨w.heap.size, 30, none⟩)) (.agg (ballotA i.ballot)) ?_ ?_ ?_ ?_ ?_; rfl; rfl; rfl; exact hBallot _) | (refine wpList_load_run 44 (.tmp 20) (.pointer (some ⟨w.heap.size, 37, none⟩)) (.agg (decA i.dec)) ?_ ?_ ?_ ?_ ?_; rfl; rfl; rfl; exact hDecision _) | (refine wpList_build_run 38 _ #[] (.agg (actA act0)) rfl ?_ ?_ (zAct _) ?_; rfl; (simp; done)) | (refine wpList_build_run 40 _ #[] (.agg (claimA claim0)) rfl ?_ ?_ (zClaim _) ?_; rfl; (simp; done)) | (refine wpList_build_run 42 _ #[] (.agg (ballotA ballot0)) rfl ?_ ?_ (zBallot _) ?_; rfl; (simp; done)) | (refine wpList_build_run 44 _ #[] (.agg (decA dec0)) rfl ?_ ?_ (zDecision _) ?_; rfl; (simp; done)) | (go_at_call 73; refine (ractSame_any i.act act0 _ (hI' _).act (act0_in _)).mono ?_; rintro e w' ⟨rfl, hq2⟩; obtain ⟨y, rfl⟩ := Wd.next _ hq2; clear hq2) | (go_at_call 74; refine (rdecSame_any i.dec dec0 _ (hI' _).dec (dec0_in _)).mono ?_; rintro e w' ⟨rfl, hq2⟩; obtain ⟨y, rfl⟩ := Wd.next _ hq2; clear hq2))
  all_goals
    go_ret
    refine ⟨?_, Q.trans hq1 (Wd.q _)⟩
    rw [HR.out]
    rfl
theorem rright_any (i : ItemR) (w : World) (hI : ItemIn w i) (ho : ItemOk i) : Calls Tryz.prog 123 #[.agg (itA i)] w fun e w' => e = .returned (.bool (itemRight i)) ∧ Q w w' := by
  by_cases k0 : i.kind = 0
  · exact rright_0 i w hI ho k0
  by_cases k1 : i.kind = 1
  · exact rright_1 i w hI ho k1
  by_cases k2 : i.kind = 2
  · exact rright_2 i w hI ho k2
  by_cases k3 : i.kind = 3
  · exact rright_3 i w hI ho k3
  exact rright_no i w hI ho k0 k1 k2 k3
set_option maxRecDepth 100000 in
set_option maxHeartbeats 4000000 in
theorem rbytes_no (i : ItemR) (w : World) (hI : ItemIn w i) (ho : ItemOk i) (h : itemRight i = false)  : Calls Tryz.prog 105 #[.agg (itA i)] w fun e w' => e = .returned (.string (itemBytes i)) ∧ Q w w' := by
  obtain ⟨w1, x, hx, hq1, hl, hr⟩ := boxed w 46 i.cells
  have hx : w.alloc (.cells (itA i) 46) = x.w := hx
  have hIt : ∀ y : Wd w1, (Instr.loadAt 46 (.pointer (some ⟨w.heap.size, 0, none⟩))).run Tryz.prog y.w = .ok (.agg (itA i)) y.w := Wd.load hl hr Tryz.underlying46 rfl (by kernel_rfl)
  have hI' : ∀ y : Wd w1, ItemIn y.w i := fun y => hI.q (Q.trans hq1 y.q)
  have HR : Hid (itemBytes i = ⟨#[]⟩) := Lib.hid (by unfold itemBytes; rw [h]; rfl)
  clear hr
  go_enter Tryz.func105, Tryz.ntmps105
  go_wp2_with (first | (refine wpList_load_run 46 (.tmp 1) (.pointer (some ⟨w.heap.size, 0, none⟩)) (.agg (itA i)) ?_ ?_ ?_ ?_ ?_; rfl; rfl; rfl; exact hIt _) | (go_at_call 123; refine (rright_any i _ (hI' _) ho).mono ?_; rintro e w' ⟨rfl, hq2⟩; obtain ⟨y, rfl⟩ := Wd.next _ hq2; clear hq2))
  go_ret
  exact ⟨by rw [HR.out]; rfl, Q.trans hq1 (Wd.q _)⟩
theorem cat_flat (n : Int) (l : List UInt8) (e s : Int) : ((numB n ++ (⟨l.toArray⟩ : ByteArray)) ++ (numB e ++ numB s)) = ⟨(numL n ++ (l ++ (numL e ++ numL s))).toArray⟩ := by
  apply ba_ext
  rw [ba_list]
  simp only [ba_append, ba_list, numL_eq, List.append_assoc]
set_option maxRecDepth 100000 in
set_option maxHeartbeats 4000000 in
theorem rbytes_act (i : ItemR) (w : World) (hI : ItemIn w i) (ho : ItemOk i) (h : itemRight i = true) (hk : i.kind = 0) : Calls Tryz.prog 105 #[.agg (itA i)] w fun e w' => e = .returned (.string (itemBytes i)) ∧ Q w w' := by
  obtain ⟨w1, x, hx, hq1, hl, hr⟩ := boxed w 46 i.cells
  have hx : w.alloc (.cells (itA i) 46) = x.w := hx
  have hIt : ∀ y : Wd w1, (Instr.loadAt 46 (.pointer (some ⟨w.heap.size, 0, none⟩))).run Tryz.prog y.w = .ok (.agg (itA i)) y.w := Wd.load hl hr Tryz.underlying46 rfl (by kernel_rfl)
  have hI' : ∀ y : Wd w1, ItemIn y.w i := fun y => hI.q (Q.trans hq1 y.q)
  have c0 := Wd.at0 hl hr 0 rfl
  rw [hk] at c0
  have hAct := item_act hl hr
  have hra := right_actB h hk
  have hab := actBytes_le hra
  have hn := numB_size 0
  have hsz : (numB 0).size + (actBytes i.act).size ≤ 9223372036854775807 := by omega
  have HR : Hid (numB 0 ++ actBytes i.act = itemBytes i) := Lib.hid (by unfold itemBytes itemBytesL; rw [h, if_pos rfl, if_pos hk, hk]; apply ba_ext; rw [ba_append, ba_list]; rfl)
  clear hr hk hra
  go_enter Tryz.func105, Tryz.ntmps105
  go_wp2_with (first | (refine wpList_load_run 46 (.tmp 1) (.pointer (some ⟨w.heap.size, 0, none⟩)) (.agg (itA i)) ?_ ?_ ?_ ?_ ?_; rfl; rfl; rfl; exact hIt _) | (go_at_call 123; refine (rright_any i _ (hI' _) ho).mono ?_; rintro e w' ⟨rfl, hq2⟩; obtain ⟨y, rfl⟩ := Wd.next _ hq2; clear hq2) | (go_at_call 106; refine (RNum_any _ _ (by omega)).mono ?_; rintro e w' ⟨rfl, hq2⟩; obtain ⟨y, rfl⟩ := Wd.next _ hq2; clear hq2) | (refine wpList_load_run 38 (.tmp 17) (.pointer (some ⟨w.heap.size, 1, none⟩)) (.agg (actA i.act)) ?_ ?_ ?_ ?_ ?_; rfl; rfl; rfl; exact hAct _) | (go_at_call 160; refine (ractBytes_any i.act _ (hI' _).act ho.act).mono ?_; rintro e w' ⟨rfl, hq2⟩; obtain ⟨y, rfl⟩ := Wd.next _ hq2; clear hq2))
  go_ret
  exact ⟨by rw [← HR.out]; rfl, Q.trans hq1 (Wd.q _)⟩
set_option maxRecDepth 100000 in
set_option maxHeartbeats 4000000 in
theorem rbytes_claim (i : ItemR) (w : World) (hI : ItemIn w i) (ho : ItemOk i) (h : itemRight i = true) (hk : i.kind = 1) : Calls Tryz.prog 105 #[.agg (itA i)] w fun e w' => e = .returned (.string (itemBytes i)) ∧ Q w w' := by
  obtain ⟨w1, x, hx, hq1, hl, hr⟩ := boxed w 46 i.cells
  have hx : w.alloc (.cells (itA i) 46) = x.w := hx
  have hIt : ∀ y : Wd w1, (Instr.loadAt 46 (.pointer (some ⟨w.heap.size, 0, none⟩))).run Tryz.prog y.w = .ok (.agg (itA i)) y.w := Wd.load hl hr Tryz.underlying46 rfl (by kernel_rfl)
  have hI' : ∀ y : Wd w1, ItemIn y.w i := fun y => hI.q (Q.trans hq1 y.q)
  have c0 := Wd.at0 hl hr 0 rfl
  rw [hk] at c0
  have ce := Wd.at0 hl hr 28 rfl
  have cs := Wd.at0 hl hr 29 rfl
  have hClaim := item_claim hl hr
  have sm := small_claim (show claimRight i.claim = true by unfold itemRight at h; simp [hk] at h; exact h.1)
  have hil := itemL_le i (small_right h (by omega))
  have hse : (sigV i).1 ≤ 9223372036854775807 ∧ (sigV i).2 ≤ 9223372036854775807 := sig_le h (by omega)
  have HR : Hid (((numB 1 ++ (⟨(claimL i.claim).toArray⟩ : ByteArray)) ++ (numB i.claim.e ++ numB i.claim.s)) = itemBytes i) := Lib.hid (by rw [cat_flat]; unfold itemBytes itemBytesL itemL sigV; simp [h, hk])
  have hil : (⟨(claimL i.claim).toArray⟩ : ByteArray).size ≤ 110000000 := by rw [ba_size]; unfold itemL at hil; simpa [hk] using hil
  have hse : i.claim.e ≤ 9223372036854775807 ∧ i.claim.s ≤ 9223372036854775807 := by unfold sigV at hse; simpa [hk] using hse
  have hCo : ∀ y : Wd w1, Calls Tryz.prog 161 #[.agg (claimA i.claim)] y.w fun e w' => e = .returned (.string (⟨(claimL i.claim).toArray⟩ : ByteArray)) ∧ Q y.w w' := fun y => rcoreClaim_any i.claim y.w sm.1 sm.2.1 ⟨sm.2.2 _ (by simp), sm.2.2 _ (by simp), sm.2.2 _ (by simp), sm.2.2 _ (by simp), sm.2.2 _ (by simp)⟩
  have hSi : ∀ y : Wd w1, Calls Tryz.prog 162 #[.agg #[.int .i64 i.claim.e, .int .i64 i.claim.s]] y.w fun e w' => e = .returned (.string (numB i.claim.e ++ numB i.claim.s)) ∧ Q y.w w' := fun y => rsigBytes_any _ _ y.w hse.1 hse.2
  have n0 := numB_size 1
  have n1 : (numB i.claim.e ++ numB i.claim.s).size ≤ 20 := by have := numB_size i.claim.e; have := numB_size i.claim.s; rw [ByteArray.size_append]; omega
  generalize (⟨(claimL i.claim).toArray⟩ : ByteArray) = X at *
  generalize numB i.claim.e ++ numB i.claim.s = Y at *
  have f1 : (numB 1).size + X.size ≤ 9223372036854775807 := by omega
  have f2 : (numB 1).size + X.size + Y.size ≤ 9223372036854775807 := by omega
  clear hr hk
  go_enter Tryz.func105, Tryz.ntmps105
  go_wp2_with (first | (refine wpList_load_run 46 (.tmp 1) (.pointer (some ⟨w.heap.size, 0, none⟩)) (.agg (itA i)) ?_ ?_ ?_ ?_ ?_; rfl; rfl; rfl; exact hIt _) | (go_at_call 123; refine (rright_any i _ (hI' _) ho).mono ?_; rintro e w' ⟨rfl, hq2⟩; obtain ⟨y, rfl⟩ := Wd.next _ hq2; clear hq2) | (go_at_call 106; refine (RNum_any _ _ (by omega)).mono ?_; rintro e w' ⟨rfl, hq2⟩; obtain ⟨y, rfl⟩ := Wd.next _ hq2; clear hq2))
  refine wp_region_wd _ (by kernel_rfl) (by kernel_rfl) ?_
  repeat (first | (refine wpQuiet_load_run 40 (.tmp 24) (.pointer (some ⟨w.heap.size, 21, none⟩)) (.agg (claimA i.claim)) ?_ ?_ ?_ ?_ ?_; rfl; rfl; rfl; exact hClaim; dsimp only [Act.put]; simp only [List.setIfInBounds_toArray, List.set_cons_succ, List.set_cons_zero]) | go_big_quiet_step (first | with_reducible exact Wd.call _ (hCo _) | with_reducible exact Wd.call _ (hSi _)))
  refine wpQuiet_nil ?_
  rintro w'' ⟨z, rfl⟩
  go_wp2
  go_ret
  exact ⟨by rw [← HR.out]; rfl, Q.trans hq1 z.q⟩
set_option maxRecDepth 100000 in
set_option maxHeartbeats 4000000 in
theorem rbytes_ballot (i : ItemR) (w : World) (hI : ItemIn w i) (ho : ItemOk i) (h : itemRight i = true) (hk : i.kind = 2) : Calls Tryz.prog 105 #[.agg (itA i)] w fun e w' => e = .returned (.string (itemBytes i)) ∧ Q w w' := by
  obtain ⟨w1, x, hx, hq1, hl, hr⟩ := boxed w 46 i.cells
  have hx : w.alloc (.cells (itA i) 46) = x.w := hx
  have hIt : ∀ y : Wd w1, (Instr.loadAt 46 (.pointer (some ⟨w.heap.size, 0, none⟩))).run Tryz.prog y.w = .ok (.agg (itA i)) y.w := Wd.load hl hr Tryz.underlying46 rfl (by kernel_rfl)
  have hI' : ∀ y : Wd w1, ItemIn y.w i := fun y => hI.q (Q.trans hq1 y.q)
  have c0 := Wd.at0 hl hr 0 rfl
  rw [hk] at c0
  have ce := Wd.at0 hl hr 35 rfl
  have cs := Wd.at0 hl hr 36 rfl
  have hBallot := item_ballot hl hr
  have sm := small_ballot (show ballotRight i.ballot = true by unfold itemRight at h; simp [hk] at h; exact h.1)
  have hil := itemL_le i (small_right h (by omega))
  have hse : (sigV i).1 ≤ 9223372036854775807 ∧ (sigV i).2 ≤ 9223372036854775807 := sig_le h (by omega)
  have HR : Hid (((numB 2 ++ (⟨(ballotL i.ballot).toArray⟩ : ByteArray)) ++ (numB i.ballot.e ++ numB i.ballot.s)) = itemBytes i) := Lib.hid (by rw [cat_flat]; unfold itemBytes itemBytesL itemL sigV; simp [h, hk])
  have hil : (⟨(ballotL i.ballot).toArray⟩ : ByteArray).size ≤ 110000000 := by rw [ba_size]; unfold itemL at hil; simpa [hk] using hil
  have hse : i.ballot.e ≤ 9223372036854775807 ∧ i.ballot.s ≤ 9223372036854775807 := by unfold sigV at hse; simpa [hk] using hse
  have hCo : ∀ y : Wd w1, Calls Tryz.prog 163 #[.agg (ballotA i.ballot)] y.w fun e w' => e = .returned (.string (⟨(ballotL i.ballot).toArray⟩ : ByteArray)) ∧ Q y.w w' := fun y => rcoreBallot_any i.ballot y.w sm.1 sm.2.1 ⟨sm.2.2 _ (by simp), sm.2.2 _ (by simp), sm.2.2 _ (by simp)⟩
  have hSi : ∀ y : Wd w1, Calls Tryz.prog 162 #[.agg #[.int .i64 i.ballot.e, .int .i64 i.ballot.s]] y.w fun e w' => e = .returned (.string (numB i.ballot.e ++ numB i.ballot.s)) ∧ Q y.w w' := fun y => rsigBytes_any _ _ y.w hse.1 hse.2
  have n0 := numB_size 2
  have n1 : (numB i.ballot.e ++ numB i.ballot.s).size ≤ 20 := by have := numB_size i.ballot.e; have := numB_size i.ballot.s; rw [ByteArray.size_append]; omega
  generalize (⟨(ballotL i.ballot).toArray⟩ : ByteArray) = X at *
  generalize numB i.ballot.e ++ numB i.ballot.s = Y at *
  have f1 : (numB 2).size + X.size ≤ 9223372036854775807 := by omega
  have f2 : (numB 2).size + X.size + Y.size ≤ 9223372036854775807 := by omega
  clear hr hk
  go_enter Tryz.func105, Tryz.ntmps105
  go_wp2_with (first | (refine wpList_load_run 46 (.tmp 1) (.pointer (some ⟨w.heap.size, 0, none⟩)) (.agg (itA i)) ?_ ?_ ?_ ?_ ?_; rfl; rfl; rfl; exact hIt _) | (go_at_call 123; refine (rright_any i _ (hI' _) ho).mono ?_; rintro e w' ⟨rfl, hq2⟩; obtain ⟨y, rfl⟩ := Wd.next _ hq2; clear hq2) | (go_at_call 106; refine (RNum_any _ _ (by omega)).mono ?_; rintro e w' ⟨rfl, hq2⟩; obtain ⟨y, rfl⟩ := Wd.next _ hq2; clear hq2))
  refine wp_region_wd _ (by kernel_rfl) (by kernel_rfl) ?_
  repeat (first | (refine wpQuiet_load_run 42 (.tmp 36) (.pointer (some ⟨w.heap.size, 30, none⟩)) (.agg (ballotA i.ballot)) ?_ ?_ ?_ ?_ ?_; rfl; rfl; rfl; exact hBallot; dsimp only [Act.put]; simp only [List.setIfInBounds_toArray, List.set_cons_succ, List.set_cons_zero]) | go_big_quiet_step (first | with_reducible exact Wd.call _ (hCo _) | with_reducible exact Wd.call _ (hSi _)))
  refine wpQuiet_nil ?_
  rintro w'' ⟨z, rfl⟩
  go_wp2
  go_ret
  exact ⟨by rw [← HR.out]; rfl, Q.trans hq1 z.q⟩
set_option maxRecDepth 100000 in
set_option maxHeartbeats 4000000 in
theorem rbytes_dec (i : ItemR) (w : World) (hI : ItemIn w i) (ho : ItemOk i) (h : itemRight i = true) (hk : i.kind = 3) : Calls Tryz.prog 105 #[.agg (itA i)] w fun e w' => e = .returned (.string (itemBytes i)) ∧ Q w w' := by
  obtain ⟨w1, x, hx, hq1, hl, hr⟩ := boxed w 46 i.cells
  have hx : w.alloc (.cells (itA i) 46) = x.w := hx
  have hIt : ∀ y : Wd w1, (Instr.loadAt 46 (.pointer (some ⟨w.heap.size, 0, none⟩))).run Tryz.prog y.w = .ok (.agg (itA i)) y.w := Wd.load hl hr Tryz.underlying46 rfl (by kernel_rfl)
  have hI' : ∀ y : Wd w1, ItemIn y.w i := fun y => hI.q (Q.trans hq1 y.q)
  have c0 := Wd.at0 hl hr 0 rfl
  rw [hk] at c0
  have ce := Wd.at0 hl hr 47 rfl
  have cs := Wd.at0 hl hr 48 rfl
  have hDecision := item_dec hl hr
  have sm := small_dec (show decRight i.dec = true by unfold itemRight at h; simp [hk] at h; exact h.1)
  have hil := itemL_le i (small_right h (by omega))
  have hse : (sigV i).1 ≤ 9223372036854775807 ∧ (sigV i).2 ≤ 9223372036854775807 := sig_le h (by omega)
  have HR : Hid (((numB 3 ++ (⟨(decL i.dec).toArray⟩ : ByteArray)) ++ (numB i.dec.e ++ numB i.dec.s)) = itemBytes i) := Lib.hid (by rw [cat_flat]; unfold itemBytes itemBytesL itemL sigV; simp [h, hk])
  have hil : (⟨(decL i.dec).toArray⟩ : ByteArray).size ≤ 110000000 := by rw [ba_size]; unfold itemL at hil; simpa [hk] using hil
  have hse : i.dec.e ≤ 9223372036854775807 ∧ i.dec.s ≤ 9223372036854775807 := by unfold sigV at hse; simpa [hk] using hse
  have hCo : ∀ y : Wd w1, Calls Tryz.prog 164 #[.agg (decA i.dec)] y.w fun e w' => e = .returned (.string (⟨(decL i.dec).toArray⟩ : ByteArray)) ∧ Q y.w w' := fun y => rcoreDec_any i.dec y.w (hI' y).dec ⟨sm.1, sm.2.1, sm.2.2.1⟩ sm.2.2.2.2.2 sm.2.2.2.2.1 ⟨sm.2.2.2.1 _ (by simp), sm.2.2.2.1 _ (by simp), sm.2.2.2.1 _ (by simp), sm.2.2.2.1 _ (by simp), sm.2.2.2.1 _ (by simp), sm.2.2.2.1 _ (by simp)⟩
  have hSi : ∀ y : Wd w1, Calls Tryz.prog 162 #[.agg #[.int .i64 i.dec.e, .int .i64 i.dec.s]] y.w fun e w' => e = .returned (.string (numB i.dec.e ++ numB i.dec.s)) ∧ Q y.w w' := fun y => rsigBytes_any _ _ y.w hse.1 hse.2
  have n0 := numB_size 3
  have n1 : (numB i.dec.e ++ numB i.dec.s).size ≤ 20 := by have := numB_size i.dec.e; have := numB_size i.dec.s; rw [ByteArray.size_append]; omega
  generalize (⟨(decL i.dec).toArray⟩ : ByteArray) = X at *
  generalize numB i.dec.e ++ numB i.dec.s = Y at *
  have f1 : (numB 3).size + X.size ≤ 9223372036854775807 := by omega
  have f2 : (numB 3).size + X.size + Y.size ≤ 9223372036854775807 := by omega
  clear hr hk
  go_enter Tryz.func105, Tryz.ntmps105
  go_wp2_with (first | (refine wpList_load_run 46 (.tmp 1) (.pointer (some ⟨w.heap.size, 0, none⟩)) (.agg (itA i)) ?_ ?_ ?_ ?_ ?_; rfl; rfl; rfl; exact hIt _) | (go_at_call 123; refine (rright_any i _ (hI' _) ho).mono ?_; rintro e w' ⟨rfl, hq2⟩; obtain ⟨y, rfl⟩ := Wd.next _ hq2; clear hq2) | (go_at_call 106; refine (RNum_any _ _ (by omega)).mono ?_; rintro e w' ⟨rfl, hq2⟩; obtain ⟨y, rfl⟩ := Wd.next _ hq2; clear hq2))
  refine wp_region_wd _ (by kernel_rfl) (by kernel_rfl) ?_
  repeat (first | (refine wpQuiet_load_run 44 (.tmp 46) (.pointer (some ⟨w.heap.size, 37, none⟩)) (.agg (decA i.dec)) ?_ ?_ ?_ ?_ ?_; rfl; rfl; rfl; exact hDecision; dsimp only [Act.put]; simp only [List.setIfInBounds_toArray, List.set_cons_succ, List.set_cons_zero]) | go_big_quiet_step (first | with_reducible exact Wd.call _ (hCo _) | with_reducible exact Wd.call _ (hSi _)))
  refine wpQuiet_nil ?_
  rintro w'' ⟨z, rfl⟩
  go_wp2
  go_ret
  exact ⟨by rw [← HR.out]; rfl, Q.trans hq1 z.q⟩
theorem rbytes_any (i : ItemR) (w : World) (hI : ItemIn w i) (ho : ItemOk i) : Calls Tryz.prog 105 #[.agg (itA i)] w fun e w' => e = .returned (.string (itemBytes i)) ∧ Q w w' := by
  cases h : itemRight i
  · exact rbytes_no i w hI ho h
  · have hk := right_kind h
    rcases (show i.kind = 0 ∨ i.kind = 1 ∨ i.kind = 2 ∨ i.kind = 3 by omega) with k | k | k | k
    · exact rbytes_act i w hI ho h k
    · exact rbytes_claim i w hI ho h k
    · exact rbytes_ballot i w hI ho h k
    · exact rbytes_dec i w hI ho h k
set_option maxHeartbeats 2000000 in
theorem rdigest_any (i : ItemR) (w : World) (hI : ItemIn w i) (ho : ItemOk i) : Calls Tryz.prog 54 #[.agg (itA i)] w fun e w' => e = .returned (.string (digOf i)) ∧ Q w w' := by
  obtain ⟨w1, x, hx, hq1, hl, hr⟩ := boxed w 46 i.cells
  have hx : w.alloc (.cells (itA i) 46) = x.w := hx
  have hIt : ∀ y : Wd w1, (Instr.loadAt 46 (.pointer (some ⟨w.heap.size, 0, none⟩))).run Tryz.prog y.w = .ok (.agg (itA i)) y.w := Wd.load hl hr Tryz.underlying46 rfl (by kernel_rfl)
  have hI' : ∀ y : Wd w1, ItemIn y.w i := fun y => hI.q (Q.trans hq1 y.q)
  have hem := itemBytes_empty i
  have hle := itemBytes_le i
  clear hr
  cases h : itemRight i
  all_goals
    rw [h] at hem
    have HR := Lib.hid (show digOf i = if itemRight i then sha (itemBytes i) else emptyT from rfl)
    rw [h] at HR
    have hem2 : ((itemBytes i).toList == []) = _ := (show ((itemBytes i).toList == []) = (itemBytes i).toList.isEmpty by cases (itemBytes i).toList <;> rfl).trans hem
    go_enter Tryz.func54, Tryz.ntmps54
    go_wp2_with (first | (refine wpList_load_run 46 (.tmp 1) (.pointer (some ⟨w.heap.size, 0, none⟩)) (.agg (itA i)) ?_ ?_ ?_ ?_ ?_; rfl; rfl; rfl; exact hIt _) | (go_at_call 105; refine (rbytes_any i _ (hI' _) ho).mono ?_; rintro e w' ⟨rfl, hq2⟩; obtain ⟨y, rfl⟩ := Wd.next _ hq2; clear hq2) | (go_at_call 83; refine (RSha_any _ _ (by omega)).mono ?_; rintro e w' ⟨rfl, hq2⟩; obtain ⟨y, rfl⟩ := Wd.next _ hq2; clear hq2))
    go_ret
    exact ⟨by rw [HR.out]; rfl, Q.trans hq1 (Wd.q _)⟩
set_option maxRecDepth 100000 in
set_option maxHeartbeats 16000000 in
theorem ritemSame_any (a b : ItemR) (w : World) (hI : ItemIn w a) (hJ : ItemIn w b) : Calls Tryz.prog 24 #[.agg (itA a), .agg (itA b)] w fun e w' => e = .returned (.bool (a.same b)) ∧ Q w w' := by
  obtain ⟨w1, x, hx, hq1, ⟨hA1, hA2⟩, hB1, hB2⟩ := boxed_two w 46 a.cells b.cells
  have hx : (w.alloc (.cells (itA a) 46)).alloc (.cells (itA b) 46) = x.w := hx
  have c0 := Wd.at0 hA1 hA2 0 rfl
  have d0 := Wd.at0 hB1 hB2 0 rfl
  have hAact := item_act hA1 hA2
  have hBact := item_act hB1 hB2
  have hAclaim := item_claim hA1 hA2
  have hBclaim := item_claim hB1 hB2
  have hAballot := item_ballot hA1 hA2
  have hBballot := item_ballot hB1 hB2
  have hAdec := item_dec hA1 hA2
  have hBdec := item_dec hB1 hB2
  have hI' : ∀ y : Wd w1, ItemIn y.w a := fun y => hI.q (Q.trans hq1 y.q)
  have hJ' : ∀ y : Wd w1, ItemIn y.w b := fun y => hJ.q (Q.trans hq1 y.q)
  have hc := claimEq
  have hd := ballotEq
  clear hA1 hA2 hB1 hB2
  rcases ways5 (a.act.same b.act) (a.kind == b.kind) (a.claim.same b.claim) (a.ballot.same b.ballot) (a.dec.same b.dec) with g1 | ⟨g1, g2⟩ | ⟨g1, g2, g3⟩ | ⟨g1, g2, g3, g4⟩ | ⟨g1, g2, g3, g4, g5⟩ | ⟨g1, g2, g3, g4, g5⟩
  all_goals
    have HR := Lib.hid (show a.same b = conj [(a.kind == b.kind), a.act.same b.act, a.claim.same b.claim, a.ballot.same b.ballot, a.dec.same b.dec] by rw [beq_int]; rfl)
    simp [conj, *] at HR
    go_enter Tryz.func24, Tryz.ntmps24
    go_wp2_with (first | (refine wpList_load_run 38 (.tmp 6) (.pointer (some ⟨w.heap.size, 1, none⟩)) (.agg (actA a.act)) ?_ ?_ ?_ ?_ ?_; rfl; rfl; rfl; exact hAact _) | (refine wpList_load_run 38 (.tmp 8) (.pointer (some ⟨w.heap.size + 1, 1, none⟩)) (.agg (actA b.act)) ?_ ?_ ?_ ?_ ?_; rfl; rfl; rfl; exact hBact _) | (refine wpList_load_run 40 (.tmp 20) (.pointer (some ⟨w.heap.size, 21, none⟩)) (.agg (claimA a.claim)) ?_ ?_ ?_ ?_ ?_; rfl; rfl; rfl; exact hAclaim _) | (refine wpList_load_run 40 (.tmp 22) (.pointer (some ⟨w.heap.size + 1, 21, none⟩)) (.agg (claimA b.claim)) ?_ ?_ ?_ ?_ ?_; rfl; rfl; rfl; exact hBclaim _) | (refine wpList_load_run 42 (.tmp 27) (.pointer (some ⟨w.heap.size, 30, none⟩)) (.agg (ballotA a.ballot)) ?_ ?_ ?_ ?_ ?_; rfl; rfl; rfl; exact hAballot _) | (refine wpList_load_run 42 (.tmp 29) (.pointer (some ⟨w.heap.size + 1, 30, none⟩)) (.agg (ballotA b.ballot)) ?_ ?_ ?_ ?_ ?_; rfl; rfl; rfl; exact hBballot _) | (refine wpList_load_run 44 (.tmp 34) (.pointer (some ⟨w.heap.size, 37, none⟩)) (.agg (decA a.dec)) ?_ ?_ ?_ ?_ ?_; rfl; rfl; rfl; exact hAdec _) | (refine wpList_load_run 44 (.tmp 36) (.pointer (some ⟨w.heap.size + 1, 37, none⟩)) (.agg (decA b.dec)) ?_ ?_ ?_ ?_ ?_; rfl; rfl; rfl; exact hBdec _) | (go_at_call 73; refine (ractSame_any a.act b.act _ (hI' _).act (hJ' _).act).mono ?_; rintro e w' ⟨rfl, hq2⟩; obtain ⟨y, rfl⟩ := Wd.next _ hq2; clear hq2) | (go_at_call 74; refine (rdecSame_any a.dec b.dec _ (hI' _).dec (hJ' _).dec).mono ?_; rintro e w' ⟨rfl, hq2⟩; obtain ⟨y, rfl⟩ := Wd.next _ hq2; clear hq2))
    go_ret
    exact ⟨by rw [HR.out]; rfl, Q.trans hq1 (Wd.q _)⟩
end Go.Proofs.YtomkeaeegdjhnaaGreatDoor.Item

namespace Go.Proofs.YtomkeaeegdjhnaaGreatDoor.Known
open Go.RowKit Go.ChangeShapes Go.WideShapes Go.Deep Grp Mem _root_.Go.Proofs.YtomkeaeegdjhnaaGreatDoor.Code Sha Sign _root_.Go.Proofs.YtomkeaeegdjhnaaGreatDoor.Item

structure KOk (k : KR) : Prop where
  items : ∀ x ∈ k.l, ItemOk x
  ints : ∀ n ∈ k.sv, I64 n
theorem k_known : Tryz.prog.cellsOf 25 = 2 := by kernel_rfl
section
variable {H : Type} {enc : TypeId × Value → H} {W : World} {base : Nat} {spare : Nat → Bool} {held : Bool}
set_option maxHeartbeats 1000000 in
theorem o_known : Opens enc Tryz.prog W base spare held 25 KR.cells (fun k => KIn W k ∧ KOk k) := fun fuel cs x h => by
  obtain ⟨xs, n, -, -, hcl, hxl, hf⟩ := DataW.trod_struct Tryz.underlying25 h
  rw [k_known] at hcl
  have hxl : xs.length = 2 := hxl
  obtain ⟨s0, e0, g0⟩ := field_opens (off := 0) (show DataW.trod enc Tryz.prog W base spare held n 22 ((cs.drop 0).take (Tryz.prog.cellsOf 22)) = xs[0]? from hf 0 _ rfl) (by omega) k_ints o_ints
  obtain ⟨s1, e1, g1⟩ := field_opens (off := 1) (show DataW.trod enc Tryz.prog W base spare held n 23 ((cs.drop 1).take (Tryz.prog.cellsOf 23)) = xs[1]? from hf 1 _ rfl) (by omega) k_items o_items
  have t2 : cs.drop 2 = [] := List.drop_eq_nil_of_le (by omega)
  have t1 := drop_step e1
  simp only [Nat.reduceAdd] at t1
  rw [t2] at t1
  have t0 := drop_step e0
  simp only [Nat.reduceAdd] at t0
  rw [t1] at t0
  rw [List.drop_zero] at t0
  refine ⟨⟨s0.l, s0.A, s0.c, s1.l, s1.A, s1.c⟩, by rw [t0]; rfl, ?_⟩
  exact ⟨⟨ints_of g0.rows, ⟨g1.rows, fun x hx => (g1.all x hx).1⟩, ⟨g0.le, g0.cap⟩, ⟨g1.le, g1.cap⟩⟩, fun x hx => (g1.all x hx).2, g0.all⟩
set_option maxRecDepth 100000 in
theorem open_kn {r : Reach} {b0 : Nat} {v : Value} {d : DataW H} {p : List MemPlace} (hval : Value.okWide Tryz.prog W r b0 25 v) (h : DataW.Trod enc Tryz.prog W base spare held 25 v d p) : ∃ k : KR, v = .agg (knA k) ∧ KIn W k ∧ KOk k := by
  simp only [Value.okWide, Tryz.underlying25] at hval
  obtain ⟨cs, rfl, -⟩ := hval
  obtain ⟨fuel, hf⟩ := h
  obtain ⟨k, hk, g1, g2⟩ := o_known fuel _ _ hf
  have hk : cs.toList = k.cells := hk
  exact ⟨k, by rw [knA, ← hk], g1, g2⟩
end
end Go.Proofs.YtomkeaeegdjhnaaGreatDoor.Known

namespace Go.Proofs.YtomkeaeegdjhnaaGreatDoor.Ins

section
variable {α : Type} (lt : α → α → Bool)
/-- Into a list that is laid from its last element on. -/
def insR (x : α) : List α → List α
  | [] => [x]
  | y :: r => if lt x y then y :: insR x r else x :: y :: r
def sortR (l : List α) : List α := (l.foldl (fun r x => insR lt x r) []).reverse
theorem insR_length (x : α) : ∀ r : List α, (insR lt x r).length = r.length + 1
  | [] => rfl
  | y :: r => by
    unfold insR
    split
    · rw [List.length_cons, insR_length x r, List.length_cons]
    · rfl
theorem mem_insR (x z : α) : ∀ r : List α, z ∈ insR lt x r ↔ z = x ∨ z ∈ r
  | [] => by simp [insR]
  | y :: r => by
    unfold insR
    split
    · rw [List.mem_cons, mem_insR x z r, List.mem_cons]
      constructor
      · rintro (h | h | h) <;> simp [h]
      · rintro (h | h | h) <;> simp [h]
    · simp
theorem foldl_length (l : List α) : ∀ r : List α, (l.foldl (fun r x => insR lt x r) r).length = r.length + l.length := by
  induction l with
  | nil => intro r; rfl
  | cons x l ih =>
    intro r
    rw [List.foldl_cons, ih, insR_length, List.length_cons]
    omega
theorem sortR_length (l : List α) : (sortR lt l).length = l.length := by
  unfold sortR
  rw [List.length_reverse, foldl_length]
  simp
theorem mem_foldl (z : α) (l : List α) : ∀ r : List α, z ∈ l.foldl (fun r x => insR lt x r) r ↔ z ∈ l ∨ z ∈ r := by
  induction l with
  | nil => intro r; simp
  | cons x l ih =>
    intro r
    rw [List.foldl_cons, ih, mem_insR, List.mem_cons]
    constructor
    · rintro (h | h | h) <;> simp [h]
    · rintro ((h | h) | h) <;> simp [h]
theorem mem_sortR (z : α) (l : List α) : z ∈ sortR lt l ↔ z ∈ l := by
  unfold sortR
  rw [List.mem_reverse, mem_foldl]
  simp

/-- The order that stays: an earlier element is not before a later one. -/
def Desc (r : List α) : Prop := r.Pairwise fun a b => lt a b = false
theorem desc_insR (ha : ∀ a b, lt a b = true → lt b a = false) (ht : ∀ a b c, lt a b = false → lt b c = false → lt a c = false) (x : α) : ∀ r : List α, Desc lt r → Desc lt (insR lt x r)
  | [], _ => by unfold insR Desc; simp
  | y :: r, h => by
    obtain ⟨h1, h2⟩ := List.pairwise_cons.1 h
    unfold insR
    split
    · rename_i hx
      refine List.pairwise_cons.2 ⟨fun z hz => ?_, desc_insR ha ht x r h2⟩
      rcases (mem_insR lt x z r).1 hz with rfl | hz
      · exact ha _ _ hx
      · exact h1 z hz
    · rename_i hx
      have hx' : lt x y = false := by simpa using hx
      refine List.pairwise_cons.2 ⟨fun z hz => ?_, h⟩
      rcases List.mem_cons.1 hz with rfl | hz
      · exact hx'
      · exact ht _ _ _ hx' (h1 z hz)
theorem filter_insR (ht : ∀ a b c, lt a b = false → lt b c = false → lt a c = false) (p : α → Bool) (x : α) : ∀ r : List α, Desc lt r → (insR lt x r).filter p = if p x then insR lt x (r.filter p) else r.filter p
  | [], _ => by cases hp : p x <;> simp [insR, hp]
  | y :: r, h => by
    obtain ⟨h1, h2⟩ := List.pairwise_cons.1 h
    have ih := filter_insR ht p x r h2
    rw [insR]
    cases hx : lt x y
    · rw [if_neg Bool.false_ne_true]
      have hr : ∀ s : List α, (∀ z ∈ s, lt x z = false) → insR lt x s = x :: s := by
        intro s hs
        cases s with
        | nil => rfl
        | cons z s => rw [insR, hs z (by simp), if_neg Bool.false_ne_true]
      cases hp : p x
      · rw [List.filter_cons, hp]
        simp
      · rw [List.filter_cons, hp, if_pos rfl, if_pos rfl]
        refine (hr _ fun z hz => ?_).symm
        rcases List.mem_cons.1 ((List.mem_filter.1 hz).1) with rfl | hz
        · exact hx
        · exact ht _ _ _ hx (h1 z hz)
    · rw [if_pos rfl, List.filter_cons, ih]
      cases hp : p x
      · cases hy : p y <;> simp [List.filter_cons, hy]
      · cases hy : p y
        · simp [List.filter_cons, hy]
        · simp [List.filter_cons, hy, insR, hx]
theorem filter_foldl (ha : ∀ a b, lt a b = true → lt b a = false) (ht : ∀ a b c, lt a b = false → lt b c = false → lt a c = false) (p : α → Bool) (l : List α) : ∀ r : List α, Desc lt r → (l.foldl (fun r x => insR lt x r) r).filter p = (l.filter p).foldl (fun r x => insR lt x r) (r.filter p) := by
  induction l with
  | nil => intro r _; rfl
  | cons x l ih =>
    intro r h
    rw [List.foldl_cons, ih _ (desc_insR lt ha ht x r h), filter_insR lt ht p x r h, List.filter_cons]
    cases hp : p x <;> simp
theorem filter_sortR (ha : ∀ a b, lt a b = true → lt b a = false) (ht : ∀ a b c, lt a b = false → lt b c = false → lt a c = false) (p : α → Bool) (l : List α) : (sortR lt l).filter p = sortR lt (l.filter p) := by
  unfold sortR
  rw [List.filter_reverse, filter_foldl lt ha ht p l [] List.Pairwise.nil]
  rfl
end

/-- The same after a map that keeps the order, on the elements at hand. -/
theorem map_insR {α β : Type} (lt : α → α → Bool) (lt2 : β → β → Bool) (f : α → β) (x : α) : ∀ r : List α, (∀ y ∈ r, lt2 (f x) (f y) = lt x y) → (insR lt x r).map f = insR lt2 (f x) (r.map f)
  | [], _ => rfl
  | y :: r, h => by
    rw [List.map_cons, insR, insR, h y (by simp)]
    split
    · rw [List.map_cons, map_insR lt lt2 f x r fun z hz => h z (by simp [hz])]
    · rfl
theorem map_foldl {α β : Type} (lt : α → α → Bool) (lt2 : β → β → Bool) (f : α → β) (G : α → Prop) (h : ∀ x y, G x → G y → lt2 (f x) (f y) = lt x y) (l : List α) : ∀ r : List α, (∀ x ∈ l, G x) → (∀ x ∈ r, G x) → (l.foldl (fun r x => insR lt x r) r).map f = (l.map f).foldl (fun r x => insR lt2 x r) (r.map f) := by
  induction l with
  | nil => intro r _ _; rfl
  | cons x l ih =>
    intro r hl hr
    rw [List.foldl_cons, ih _ (fun y hy => hl y (by simp [hy])) (fun y hy => by
      rcases (mem_insR lt x y r).1 hy with rfl | hy
      · exact hl _ (by simp)
      · exact hr y hy), map_insR lt lt2 f x r fun y hy => h x y (hl x (by simp)) (hr y hy)]
    rfl
theorem map_sortR {α β : Type} (lt : α → α → Bool) (lt2 : β → β → Bool) (f : α → β) (G : α → Prop) (h : ∀ x y, G x → G y → lt2 (f x) (f y) = lt x y) (l : List α) (hl : ∀ x ∈ l, G x) : (sortR lt l).map f = sortR lt2 (l.map f) := by
  unfold sortR
  rw [List.map_reverse, map_foldl lt lt2 f G h l [] hl (by simp)]
  rfl

/-! ### The kit's insertion sort over an array -/
section
variable {α : Type} [Inhabited α] (lt : α → α → Bool)
open Go.Sort
omit [Inhabited α] in
theorem toList_set (d : Array α) (i : Nat) (v : α) : (d.setIfInBounds i v).toList = d.toList.set i v := by simp
theorem get_bang (d : Array α) (i : Nat) (P R : List α) (x : α) (h : d.toList = P ++ x :: R) (hi : P.length = i) : d[i]! = x := by
  have hs : i < d.size := by rw [← Array.length_toList, h, List.length_append, List.length_cons]; omega
  rw [getElem!_pos d i hs, ← Array.getElem_toList]
  have : d.toList[i]'(by rw [Array.length_toList]; exact hs) = (P ++ x :: R)[i]'(by rw [List.length_append, List.length_cons]; omega) := by simp only [h]
  rw [this, List.getElem_append_right (by omega)]
  simp [hi]
theorem swp_list (d : Array α) (j : Nat) (P R : List α) (x y : α) (h : d.toList = P ++ y :: x :: R) (hj : P.length = j) : (swp d (j + 1) j).toList = P ++ x :: y :: R := by
  have e1 : d[j]! = y := get_bang d j P (x :: R) y h hj
  have e2 : d[j + 1]! = x := get_bang d (j + 1) (P ++ [y]) R x (by rw [h]; simp) (by simp [hj])
  unfold swp
  rw [toList_set, toList_set, e1, e2, h]
  subst hj
  rw [show P.length + 1 = P.length + 1 from rfl, List.set_append_right _ _ (by omega), List.set_append_right _ _ (by omega)]
  simp
theorem insInner_list : ∀ (rp : List α) (x : α) (R : List α) (d : Array α), d.toList = rp.reverse ++ x :: R → (insInner lt 0 rp.length d).toList = (insR lt x rp).reverse ++ R
  | [], x, R, d, h => by
    rw [List.length_nil, insInner, h]
    rfl
  | y :: rp, x, R, d, h => by
    have h' : d.toList = rp.reverse ++ y :: x :: R := by rw [h, List.reverse_cons, List.append_assoc]; rfl
    have e1 : d[rp.length]! = y := get_bang d rp.length rp.reverse (x :: R) y h' (by simp)
    have e2 : d[rp.length + 1]! = x := get_bang d (rp.length + 1) (rp.reverse ++ [y]) R x (by rw [h']; simp) (by simp)
    rw [List.length_cons, insInner, e1, e2, insR]
    cases hx : lt x y
    · rw [if_neg (by simp), if_neg Bool.false_ne_true, h']
      simp
    · rw [if_pos (by simp), if_pos rfl]
      have := insInner_list rp x (y :: R) (swp d (rp.length + 1) rp.length) (swp_list d rp.length rp.reverse R x y h' (by simp))
      rw [this]
      simp
theorem insOuter_list : ∀ (R : List α) (rp : List α) (d : Array α), d.toList = rp.reverse ++ R → (insOuter lt 0 d.size rp.length d).toList = (R.foldl (fun r x => insR lt x r) rp).reverse
  | [], rp, d, h => by
    have hs : d.size = rp.length := by rw [← Array.length_toList, h]; simp
    rw [insOuter, if_neg (by omega), h]
    simp
  | x :: R, rp, d, h => by
    have hs : d.size = rp.length + (R.length + 1) := by rw [← Array.length_toList, h]; simp
    rw [insOuter, if_pos (by omega), List.foldl_cons]
    have h1 := insInner_list lt rp x R d h
    have hs2 : (insInner lt 0 rp.length d).size = d.size := by
      have e := congrArg List.length h1
      rw [Array.length_toList, List.length_append, List.length_reverse, insR_length] at e
      omega
    have := insOuter_list R (insR lt x rp) (insInner lt 0 rp.length d) h1
    rw [hs2, insR_length] at this
    exact this
theorem insertionSort_list (d : Array α) : (insertionSort lt d 0 d.size).toList = sortR lt d.toList := by
  unfold insertionSort sortR
  cases h : d.toList with
  | nil =>
    have hs : d.size = 0 := by rw [← Array.length_toList, h]; rfl
    rw [insOuter, if_neg (by omega), h]
    rfl
  | cons x R =>
    have := insOuter_list lt R [x] d (by rw [h]; rfl)
    exact this
end
end Go.Proofs.YtomkeaeegdjhnaaGreatDoor.Ins

namespace Go.Proofs.YtomkeaeegdjhnaaGreatDoor.Mem
open Go.RowKit Grp

/-- The part of a row of the call's own that lies ahead of an index. -/
theorem Owns.cut {w : World} {base size n cap : Nat} {e : TypeId} {A : Option Addr} {xs : List Value} (h : Owns w base e size (.slice A n cap) n xs) (k : Nat) (hk : k ≤ n) : Owns w base e size (.slice A k cap) k (xs.take (k * size)) := by
  have hmul := Nat.mul_le_mul_right size hk
  refine ⟨by rw [List.length_take, h.1]; omega, ?_⟩
  rcases h.2 with ⟨hv, rfl⟩ | ⟨g, cap', cur, fz, hv, hb, hgg, hl, h1, h2, h3, h4⟩
  · obtain rfl : k = 0 := by omega
    exact .inl ⟨hv, rfl⟩
  · injection hv with hA _ hC
    subst hA
    subst hC
    refine .inr ⟨g, cap, cur, fz, rfl, hb, hgg, hl, by omega, h2, h3, ?_⟩
    rw [← h4, List.take_take, Nat.min_eq_left hmul]
theorem Owns.zero (w : World) (base size : Nat) (e : TypeId) (hb : base ≤ w.heap.size) : Owns (w.alloc (.cells #[] e)) base e size (.slice (some ⟨w.heap.size, 0, none⟩) 0 0) 0 [] :=
  ⟨by simp, .inr ⟨w.heap.size, 0, #[], (0, 0), rfl, hb, heap_alloc_new w _, .inl rfl, Nat.le_refl _, Nat.zero_le _, by simp, by simp⟩⟩
theorem flat_take {α : Type} {f : α → List Value} {k : Nat} (hk : ∀ x, (f x).length = k) : ∀ (l : List α) (m : Nat), (l.flatMap f).take (m * k) = (l.take m).flatMap f
  | [], m => by simp
  | a :: l, 0 => by simp
  | a :: l, m + 1 => by
    rw [List.flatMap_cons, List.take_succ_cons, List.flatMap_cons, Nat.succ_mul, Nat.add_comm, ← flat_take hk l m, ← hk a, List.take_length_add_append]
/-- An operation of a region of any order, its run known. -/
theorem any_run {P : Program} {md : Region.Mode} {K : Exit → Act → World → Prop} {l : List Oper} (k : Nat) {o : Oper} {f : Nat} {s : Array Bool} {a : Act} {w w' : World} {v : Value} (hi : l[k]? = some o) (hr : Region.ready md l.toArray s = [k]) (hg : o.guard = none)
    (hx : (execOp a.eval o).run P w = .ok (.value v) w') (h : wpAny P md l.toArray K f (s.setIfInBounds k true) (a.put o.dst v) w') : wpAny P md l.toArray K (f + 1) s a w :=
  any_one k hi hr hg fun K' hK => by
    unfold Oper.wp
    rw [hx]
    exact hK _ _ h
theorem exec_load_run {P : Program} {o : Oper} {a : Act} {w : World} (ty : TypeId) (y : Operand) (p v : Value) (ho : o.op = .load ty y) (hy : a.eval y = p) (hr : (Instr.loadAt ty p).run P w = .ok v w) : (execOp a.eval o).run P w = .ok (.value v) w := by
  unfold execOp
  simp only [ho, hy, Sem.run_bind, hr, Result.andThen_ok, Sem.run_pure]
theorem exec_buildSlice_run {P : Program} {o : Oper} {a : Act} {w w' : World} (ty : TypeId) (len : Nat) (parts : Array (Nat × Operand)) (vs : Array (Nat × Value)) (v : Value) (ho : o.op = .buildSlice ty len parts)
    (hp : (parts.map fun x => (x.1, a.eval x.2)) = vs) (hr : (Instr.buildSlice ty len vs).run P w = .ok v w') : (execOp a.eval o).run P w = .ok (.value v) w' := by
  subst hp
  unfold execOp
  simp only [ho, Sem.run_bind, hr, Result.andThen_ok, Sem.run_pure]
theorem exec_move {P : Program} {o : Oper} {a : Act} {w : World} (x : Operand) (v : Value) (ho : o.op = .move x) (hx : a.eval x = v) : (execOp a.eval o).run P w = .ok (.value v) w := by
  unfold execOp
  simp only [ho, hx, Sem.run_bind, Result.andThen_ok, Sem.run_pure]
theorem exec_assign {P : Program} {o : Oper} {a : Act} {w : World} (x : Operand) (v : Value) (ho : o.op = .assign x) (hx : a.eval x = v) : (execOp a.eval o).run P w = .ok (.value v) w := by
  unfold execOp
  simp only [ho, hx, Sem.run_bind, Result.andThen_ok, Sem.run_pure]
theorem exec_index_rows {P : Program} {o : Oper} {a : Act} {w : World} (t e : TypeId) (x i : Operand) (b off n c m k : Nat) (ho : o.op = .indexAddr t x i) (hx : a.eval x = .slice (some ⟨b, off, none⟩) n c) (hi : a.eval i = .int .i64 (m : Int)) (ht : P.underlying t = some (.slice e)) (he : P.elem t = e) (hs : ∀ w, (sizeOf e).run P w = .ok k w) (hm : m < n) :
    (execOp a.eval o).run P w = .ok (.value (.pointer (some ⟨b, off + m * k, none⟩))) w := by
  have hr := run_indexAt_slice (P := P) (w := w) t ⟨b, off, none⟩ n c .i64 (m : Int) (by rw [he]; exact ht)
  rw [if_pos ⟨by omega, by omega⟩, he, hs, Int.toNat_natCast] at hr
  unfold execOp
  simp only [ho, hx, hi, Sem.run_bind, hr, Result.andThen_ok, Sem.run_pure]
  rw [Addr.add_mid]
theorem exec_append_rows {α : Type} {f : α → List Value} {k : Nat} {P : Program} (hk : ∀ x, (f x).length = k) (h1 : ∀ x, ∀ v ∈ f x, v.oneCell' = true) {w : World} {o : Oper} {a : Act} (s x : Operand) (t e : TypeId) (i : TypeInfo) (z : Value) (bytes : Nat)
    (ho : o.op = .call { callee := .builtin .append, args := #[s, x], argTypes := #[t, t] }) (ht : P.underlying t = some (.slice e)) (hi : P.info? e = some i) (hz : i.zero = some z) (hz1 : i.size = k) (hz2 : i.bytes = bytes) (hz3 : z.cells.size = k) (hk0 : 0 < k) (hby : bytes ≤ 10000)
    (base : Nat) (v : Value) (n : Nat) (L : List α) (hs : a.eval s = v) (hown : Owns w base e k v n (L.flatMap f)) (A : Option Addr) (m c : Nat) (M : List α) (hx : a.eval x = .slice A m c) (hS : RowsAt w A k f M) (hm : M.length = m) (hsz : n + m ≤ 1000000) (hbase : base ≤ w.heap.size) :
    ∃ A' cap w', (execOp a.eval o).run P w = .ok (.value (.slice A' (n + m) cap)) w' ∧ n + m ≤ cap ∧ cap ≤ maxLen ∧ Owns w' base e k (.slice A' (n + m) cap) (n + m) ((L ++ M).flatMap f) ∧ w.grownBy w' v.ownBlock := by
  obtain ⟨v', w', hr, h2, h3⟩ := run_append_rows (P := P) hk h1 w t o.type e i z bytes ht hi hz hz1 hz2 hz3 hk0 hby base v n L hown A m c M hS hm hsz hbase
  obtain ⟨A', cap, rfl, hc1, hc2⟩ := h2.shape
  refine ⟨A', cap, w', ?_, hc1, hc2, h2, h3⟩
  unfold execOp
  simp only [ho, resolve, invoke, builtin, Sem.run_bind, Sem.run_pure, Result.andThen_ok, List.map_toArray, List.map_cons, List.map_nil, hs, hx, hr]
theorem any_append_rows {α : Type} {f : α → List Value} {k : Nat} {P : Program} {md : Region.Mode} {K : Exit → Act → World → Prop} {ops : List Oper} (idx : Nat) {fu : Nat} {sl : Array Bool} (hk : ∀ x, (f x).length = k) (h1 : ∀ x, ∀ v ∈ f x, v.oneCell' = true) {w : World} {o : Oper} {a : Act} (hidx : ops[idx]? = some o) (hrd : Region.ready md ops.toArray sl = [idx]) (hgd : o.guard = none) (s x : Operand) (t e : TypeId) (i : TypeInfo) (z : Value) (bytes : Nat)
    (ho : o.op = .call { callee := .builtin .append, args := #[s, x], argTypes := #[t, t] }) (ht : P.underlying t = some (.slice e)) (hi : P.info? e = some i) (hz : i.zero = some z) (hz1 : i.size = k) (hz2 : i.bytes = bytes) (hz3 : z.cells.size = k) (hk0 : 0 < k) (hby : bytes ≤ 10000)
    (base : Nat) (v : Value) (n : Nat) (L : List α) (hs : a.eval s = v) (hown : Owns w base e k v n (L.flatMap f)) (A : Option Addr) (m c : Nat) (M : List α) (hx : a.eval x = .slice A m c) (hS : RowsAt w A k f M) (hm : M.length = m) (hsz : n + m ≤ 1000000) (hbase : base ≤ w.heap.size)
    (h : ∀ A' cap w', n + m ≤ cap → cap ≤ maxLen → Owns w' base e k (.slice A' (n + m) cap) (n + m) ((L ++ M).flatMap f) → w.grownBy w' v.ownBlock → wpAny P md ops.toArray K fu (sl.setIfInBounds idx true) (a.put o.dst (.slice A' (n + m) cap)) w') : wpAny P md ops.toArray K (fu + 1) sl a w := by
  obtain ⟨A', cap, w', hr, c1, c2, c3, c4⟩ := exec_append_rows (P := P) hk h1 s x t e i z bytes ho ht hi hz hz1 hz2 hz3 hk0 hby base v n L hs hown A m c M hx hS hm hsz hbase
  exact any_run idx hidx hrd hgd hr (h A' cap w' c1 c2 c3 c4)
end Go.Proofs.YtomkeaeegdjhnaaGreatDoor.Mem

namespace Go.Proofs.YtomkeaeegdjhnaaGreatDoor.Known
open Go.RowKit Grp Mem _root_.Go.Proofs.YtomkeaeegdjhnaaGreatDoor.Code Sha Sign _root_.Go.Proofs.YtomkeaeegdjhnaaGreatDoor.Item _root_.Go.Proofs.YtomkeaeegdjhnaaGreatDoor.Ins

def afterI (a b : ItemR) : Bool := if a.act.seq ≠ b.act.seq then decide (b.act.seq < a.act.seq) else if a.dec.number ≠ b.dec.number then decide (b.dec.number < a.dec.number) else lessB (digOf b) (digOf a)
theorem gt_eq (a b : ByteArray) : (!Op.bytesLess a.toList b.toList && !(a.toList == b.toList)) = lessB b a := by
  cases h : lessB b a
  · rcases lessB_three b a with h2 | h2 | h2
    · rw [h] at h2; cases h2
    · subst h2
      simp
    · have : Op.bytesLess a.toList b.toList = true := h2
      simp [this]
  · have h1 : Op.bytesLess a.toList b.toList = false := lessB_asymm h
    have h2 : (a.toList == b.toList) = false := by
      rw [beq_eq_false_iff_ne]
      refine str_ne fun e => ?_
      subst e
      rw [lessB_irrefl] at h
      cases h
    rw [h1, h2]
    rfl
set_option maxRecDepth 100000 in
set_option maxHeartbeats 2000000 in
theorem after_any (a b : ItemR) (w : World) (hI : ItemIn w a) (hJ : ItemIn w b) (oa : ItemOk a) (ob : ItemOk b) : Calls Tryz.prog 124 #[.agg (itA a), .agg (itA b)] w fun e w' => e = .returned (.bool (afterI a b)) ∧ Q w w' := by
  obtain ⟨w1, x, hx, hq1, ⟨hA1, hA2⟩, hB1, hB2⟩ := boxed_two w 46 a.cells b.cells
  have hx : (w.alloc (.cells (itA a) 46)).alloc (.cells (itA b) 46) = x.w := hx
  have c2 := Wd.at0 hA1 hA2 2 rfl
  have d2 := Wd.at0 hB1 hB2 2 rfl
  have c38 := Wd.at0 hA1 hA2 38 rfl
  have d38 := Wd.at0 hB1 hB2 38 rfl
  have hLa : ∀ y : Wd w1, (Instr.loadAt 46 (.pointer (some ⟨w.heap.size, 0, none⟩))).run Tryz.prog y.w = .ok (.agg (itA a)) y.w := Wd.load hA1 hA2 Tryz.underlying46 rfl (by kernel_rfl)
  have hLb : ∀ y : Wd w1, (Instr.loadAt 46 (.pointer (some ⟨w.heap.size + 1, 0, none⟩))).run Tryz.prog y.w = .ok (.agg (itA b)) y.w := Wd.load hB1 hB2 Tryz.underlying46 rfl (by kernel_rfl)
  have hDa : ∀ y : Wd w1, Calls Tryz.prog 54 #[.agg (itA a)] y.w fun e w' => e = .returned (.string (digOf a)) ∧ Q y.w w' := fun y => rdigest_any a y.w (hI.q (Q.trans hq1 y.q)) oa
  have hDb : ∀ y : Wd w1, Calls Tryz.prog 54 #[.agg (itA b)] y.w fun e w' => e = .returned (.string (digOf b)) ∧ Q y.w w' := fun y => rdigest_any b y.w (hJ.q (Q.trans hq1 y.q)) ob
  clear hA1 hA2 hB1 hB2
  by_cases h1 : a.act.seq = b.act.seq
  rotate_left
  · have HR := Lib.hid (show afterI a b = decide (b.act.seq < a.act.seq) by unfold afterI; rw [if_pos h1])
    have n1 : (a.act.seq == b.act.seq) = false := by simpa using h1
    go_enter Tryz.func124, Tryz.ntmps124
    go_wp2_with fail
    go_ret
    exact ⟨by rw [HR.out]; rfl, Q.trans hq1 x.q⟩
  by_cases h2 : a.dec.number = b.dec.number
  rotate_left
  · have HR := Lib.hid (show afterI a b = decide (b.dec.number < a.dec.number) by unfold afterI; rw [if_neg (by simpa using h1), if_pos h2])
    have n2 : (a.dec.number == b.dec.number) = false := by simpa using h2
    rw [h1] at c2
    go_enter Tryz.func124, Tryz.ntmps124
    go_wp2_with fail
    go_ret
    exact ⟨by rw [HR.out]; rfl, Q.trans hq1 x.q⟩
  have HR := Lib.hid (show afterI a b = lessB (digOf b) (digOf a) by unfold afterI; rw [if_neg (by simpa using h1), if_neg (by simpa using h2)])
  have HG := Lib.hid (gt_eq (digOf a) (digOf b))
  rw [h1] at c2
  rw [h2] at c38
  clear h1 h2
  generalize digOf a = da at *
  generalize digOf b = db at *
  go_enter Tryz.func124, Tryz.ntmps124
  go_wp2_with fail
  refine wp_region_wd x (by kernel_rfl) (by kernel_rfl) ?_
  repeat (first | (refine wpQuiet_load_run 46 (.tmp 2) (.pointer (some ⟨w.heap.size, 0, none⟩)) (.agg (itA a)) ?_ ?_ ?_ ?_ ?_; rfl; rfl; rfl; exact hLa; dsimp only [Act.put]; simp only [List.setIfInBounds_toArray, List.set_cons_succ, List.set_cons_zero]) | (refine wpQuiet_load_run 46 (.tmp 3) (.pointer (some ⟨w.heap.size + 1, 0, none⟩)) (.agg (itA b)) ?_ ?_ ?_ ?_ ?_; rfl; rfl; rfl; exact hLb; dsimp only [Act.put]; simp only [List.setIfInBounds_toArray, List.set_cons_succ, List.set_cons_zero]) | go_big_quiet_step (first | with_reducible exact Wd.call _ (hDa _) | with_reducible exact Wd.call _ (hDb _)))
  refine wpQuiet_nil ?_
  rintro w'' ⟨z, rfl⟩
  go_wp2
  go_ret
  exact ⟨by rw [HR.out, ← HG.out]; rfl, Q.trans hq1 z.q⟩

/-! ### Sorted -/
def kindB (kind : Int) (x : ItemR) : Bool := decide (x.kind = kind) && itemRight x
def ltI (x y : ItemR) : Bool := afterI y x
def outK (kind : Int) (l : List ItemR) (j : Nat) : List ItemR := sortR ltI ((l.take j).filter (kindB kind))
def sortedK (kind : Int) (l : List ItemR) : List ItemR := sortR ltI (l.filter (kindB kind))
theorem outK_all (kind : Int) (l : List ItemR) : outK kind l l.length = sortedK kind l := by
  unfold outK sortedK
  rw [List.take_length]
theorem outK_zero (kind : Int) (l : List ItemR) : outK kind l 0 = [] := rfl
theorem outK_skip (kind : Int) (l : List ItemR) (j : Nat) (h : j < l.length) (hp : kindB kind l[j] = false) : outK kind l (j + 1) = outK kind l j := by
  unfold outK
  rw [List.take_succ_eq_append_getElem h, List.filter_append, List.filter_cons, hp]
  simp
theorem insR_split {α : Type} (lt : α → α → Bool) (x : α) : ∀ a b : List α, (∀ y ∈ a, lt x y = true) → (∀ y r, b = y :: r → lt x y = false) → insR lt x (a ++ b) = a ++ x :: b
  | [], [], _, _ => rfl
  | [], y :: r, _, h => by rw [List.nil_append, insR, h y r rfl, if_neg Bool.false_ne_true]; rfl
  | y :: a, b, h1, h2 => by
    rw [List.cons_append, insR, h1 y (by simp), if_pos rfl, insR_split lt x a b (fun z hz => h1 z (by simp [hz])) h2]
    rfl
theorem outK_take (kind : Int) (l : List ItemR) (j k : Nat) (h : j < l.length) (hp : kindB kind l[j] = true) (hk : k ≤ (outK kind l j).length) (h1 : ∀ i, k ≤ i → ∀ hi : i < (outK kind l j).length, afterI (outK kind l j)[i] l[j] = true) (h2 : k = 0 ∨ ∃ hi : k - 1 < (outK kind l j).length, afterI (outK kind l j)[k - 1] l[j] = false) :
    outK kind l (j + 1) = (outK kind l j).take k ++ l[j] :: (outK kind l j).drop k := by
  have e : outK kind l (j + 1) = (insR ltI l[j] (outK kind l j).reverse).reverse := by
    unfold outK sortR
    rw [List.take_succ_eq_append_getElem h, List.filter_append, List.filter_cons, hp, List.foldl_append, List.reverse_reverse]
    rfl
  rw [e]
  generalize outK kind l j = out at *
  generalize l[j] = x at *
  have e2 : out.reverse = (out.drop k).reverse ++ (out.take k).reverse := by rw [← List.reverse_append, List.take_append_drop]
  rw [e2, insR_split]
  · simp
  · intro y hy
    rw [List.mem_reverse] at hy
    obtain ⟨i, hi, rfl⟩ := List.mem_iff_getElem.1 hy
    rw [List.length_drop] at hi
    rw [List.getElem_drop]
    exact h1 (k + i) (by omega) (by omega)
  · intro y r hyr
    rcases h2 with h0 | ⟨hi, h3⟩
    · subst h0
      simp at hyr
    · have hl : out.take k ≠ [] := by
        intro hn
        rw [hn] at hyr
        simp at hyr
      have h4 := congrArg List.head? hyr
      rw [List.head?_reverse, List.head?_cons, List.getLast?_eq_getElem?, List.length_take, Nat.min_eq_left hk, List.getElem?_take] at h4
      split at h4
      · rw [List.getElem?_eq_getElem hi] at h4
        have h5 := Option.some.inj h4
        rw [← h5]
        exact h3
      · cases h4
theorem mem_outK (kind : Int) (l : List ItemR) (j : Nat) (x : ItemR) (h : x ∈ outK kind l j) : x ∈ l := by
  unfold outK at h
  rw [mem_sortR] at h
  exact List.mem_of_mem_take (List.mem_filter.1 h).1
theorem outK_le (kind : Int) (l : List ItemR) (j : Nat) : (outK kind l j).length ≤ j := by
  unfold outK
  rw [sortR_length]
  refine Nat.le_trans (List.length_filter_le _ _) ?_
  rw [List.length_take]
  omega
theorem bs_none (w : World) : (Instr.buildSlice 23 0 #[]).run Tryz.prog w = .ok (.slice (some ⟨w.heap.size, 0, none⟩) 0 0) (w.alloc (.cells #[] 46)) := by kernel_rfl
theorem exec_slice_to {P : Program} {o : Oper} {a : Act} {w : World} (ty e : TypeId) (x hi : Operand) (A : Option Addr) (n cap k size : Nat) (ho : o.op = .slice ty x none (some hi) none) (ht : P.underlying ty = some (.slice e)) (he : P.elem ty = e) (hs : ∀ w, (sizeOf e).run P w = .ok size w) (hx : a.eval x = .slice A n cap) (hh : a.eval hi = .int .i64 (k : Int)) (hk : k ≤ cap) : (execOp a.eval o).run P w = .ok (.value (.slice A k cap)) w := by
  have ht' : P.underlying ty = some (.slice (P.elem ty)) := by rw [he]; exact ht
  have hr := run_slice_h (P := P) w ty A n cap ht' .i64 (k : Int) (by omega) (by omega)
  rw [he, hs] at hr
  unfold execOp
  simp only [ho, hx, hh, Option.map_some, Option.map_none, Sem.run_bind, run_sliceAt_slice (P := P) w ty _ _ _ _ ht', hr, Result.andThen_ok, Sem.run_pure, sliced, Int.toNat_natCast]
  cases A with
  | none => simp
  | some p =>
    have e : p.add 0 = p := by
      cases p
      unfold Addr.add
      split <;> simp_all
    simp [e]
set_option maxRecDepth 100000 in
set_option maxHeartbeats 8000000 in
theorem rsorted_any (A : Option Addr) (c : Nat) (l : List ItemR) (kind : Int) (w : World) (hI : ItemsIn w A l) (hc : l.length ≤ c) (hcm : c ≤ maxLen) (hl : l.length ≤ 100000) (ho : ∀ x ∈ l, ItemOk x) :
    Calls Tryz.prog 66 #[.slice A l.length c, .int .i64 kind] w (ItemsAre (sortedK kind l) w) := by
  have hIy : ∀ y : Wd w, ItemsIn y.w A l := fun y => hI.q y.q
  obtain ⟨i0, hi, hz0, hz1, hz2⟩ := info_parts item_info
  obtain ⟨x, hx⟩ := Wd.first w
  refine (show Calls Tryz.prog 66 #[.slice A l.length c, .int .i64 kind] x.w (ItemsAre (sortedK kind l) w) → _ from fun h => by rwa [← hx] at h) ?_
  clear hx
  go_enter Tryz.func66, Tryz.ntmps66
  go_wp2_with fail
  go_loopw [5, 6] (fun a i wr => ∃ (j cc : Nat) (A' : Option Addr) (z : Wd w), a = .slice A' (outK kind l j).length cc ∧ i = .int .i64 j ∧ wr = z.w ∧ j ≤ l.length ∧ (outK kind l j).length ≤ cc ∧ cc ≤ maxLen ∧ Owns z.w w.heap.size 46 49 (.slice A' (outK kind l j).length cc) (outK kind l j).length ((outK kind l j).flatMap ItemR.cells)) (fun _ i _ => l.length - (intOf i).toNat)
  case atStart => exact ⟨0, 0, none, x, rfl, rfl, rfl, Nat.zero_le _, Nat.zero_le _, Nat.zero_le _, Owns.nil_ _ _ _ _⟩
  case round =>
    obtain ⟨j, cc, A', z, rfl, rfl, rfl, hj, hjc, hjm, hown⟩ := hrel
    by_cases hlt : j < l.length
    · obtain ⟨b, o, eA, hb, hcell⟩ := hI.rows (by omega)
      subst eA
      have hldI : ∀ y : Wd w, (Instr.loadAt 46 (.pointer (some ⟨b, o + j * 49, none⟩))).run Tryz.prog y.w = .ok (.agg (itA l[j])) y.w := Wd.load hb (hcell j hlt) Tryz.underlying46 rfl (by kernel_rfl)
      have k0 : ∀ y : Wd w, y.w.cell? ⟨b, o + j * 49, none⟩ = some (.int .i64 l[j].kind) := fun y => by
        have := Wd.get (w0 := w) hb (hcell j hlt) 0 rfl y
        rwa [Nat.add_zero] at this
      have hio : ∀ y : Wd w, ItemIn y.w l[j] := fun y => (hIy y).each _ (List.getElem_mem hlt)
      have hok := ho _ (List.getElem_mem hlt)
      have HSK := Lib.hid (outK_skip kind l j hlt)
      have HTK := Lib.hid (fun k => outK_take kind l j k hlt)
      have HOI : ∀ y : Wd w, ∀ q ∈ outK kind l j, ItemIn y.w q := fun y q hq => (hIy y).each _ (mem_outK kind l j q hq)
      have HOO : ∀ q ∈ outK kind l j, ItemOk q := fun q hq => ho _ (mem_outK kind l j q hq)
      have hle := outK_le kind l j
      have hRt := fun y : Wd w => rright_any l[j] y.w (hio y) hok
      clear hcell
      generalize outK kind l j = out at *
      generalize l[j] = it at *
      by_cases hk : it.kind = kind
      · have hne : (it.kind != kind) = false := by simp [hk]
        cases hr : itemRight it
        · have HS := Lib.hid (HSK.out (by unfold kindB; rw [hr]; simp))
          rw [hr] at hRt
          clear HSK HTK HOI HOO hk
          go_upto_region 5 with (fail)
          refine wp_region_lit ?_
          go_wp2_with (first | (refine wpList_index_rows 23 46 (.tmp 15) (.tmp 16) b o l.length c j 49 rfl rfl rfl rfl Tryz.underlying23 (by kernel_rfl) Tryz.sizeOf46 hlt ?_) | (refine wpList_index_rows 23 46 (.tmp 23) (.tmp 24) b o l.length c j 49 rfl rfl rfl rfl Tryz.underlying23 (by kernel_rfl) Tryz.sizeOf46 hlt ?_) | (refine wpList_load_run 46 (.tmp 25) (.pointer (some ⟨b, o + j * 49, none⟩)) (.agg (itA it)) ?_ ?_ ?_ ?_ ?_; rfl; rfl; rfl; exact hldI _) | (go_at_call 123; refine (hRt _).mono ?_; rintro e w' ⟨rfl, hq2⟩; have hq3 := hq2; obtain ⟨y, rfl⟩ := Wd.next _ hq2; clear hq2))
          exact ⟨⟨j + 1, cc, A', y, by rw [HS.out], by go_num, rfl, by omega, by rw [HS.out]; exact hjc, hjm, by rw [HS.out]; exact hown.q hq3⟩, by simp only [intOf]; omega⟩
        · have HK1 := Lib.hid (show kindB kind it = true by unfold kindB; rw [hr, decide_eq_true hk]; rfl)
          rw [hr] at hRt
          clear HSK hk hr
          go_upto_region 5 with (fail)
          refine wp_region_lit ?_
          go_wp2_with (first | (refine wpList_index_rows 23 46 (.tmp 15) (.tmp 16) b o l.length c j 49 rfl rfl rfl rfl Tryz.underlying23 (by kernel_rfl) Tryz.sizeOf46 hlt ?_) | (refine wpList_index_rows 23 46 (.tmp 23) (.tmp 24) b o l.length c j 49 rfl rfl rfl rfl Tryz.underlying23 (by kernel_rfl) Tryz.sizeOf46 hlt ?_) | (refine wpList_load_run 46 (.tmp 25) (.pointer (some ⟨b, o + j * 49, none⟩)) (.agg (itA it)) ?_ ?_ ?_ ?_ ?_; rfl; rfl; rfl; exact hldI _) | (go_at_call 123; refine (hRt _).mono ?_; rintro e w' ⟨rfl, hq2⟩; have hq3 := hq2; obtain ⟨y, rfl⟩ := Wd.next _ hq2; clear hq2))
          obtain ⟨w1, hw1⟩ : ∃ w1, y.w = w1 := ⟨_, rfl⟩
          have hq1 : Q w w1 := hw1 ▸ y.q
          have hown1 : Owns w1 w.heap.size 46 49 (.slice A' out.length cc) out.length (out.flatMap ItemR.cells) := hw1 ▸ hown.q hq3
          rw [hw1]
          obtain ⟨x1, hx1⟩ := Wd.first w1
          rw [hx1]
          clear hx1 hw1 hq3 hown hRt
          have hrows : ∀ u : Wd w1, RowsAt u.w A' 49 ItemR.cells out := fun u => (Owns.rows it_len hown1 rfl).q u.q
          have hldi : ∀ u : Wd w1, (Instr.loadAt 46 (.pointer (some ⟨b, o + j * 49, none⟩))).run Tryz.prog u.w = .ok (.agg (itA it)) u.w := fun u => hldI ⟨u.w, Q.trans hq1 u.q⟩
          go_loopw [7] (fun m wr => ∃ (k : Nat) (u : Wd w1), m = .int .i64 k ∧ wr = u.w ∧ k ≤ out.length ∧ Hid (∀ i, k ≤ i → ∀ hi : i < out.length, afterI out[i] it = true)) (fun m _ => (intOf m).toNat)
          case atStart => exact ⟨out.length, x1, rfl, rfl, Nat.le_refl _, Lib.hid (fun i h1 h2 => absurd h2 (by omega))⟩
          case round =>
            obtain ⟨k, u, rfl, rfl, hk, hall⟩ := hrel
            by_cases hk0 : 0 < k
            · have hi1 : k - 1 < out.length := by omega
              obtain ⟨b2, o2, eA2, hb2, hc2⟩ := hrows ⟨w1, Q.refl _⟩ (by omega)
              have hldq : ∀ v : Wd w1, (Instr.loadAt 46 (.pointer (some ⟨b2, o2 + (k - 1) * 49, none⟩))).run Tryz.prog v.w = .ok (.agg (itA out[k - 1])) v.w := Wd.load hb2 (hc2 (k - 1) hi1) Tryz.underlying46 rfl (by kernel_rfl)
              have hAf := fun v : Wd w1 => after_any out[k - 1] it v.w (HOI ⟨v.w, Q.trans hq1 v.q⟩ _ (List.getElem_mem hi1)) (hio ⟨v.w, Q.trans hq1 v.q⟩) (HOO _ (List.getElem_mem hi1)) hok
              have hkp : (0 : Int) < (k : Int) := by omega
              have hk1 : (k : Int) - 1 < (out.length : Int) := by omega
              have hk2 : (0 : Int) ≤ (k : Int) - 1 := by omega
              have hj1 : (j : Int) < (l.length : Int) := by omega
              have hj0 : (0 : Int) ≤ (j : Int) := by omega
              cases ha : afterI out[k - 1] it
              · have HX2 := Lib.hid (HTK.out k HK1.out hk hall.out (.inr ⟨hi1, ha⟩))
                rw [ha] at hAf
                subst eA2
                clear hc2 ha
                generalize out[k - 1] = q at *
                go_wp2_with fail
                refine wp_region_wd u (by kernel_rfl) (by kernel_rfl) ?_
                repeat (first | (refine wpQuiet_load_run 46 (.tmp 38) (.pointer (some ⟨b2, o2 + (k - 1) * 49, none⟩)) (.agg (itA q)) ?_ ?_ ?_ ?_ ?_; rfl; rfl; rfl; exact hldq; dsimp only [Act.put]; simp only [List.setIfInBounds_toArray, List.set_cons_succ, List.set_cons_zero]) | (refine wpQuiet_load_run 46 (.tmp 42) (.pointer (some ⟨b, o + j * 49, none⟩)) (.agg (itA it)) ?_ ?_ ?_ ?_ ?_; rfl; rfl; rfl; exact hldi; dsimp only [Act.put]; simp only [List.setIfInBounds_toArray, List.set_cons_succ, List.set_cons_zero]) | go_big_quiet_step (with_reducible exact Wd.call _ (hAf _)))
                refine wpQuiet_nil ?_
                rintro w'' ⟨v, rfl⟩
                clear hldq hAf hkp hk1 hk2 hb2
                have hvq : Q w v.w := Q.trans hq1 v.q
                have hvs : w1.heap.size ≤ v.w.heap.size := v.q.size
                have hws : w.heap.size ≤ w1.heap.size := hq1.size
                go_upto_region 9 with (fail)
                refine wp_region_lit ?_
                refine wpList_buildSlice_run 23 0 #[] #[] (.slice (some ⟨v.w.heap.size, 0, none⟩) 0 0) rfl rfl (by simp) (bs_none v.w) ?_
                dsimp only [Act.put]
                simp only [List.setIfInBounds_toArray, List.set_cons_succ, List.set_cons_zero]
                refine wpList_move (.tmp 5) (.slice (some ⟨b2, o2, none⟩) out.length cc) rfl rfl rfl ?_
                dsimp only [Act.put]
                simp only [List.setIfInBounds_toArray, List.set_cons_succ, List.set_cons_zero]
                refine wpList_move (.tmp 7) (.int .i64 (k : Int)) rfl rfl rfl ?_
                dsimp only [Act.put]
                simp only [List.setIfInBounds_toArray, List.set_cons_succ, List.set_cons_zero]
                refine wpList_slice_rows (f := ItemR.cells) 23 46 (.tmp 49) (.tmp 50) (some ⟨b2, o2, none⟩) cc k 49 out rfl rfl Tryz.underlying23 (by kernel_rfl) Tryz.sizeOf46 rfl rfl hk hjc ((hrows v).q (q_new _ _ _)) ?_
                intro A7 hS7
                dsimp only [Act.put]
                simp only [List.setIfInBounds_toArray, List.set_cons_succ, List.set_cons_zero]
                refine wpList_append_rows it_len it_one rfl (.tmp 48) (.tmp 51) 23 46 i0 _ 568 rfl Tryz.underlying23 hi hz0 hz1 hz2 rfl (by decide) (by decide) v.w.heap.size (.slice (some ⟨v.w.heap.size, 0, none⟩) 0 0) 0 [] rfl (Owns.zero v.w v.w.heap.size 49 46 (Nat.le_refl _)) A7 (out.length - k) (cc - k) (out.drop k) rfl hS7 (by rw [List.length_drop]) (by omega) (by simp) ?_
                intro A8 cap8 w8 hc8 hm8 hown8 hg8
                simp only [Nat.zero_add] at hc8 hown8 ⊢
                have hq8 : Q v.w w8 := q_grown (q_new _ _ _) (Nat.le_refl _) (Owns.zero v.w v.w.heap.size 49 46 (Nat.le_refl _)) hg8
                have hown8 : Owns w8 v.w.heap.size 46 49 (.slice A8 (out.length - k) cap8) (out.length - k) ((out.drop k).flatMap ItemR.cells) := hown8
                have hw8 := hq8.size
                clear hg8 hS7
                go_upto_region 10 with (fail)
                refine wp_region_any (by kernel_rfl) ?_
                change wpAny _ _ _ _ 12 (Array.replicate 12 false) _ w8.drew
                refine any_pure 0 (v := .slice (some ⟨b2, o2, none⟩) out.length cc) rfl (by kernel_rfl) (by kernel_rfl) (by kernel_rfl) (by intro c d v a w h; cases d <;> exact h) rfl (fun w => exec_move (.tmp 5) _ rfl rfl) ?_
                try simp only [Act.put, List.setIfInBounds_toArray, List.set_cons_succ, List.set_cons_zero]
                refine any_pure 1 (v := .int .i64 (k : Int)) rfl (by kernel_rfl) (by kernel_rfl) (by kernel_rfl) (by intro c d v a w h; cases d <;> exact h) rfl (fun w => exec_move (.tmp 7) _ rfl rfl) ?_
                try simp only [Act.put, List.setIfInBounds_toArray, List.set_cons_succ, List.set_cons_zero]
                refine any_pure 2 (v := .slice (some ⟨b2, o2, none⟩) k cc) rfl (by kernel_rfl) (by kernel_rfl) (by kernel_rfl) (by intro c d v a w h; cases d <;> exact h) rfl (fun w => exec_slice_to 23 46 (.tmp 53) (.tmp 54) (some ⟨b2, o2, none⟩) out.length cc k 49 rfl Tryz.underlying23 (by kernel_rfl) Tryz.sizeOf46 rfl rfl (by omega)) ?_
                try simp only [Act.put, List.setIfInBounds_toArray, List.set_cons_succ, List.set_cons_zero]
                refine any_pure 3 (v := .slice (some ⟨b, o, none⟩) l.length c) rfl (by kernel_rfl) (by kernel_rfl) (by kernel_rfl) (by intro c d v a w h; cases d <;> exact h) rfl (fun w => exec_move (.tmp 0) _ rfl rfl) ?_
                try simp only [Act.put, List.setIfInBounds_toArray, List.set_cons_succ, List.set_cons_zero]
                refine any_pure 4 (v := .int .i64 (j : Int)) rfl (by kernel_rfl) (by kernel_rfl) (by kernel_rfl) (by intro c d v a w h; cases d <;> exact h) rfl (fun w => exec_move (.tmp 6) _ rfl rfl) ?_
                try simp only [Act.put, List.setIfInBounds_toArray, List.set_cons_succ, List.set_cons_zero]
                refine any_pure 5 (v := .pointer (some ⟨b, o + j * 49, none⟩)) rfl (by kernel_rfl) (by kernel_rfl) (by kernel_rfl) (by intro c d v a w h; cases d <;> exact h) rfl (fun w => exec_index_rows 23 46 (.tmp 56) (.tmp 57) b o l.length c j 49 rfl rfl rfl Tryz.underlying23 (by kernel_rfl) Tryz.sizeOf46 hlt) ?_
                try simp only [Act.put, List.setIfInBounds_toArray, List.set_cons_succ, List.set_cons_zero]
                refine any_pure 9 (v := .slice A8 (out.length - k) cap8) rfl (by kernel_rfl) (by kernel_rfl) (by kernel_rfl) (by intro c d v a w h; cases d <;> exact h) rfl (fun w => exec_move (.tmp 8) _ rfl rfl) ?_
                try simp only [Act.put, List.setIfInBounds_toArray, List.set_cons_succ, List.set_cons_zero]
                refine any_run 6 rfl (by kernel_rfl) rfl (exec_load_run 46 (.tmp 58) (.pointer (some ⟨b, o + j * 49, none⟩)) (.agg (itA it)) rfl rfl (hldI ⟨w8.drew, (Q.trans hvq hq8).drew⟩)) ?_
                try simp only [Act.put, List.setIfInBounds_toArray, List.set_cons_succ, List.set_cons_zero]
                refine any_run 7 rfl (by kernel_rfl) rfl (exec_buildSlice_run 23 1 _ #[(0, .agg (itA it))] _ rfl (by simp only [List.map_toArray, List.map_cons, List.map_nil]; rfl) (bs_item it _)) ?_
                try simp only [Act.put, List.setIfInBounds_toArray, List.set_cons_succ, List.set_cons_zero]
                have hq9 : Q v.w (w8.drew.alloc (.cells (itA it) 46)) := Q.trans hq8.drew (q_new _ _ _)
                have hcut : Owns (w8.drew.alloc (.cells (itA it) 46)) w.heap.size 46 49 (.slice (some ⟨b2, o2, none⟩) k cc) k ((out.take k).flatMap ItemR.cells) := by
                  have := (hown1.q (Q.trans v.q hq9)).cut k hk
                  rwa [flat_take it_len] at this
                refine any_append_rows 8 it_len it_one rfl (by kernel_rfl) rfl (.tmp 55) (.tmp 60) 23 46 i0 _ 568 rfl Tryz.underlying23 hi hz0 hz1 hz2 rfl (by decide) (by decide) w.heap.size (.slice (some ⟨b2, o2, none⟩) k cc) k (out.take k) rfl hcut (some ⟨w8.drew.heap.size, 0, none⟩) 1 1 [it] rfl (RowsAt.one w8.drew 46 it (itA it) rfl) rfl (by omega) (by have := hq9.size; omega) ?_
                intro A9 cap9 w9 hc9 hm9 hown9 hg9
                try simp only [Act.put, List.setIfInBounds_toArray, List.set_cons_succ, List.set_cons_zero]
                have hq10 : Q w w9 := q_grown (Q.trans hvq hq9) (Nat.le_refl _) hcut hg9
                have hr9 : RowsAt w9 A8 49 ItemR.cells (out.drop k) := by
                  have h8 : Owns w9 v.w.heap.size 46 49 (.slice A8 (out.length - k) cap8) (out.length - k) ((out.drop k).flatMap ItemR.cells) := (hown8.drew.alloc (.cells (itA it) 46)).grown hg9 (by
                    cases hb8 : (Value.slice A8 (out.length - k) cap8).ownBlock with
                    | none => exact .inr rfl
                    | some g =>
                      refine .inl fun e9 => ?_
                      have e1 := (hown8.lt g hb8).1
                      cases hb9 : (Value.slice (some ⟨b2, o2, none⟩) k cc).ownBlock with
                      | none => rw [hb9] at e9; cases e9
                      | some g2 =>
                        have e2 := ((hown1.cut k hk).lt g2 hb9).2
                        rw [hb9] at e9
                        have e3 := Option.some.inj e9
                        omega)
                  exact Owns.rows it_len h8 (by rw [List.length_drop])
                refine any_append_rows 10 it_len it_one rfl (by kernel_rfl) rfl (.tmp 61) (.tmp 62) 23 46 i0 _ 568 rfl Tryz.underlying23 hi hz0 hz1 hz2 rfl (by decide) (by decide) w.heap.size (.slice A9 (k + 1) cap9) (k + 1) (out.take k ++ [it]) rfl hown9 A8 (out.length - k) cap8 (out.drop k) rfl hr9 (by rw [List.length_drop]) (by omega) hq10.size ?_
                intro A10 cap10 w10 hc10 hm10 hown10 hg10
                try simp only [Act.put, List.setIfInBounds_toArray, List.set_cons_succ, List.set_cons_zero]
                have hq11 : Q w w10 := q_grown hq10 (Nat.le_refl _) hown9 hg10
                refine any_run 11 rfl (by kernel_rfl) rfl (exec_assign (.tmp 63) (.slice A10 (k + 1 + (out.length - k)) cap10) rfl rfl) ?_
                try simp only [Act.put, List.setIfInBounds_toArray, List.set_cons_succ, List.set_cons_zero]
                refine any_done (by kernel_rfl) ?_ _
                have hlen : (outK kind l (j + 1)).length = k + 1 + (out.length - k) := by
                  rw [HX2.out, List.length_append, List.length_cons, List.length_take, List.length_drop]
                  omega
                have e11 : (out.take k ++ [it]) ++ out.drop k = outK kind l (j + 1) := by rw [HX2.out]; simp
                rw [e11] at hown10
                have HL := Lib.hid hlen
                have HO := Lib.hid hown10
                clear hown10 hown9 hcut hr9 e11 hlen hg9 hg10
                go_wp2_with fail
                exact ⟨⟨j + 1, cap10, A10, ⟨w10, hq11⟩, by rw [HL.out], by go_num, rfl, by omega, by rw [HL.out]; exact hc10, hm10, by rw [HL.out]; exact HO.out⟩, by simp only [intOf]; omega⟩
              · rw [ha] at hAf
                have HAL := Lib.hid (show ∀ i, k - 1 ≤ i → ∀ hi : i < out.length, afterI out[i] it = true from fun i h1 h2 => by
                  rcases Nat.eq_or_lt_of_le h1 with rfl | h3
                  · exact ha
                  · exact hall.out i (by omega) h2)
                subst eA2
                clear hc2 ha
                generalize out[k - 1] = q at *
                go_wp2_with fail
                refine wp_region_wd u (by kernel_rfl) (by kernel_rfl) ?_
                repeat (first | (refine wpQuiet_load_run 46 (.tmp 38) (.pointer (some ⟨b2, o2 + (k - 1) * 49, none⟩)) (.agg (itA q)) ?_ ?_ ?_ ?_ ?_; rfl; rfl; rfl; exact hldq; dsimp only [Act.put]; simp only [List.setIfInBounds_toArray, List.set_cons_succ, List.set_cons_zero]) | (refine wpQuiet_load_run 46 (.tmp 42) (.pointer (some ⟨b, o + j * 49, none⟩)) (.agg (itA it)) ?_ ?_ ?_ ?_ ?_; rfl; rfl; rfl; exact hldi; dsimp only [Act.put]; simp only [List.setIfInBounds_toArray, List.set_cons_succ, List.set_cons_zero]) | go_big_quiet_step (with_reducible exact Wd.call _ (hAf _)))
                refine wpQuiet_nil ?_
                rintro w'' ⟨v, rfl⟩
                go_wp2_with fail
                exact ⟨⟨k - 1, v, by congr 1; omega, rfl, by omega, HAL⟩, by simp only [intOf]; omega⟩
            · have hkz : k = 0 := by omega
              have HX2 := Lib.hid (HTK.out k HK1.out hk hall.out (.inl hkz))
              have hkp : decide (0 < k) = false := by simp [hkz]
              clear hkz hk0
              go_wp2_with fail
              refine wp_region_wd u (by kernel_rfl) (by kernel_rfl) ?_
              repeat (go_big_quiet_step (fail))
              refine wpQuiet_nil ?_
              rintro w'' ⟨v, rfl⟩
              clear hkp
              have hvq : Q w v.w := Q.trans hq1 v.q
              have hvs : w1.heap.size ≤ v.w.heap.size := v.q.size
              have hws : w.heap.size ≤ w1.heap.size := hq1.size
              go_upto_region 9 with (fail)
              refine wp_region_lit ?_
              refine wpList_buildSlice_run 23 0 #[] #[] (.slice (some ⟨v.w.heap.size, 0, none⟩) 0 0) rfl rfl (by simp) (bs_none v.w) ?_
              dsimp only [Act.put]
              simp only [List.setIfInBounds_toArray, List.set_cons_succ, List.set_cons_zero]
              refine wpList_move (.tmp 5) (.slice A' out.length cc) rfl rfl rfl ?_
              dsimp only [Act.put]
              simp only [List.setIfInBounds_toArray, List.set_cons_succ, List.set_cons_zero]
              refine wpList_move (.tmp 7) (.int .i64 (k : Int)) rfl rfl rfl ?_
              dsimp only [Act.put]
              simp only [List.setIfInBounds_toArray, List.set_cons_succ, List.set_cons_zero]
              refine wpList_slice_rows (f := ItemR.cells) 23 46 (.tmp 49) (.tmp 50) A' cc k 49 out rfl rfl Tryz.underlying23 (by kernel_rfl) Tryz.sizeOf46 rfl rfl hk hjc ((hrows v).q (q_new _ _ _)) ?_
              intro A7 hS7
              dsimp only [Act.put]
              simp only [List.setIfInBounds_toArray, List.set_cons_succ, List.set_cons_zero]
              refine wpList_append_rows it_len it_one rfl (.tmp 48) (.tmp 51) 23 46 i0 _ 568 rfl Tryz.underlying23 hi hz0 hz1 hz2 rfl (by decide) (by decide) v.w.heap.size (.slice (some ⟨v.w.heap.size, 0, none⟩) 0 0) 0 [] rfl (Owns.zero v.w v.w.heap.size 49 46 (Nat.le_refl _)) A7 (out.length - k) (cc - k) (out.drop k) rfl hS7 (by rw [List.length_drop]) (by omega) (by simp) ?_
              intro A8 cap8 w8 hc8 hm8 hown8 hg8
              simp only [Nat.zero_add] at hc8 hown8 ⊢
              have hq8 : Q v.w w8 := q_grown (q_new _ _ _) (Nat.le_refl _) (Owns.zero v.w v.w.heap.size 49 46 (Nat.le_refl _)) hg8
              have hown8 : Owns w8 v.w.heap.size 46 49 (.slice A8 (out.length - k) cap8) (out.length - k) ((out.drop k).flatMap ItemR.cells) := hown8
              have hw8 := hq8.size
              clear hg8 hS7
              go_upto_region 10 with (fail)
              refine wp_region_any (by kernel_rfl) ?_
              change wpAny _ _ _ _ 12 (Array.replicate 12 false) _ w8.drew
              refine any_pure 0 (v := .slice A' out.length cc) rfl (by kernel_rfl) (by kernel_rfl) (by kernel_rfl) (by intro c d v a w h; cases d <;> exact h) rfl (fun w => exec_move (.tmp 5) _ rfl rfl) ?_
              try simp only [Act.put, List.setIfInBounds_toArray, List.set_cons_succ, List.set_cons_zero]
              refine any_pure 1 (v := .int .i64 (k : Int)) rfl (by kernel_rfl) (by kernel_rfl) (by kernel_rfl) (by intro c d v a w h; cases d <;> exact h) rfl (fun w => exec_move (.tmp 7) _ rfl rfl) ?_
              try simp only [Act.put, List.setIfInBounds_toArray, List.set_cons_succ, List.set_cons_zero]
              refine any_pure 2 (v := .slice A' k cc) rfl (by kernel_rfl) (by kernel_rfl) (by kernel_rfl) (by intro c d v a w h; cases d <;> exact h) rfl (fun w => exec_slice_to 23 46 (.tmp 53) (.tmp 54) A' out.length cc k 49 rfl Tryz.underlying23 (by kernel_rfl) Tryz.sizeOf46 rfl rfl (by omega)) ?_
              try simp only [Act.put, List.setIfInBounds_toArray, List.set_cons_succ, List.set_cons_zero]
              refine any_pure 3 (v := .slice (some ⟨b, o, none⟩) l.length c) rfl (by kernel_rfl) (by kernel_rfl) (by kernel_rfl) (by intro c d v a w h; cases d <;> exact h) rfl (fun w => exec_move (.tmp 0) _ rfl rfl) ?_
              try simp only [Act.put, List.setIfInBounds_toArray, List.set_cons_succ, List.set_cons_zero]
              refine any_pure 4 (v := .int .i64 (j : Int)) rfl (by kernel_rfl) (by kernel_rfl) (by kernel_rfl) (by intro c d v a w h; cases d <;> exact h) rfl (fun w => exec_move (.tmp 6) _ rfl rfl) ?_
              try simp only [Act.put, List.setIfInBounds_toArray, List.set_cons_succ, List.set_cons_zero]
              refine any_pure 5 (v := .pointer (some ⟨b, o + j * 49, none⟩)) rfl (by kernel_rfl) (by kernel_rfl) (by kernel_rfl) (by intro c d v a w h; cases d <;> exact h) rfl (fun w => exec_index_rows 23 46 (.tmp 56) (.tmp 57) b o l.length c j 49 rfl rfl rfl Tryz.underlying23 (by kernel_rfl) Tryz.sizeOf46 hlt) ?_
              try simp only [Act.put, List.setIfInBounds_toArray, List.set_cons_succ, List.set_cons_zero]
              refine any_pure 9 (v := .slice A8 (out.length - k) cap8) rfl (by kernel_rfl) (by kernel_rfl) (by kernel_rfl) (by intro c d v a w h; cases d <;> exact h) rfl (fun w => exec_move (.tmp 8) _ rfl rfl) ?_
              try simp only [Act.put, List.setIfInBounds_toArray, List.set_cons_succ, List.set_cons_zero]
              refine any_run 6 rfl (by kernel_rfl) rfl (exec_load_run 46 (.tmp 58) (.pointer (some ⟨b, o + j * 49, none⟩)) (.agg (itA it)) rfl rfl (hldI ⟨w8.drew, (Q.trans hvq hq8).drew⟩)) ?_
              try simp only [Act.put, List.setIfInBounds_toArray, List.set_cons_succ, List.set_cons_zero]
              refine any_run 7 rfl (by kernel_rfl) rfl (exec_buildSlice_run 23 1 _ #[(0, .agg (itA it))] _ rfl (by simp only [List.map_toArray, List.map_cons, List.map_nil]; rfl) (bs_item it _)) ?_
              try simp only [Act.put, List.setIfInBounds_toArray, List.set_cons_succ, List.set_cons_zero]
              have hq9 : Q v.w (w8.drew.alloc (.cells (itA it) 46)) := Q.trans hq8.drew (q_new _ _ _)
              have hcut : Owns (w8.drew.alloc (.cells (itA it) 46)) w.heap.size 46 49 (.slice A' k cc) k ((out.take k).flatMap ItemR.cells) := by
                have := (hown1.q (Q.trans v.q hq9)).cut k hk
                rwa [flat_take it_len] at this
              refine any_append_rows 8 it_len it_one rfl (by kernel_rfl) rfl (.tmp 55) (.tmp 60) 23 46 i0 _ 568 rfl Tryz.underlying23 hi hz0 hz1 hz2 rfl (by decide) (by decide) w.heap.size (.slice A' k cc) k (out.take k) rfl hcut (some ⟨w8.drew.heap.size, 0, none⟩) 1 1 [it] rfl (RowsAt.one w8.drew 46 it (itA it) rfl) rfl (by omega) (by have := hq9.size; omega) ?_
              intro A9 cap9 w9 hc9 hm9 hown9 hg9
              try simp only [Act.put, List.setIfInBounds_toArray, List.set_cons_succ, List.set_cons_zero]
              have hq10 : Q w w9 := q_grown (Q.trans hvq hq9) (Nat.le_refl _) hcut hg9
              have hr9 : RowsAt w9 A8 49 ItemR.cells (out.drop k) := by
                have h8 : Owns w9 v.w.heap.size 46 49 (.slice A8 (out.length - k) cap8) (out.length - k) ((out.drop k).flatMap ItemR.cells) := (hown8.drew.alloc (.cells (itA it) 46)).grown hg9 (by
                  cases hb8 : (Value.slice A8 (out.length - k) cap8).ownBlock with
                  | none => exact .inr rfl
                  | some g =>
                    refine .inl fun e9 => ?_
                    have e1 := (hown8.lt g hb8).1
                    cases hb9 : (Value.slice A' k cc).ownBlock with
                    | none => rw [hb9] at e9; cases e9
                    | some g2 =>
                      have e2 := ((hown1.cut k hk).lt g2 hb9).2
                      rw [hb9] at e9
                      have e3 := Option.some.inj e9
                      omega)
                exact Owns.rows it_len h8 (by rw [List.length_drop])
              refine any_append_rows 10 it_len it_one rfl (by kernel_rfl) rfl (.tmp 61) (.tmp 62) 23 46 i0 _ 568 rfl Tryz.underlying23 hi hz0 hz1 hz2 rfl (by decide) (by decide) w.heap.size (.slice A9 (k + 1) cap9) (k + 1) (out.take k ++ [it]) rfl hown9 A8 (out.length - k) cap8 (out.drop k) rfl hr9 (by rw [List.length_drop]) (by omega) hq10.size ?_
              intro A10 cap10 w10 hc10 hm10 hown10 hg10
              try simp only [Act.put, List.setIfInBounds_toArray, List.set_cons_succ, List.set_cons_zero]
              have hq11 : Q w w10 := q_grown hq10 (Nat.le_refl _) hown9 hg10
              refine any_run 11 rfl (by kernel_rfl) rfl (exec_assign (.tmp 63) (.slice A10 (k + 1 + (out.length - k)) cap10) rfl rfl) ?_
              try simp only [Act.put, List.setIfInBounds_toArray, List.set_cons_succ, List.set_cons_zero]
              refine any_done (by kernel_rfl) ?_ _
              have hlen : (outK kind l (j + 1)).length = k + 1 + (out.length - k) := by
                rw [HX2.out, List.length_append, List.length_cons, List.length_take, List.length_drop]
                omega
              have e11 : (out.take k ++ [it]) ++ out.drop k = outK kind l (j + 1) := by rw [HX2.out]; simp
              rw [e11] at hown10
              have HL := Lib.hid hlen
              have HO := Lib.hid hown10
              clear hown10 hown9 hcut hr9 e11 hlen hg9 hg10
              go_wp2_with fail
              exact ⟨⟨j + 1, cap10, A10, ⟨w10, hq11⟩, by rw [HL.out], by go_num, rfl, by omega, by rw [HL.out]; exact hc10, hm10, by rw [HL.out]; exact HO.out⟩, by simp only [intOf]; omega⟩
      · have HS := Lib.hid (HSK.out (by unfold kindB; rw [decide_eq_false hk]; rfl))
        have hne : (it.kind != kind) = true := by simp [hk]
        clear HSK HTK HOI HOO hk hRt
        go_upto_region 5 with (fail)
        refine wp_region_lit ?_
        go_wp2_with (refine wpList_index_rows 23 46 (.tmp 15) (.tmp 16) b o l.length c j 49 rfl rfl rfl rfl Tryz.underlying23 (by kernel_rfl) Tryz.sizeOf46 hlt ?_)
        exact ⟨⟨j + 1, cc, A', z, by rw [HS.out], by go_num, rfl, by omega, by rw [HS.out]; exact hjc, hjm, by rw [HS.out]; exact hown⟩, by simp only [intOf]; omega⟩
    · have hjn : j = l.length := by omega
      have HF := Lib.hid (show outK kind l j = sortedK kind l by rw [hjn]; exact outK_all kind l)
      rw [HF.out] at hown hjc
      have hfin : ItemsAre (sortedK kind l) w (.returned (.slice A' (sortedK kind l).length cc)) z.w := ⟨A', cc, rfl, hjc, hjm, ⟨Owns.rows it_len hown rfl, fun q hq => (hIy z).each _ (mem_outK kind l j q (by rw [HF.out]; exact hq))⟩, z.q⟩
      have HFI := Lib.hid hfin
      rw [HF.out]
      clear hown hfin hjn
      go_wp2_with fail
      go_ret
      exact HFI.out
end Go.Proofs.YtomkeaeegdjhnaaGreatDoor.Known
