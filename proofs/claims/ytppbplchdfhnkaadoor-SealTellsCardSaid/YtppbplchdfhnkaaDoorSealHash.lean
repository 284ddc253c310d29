/-
  The contracts of package seal's hash, tag, wrappingKey, isPublic and isSecret, and of package agoraref06's H, tag and wrapping.
-/
import Derived.Test.YtppbplchdfhnkaaDoorSealSpec
import Derived.Test.YtppbplchdfhnkaaDoorSignChal
import Derived.Test.YtppbplchdfhnkaaDoorRefSha
import Derived.Test.YtppbplchdfhnkaaDoorRefNum
import Derived.Test.YtppbplchdfhnkaaDoorRefCode
set_option linter.unusedVariables false
set_option linter.unusedSimpArgs false
namespace Go.Proofs.YtppbplchdfhnkaaDoor.Seal
open Go.RowKit Grp Mem _root_.Go.Proofs.YtppbplchdfhnkaaDoor.Code Sha
open Sign (q_new Strs.of)

theorem Shash_any (A : Option Addr) (n c : Nat) (l : List ByteArray) (w : World) (hT : Tab w) (hS : Strs w A l) (hn : l.length = n) (hz : (listL l).length ≤ 140737488355327) (hn1 : n ≤ 1000) :
    Calls Tryd.prog 71 #[.slice A n c] w fun e w' => e = .returned (.string (sealH l)) ∧ Q w w' := by
  subst hn
  have hzz : (listB l).size ≤ 140737488355327 := by unfold listB; rw [ba_size]; exact hz
  have HZ := Lib.hid hzz
  clear hzz
  go_enter Tryd.func71, Tryd.ntmps71
  go_wp2_with fail
  refine (List_any A c l _ hS hz (by omega)).mono ?_
  rintro e w1 ⟨rfl, hq1⟩
  go_wp2_with fail
  refine (Sha_any _ _ (hT.q hq1) HZ.out).mono ?_
  rintro e w2 ⟨rfl, hq2⟩
  go_wp2
  go_ret
  exact ⟨rfl, Q.trans hq1 hq2⟩
theorem Shash_new (l : List ByteArray) (n : Nat) (cs : Array Value) (t : TypeId) (w : World) (hT : Tab w) (hn : l.length = n) (hcs : (l.map Value.string).toArray = cs) (h1 : n ≤ 100) (hs : (listL l).length ≤ 140737488355327) :
    Calls Tryd.prog 71 #[.slice (some ⟨w.heap.size, 0, none⟩) n n] (w.alloc (.cells cs t)) fun e w' => e = .returned (.string (sealH l)) ∧ Q w w' := by
  subst hcs
  refine (Shash_any _ n n l _ (hT.q (q_new w _ t)) (Strs.of (Blk.new w t _)) hn hs (by omega)).mono fun e w' ⟨h1, h2⟩ => ⟨h1, Q.trans (q_new w _ t) h2⟩

set_option maxHeartbeats 1000000 in
theorem RList_any (A : Option Addr) (c : Nat) (l : List ByteArray) (w : World) (hS : Strs w A l) (hl : (listL l).length ≤ 140737488355200) (hn : l.length ≤ 140737488355200) :
    Calls Tryd.prog 108 #[.slice A l.length c] w fun e w' => e = .returned (.string (listB l)) ∧ Q w w' := by
  have h0 : numB (l.length : Int) = ⟨(upto l 0).toArray⟩ := by
    rw [upto_zero]
    unfold numB
    rw [if_neg (by omega), Int.toNat_natCast]
  have H0 := Lib.hid h0
  clear h0
  go_enter Tryd.func108, Tryd.ntmps108
  go_wp2_with fail
  refine (RNum_any _ _ (by omega)).mono ?_
  rintro e w1 ⟨rfl, hq1⟩
  rw [H0.out]
  go_wp2_with fail
  go_loopw [3, 4] (fun s i wr => ∃ k : Nat, s = .string ⟨(upto l k).toArray⟩ ∧ i = .int .i64 k ∧ k ≤ l.length ∧ Q w wr) (fun _ i _ => l.length - (intOf i).toNat)
  case atStart => exact ⟨0, rfl, rfl, Nat.zero_le _, hq1⟩
  case round =>
    obtain ⟨k, rfl, rfl, hk, hq⟩ := hrel
    by_cases hlt : k < l.length
    · obtain ⟨b, o, rfl, hb, hcell⟩ := (hS.q hq) (by omega)
      have hce := hcell k hlt
      clear hcell
      have hle := upto_le l (k + 1) hlt
      rw [upto_succ l k hlt, List.length_append] at hle
      have hts : l[k].size ≤ (textL l[k]).length := by unfold textL; rw [List.length_append, ba_length]; omega
      have hsz : (⟨(upto l k).toArray⟩ : ByteArray).size + (textB l[k]).size ≤ 9223372036854775807 := by unfold textB; rw [ba_size, ba_size]; omega
      have hst : (⟨(upto l k).toArray⟩ : ByteArray) ++ textB l[k] = ⟨(upto l (k + 1)).toArray⟩ := by
        apply ba_ext
        unfold textB
        rw [ba_append, ba_list, ba_list, ba_list, upto_succ l k hlt]
      have HST := Lib.hid hst
      have hks : l[k].size ≤ 140737488355327 := by omega
      clear hst hle hts
      generalize l[k] = s at *
      generalize (⟨(upto l k).toArray⟩ : ByteArray) = u at *
      go_wp2_with fail
      refine (RText_any _ _ hks).mono ?_
      rintro e w3 ⟨rfl, hq3⟩
      go_wp2
      exact ⟨⟨k + 1, by rw [HST.out], by go_num, by omega, Q.trans hq hq3⟩, by simp only [intOf]; omega⟩
    · have hkl : upto l k = listL l := by rw [show k = l.length by omega, upto_all]
      have HK := Lib.hid hkl
      clear hkl
      go_wp2
      go_ret
      exact ⟨by rw [HK.out]; rfl, hq⟩
theorem RH_any (A : Option Addr) (n c : Nat) (l : List ByteArray) (w : World) (hS : Strs w A l) (hn : l.length = n) (hz : (listL l).length ≤ 140737488355100) (hn1 : n ≤ 1000) :
    Calls Tryd.prog 74 #[.slice A n c] w fun e w' => e = .returned (.string (sealH l)) ∧ Q w w' := by
  subst hn
  have hzz : (listB l).size ≤ 140737488355200 := by unfold listB; rw [ba_size]; omega
  have HZ := Lib.hid hzz
  clear hzz
  go_enter Tryd.func74, Tryd.ntmps74
  go_wp2_with fail
  refine (RList_any A c l _ hS (by omega) (by omega)).mono ?_
  rintro e w1 ⟨rfl, hq1⟩
  go_wp2_with fail
  refine (RSha_any _ _ HZ.out).mono ?_
  rintro e w2 ⟨rfl, hq2⟩
  go_wp2
  go_ret
  exact ⟨rfl, Q.trans hq1 hq2⟩
theorem RH_new (l : List ByteArray) (n : Nat) (cs : Array Value) (t : TypeId) (w : World) (hn : l.length = n) (hcs : (l.map Value.string).toArray = cs) (h1 : n ≤ 100) (hs : (listL l).length ≤ 140737488355100) :
    Calls Tryd.prog 74 #[.slice (some ⟨w.heap.size, 0, none⟩) n n] (w.alloc (.cells cs t)) fun e w' => e = .returned (.string (sealH l)) ∧ Q w w' := by
  subst hcs
  refine (RH_any _ n n l _ (Strs.of (Blk.new w t _)) hn hs (by omega)).mono fun e w' ⟨h1, h2⟩ => ⟨h1, Q.trans (q_new w _ t) h2⟩

theorem list4 (a b c d : ByteArray) : (listL [a, b, c, d]).length ≤ 50 + a.size + b.size + c.size + d.size := by
  have := listL_length [a, b, c, d]
  simp at this
  omega
theorem list3 (a b c : ByteArray) : (listL [a, b, c]).length ≤ 40 + a.size + b.size + c.size := by
  have := listL_length [a, b, c]
  simp at this
  omega
theorem list2 (a b : ByteArray) : (listL [a, b]).length ≤ 30 + a.size + b.size := by
  have := listL_length [a, b]
  simp at this
  omega
theorem lit_size (l : List UInt8) : (lit l).size = l.length := ba_size l
theorem cut16 (l : List ByteArray) : (16 : Int) ≤ ((sealH l).size : Int) := by rw [sealH_size]; decide

theorem tag_any (key nonce data : ByteArray) (w : World) (hT : Tab w) (hz : key.size + nonce.size + data.size ≤ 140737488355000) :
    Calls Tryd.prog 66 #[.string key, .string nonce, .string data] w fun e w' => e = .returned (.string (tagB key nonce data)) ∧ Q w w' := by
  have h4 := list4 tagT key nonce data
  have h5 : tagT.size = 3 := rfl
  have hc := cut16 [tagT, key, nonce, data]
  have HZ := Lib.hid (show (listL [tagT, key, nonce, data]).length ≤ 140737488355327 by omega)
  clear h4 h5
  unfold tagB
  go_enter Tryd.func66, Tryd.ntmps66
  go_wp2_with fail
  refine (Shash_new [tagT, key, nonce, data] 4 _ _ _ hT rfl rfl (by decide) HZ.out).mono ?_
  rintro e w1 ⟨rfl, hq1⟩
  go_wp2
  go_ret
  exact ⟨rfl, hq1⟩
theorem Rtag_any (key nonce data : ByteArray) (w : World) (hz : key.size + nonce.size + data.size ≤ 140737488355000) :
    Calls Tryd.prog 68 #[.string key, .string nonce, .string data] w fun e w' => e = .returned (.string (tagB key nonce data)) ∧ Q w w' := by
  have h4 := list4 tagT key nonce data
  have h5 : tagT.size = 3 := rfl
  have hc := cut16 [tagT, key, nonce, data]
  have HZ := Lib.hid (show (listL [tagT, key, nonce, data]).length ≤ 140737488355100 by omega)
  clear h4 h5
  unfold tagB
  go_enter Tryd.func68, Tryd.ntmps68
  go_wp2_with fail
  refine (RH_new [tagT, key, nonce, data] 4 _ _ _ rfl rfl (by decide) HZ.out).mono ?_
  rintro e w1 ⟨rfl, hq1⟩
  go_wp2
  go_ret
  exact ⟨rfl, hq1⟩
theorem wk_any (a b c : Int) (w : World) (hT : Tab w) (ha : a ≤ 9223372036854775807) (hb : b ≤ 9223372036854775807) (hc : c ≤ 9223372036854775807) :
    Calls Tryd.prog 72 #[.int .i64 a, .int .i64 b, .int .i64 c] w fun e w' => e = .returned (.string (wkB a b c)) ∧ Q w w' := by
  have h4 := list4 wrapT (numB a) (numB b) (numB c)
  have h5 : wrapT.size = 4 := rfl
  have k1 := numB_size a
  have k2 := numB_size b
  have k3 := numB_size c
  have HZ := Lib.hid (show (listL [wrapT, numB a, numB b, numB c]).length ≤ 140737488355327 by omega)
  clear h4 h5 k1 k2 k3
  unfold wkB
  go_enter Tryd.func72, Tryd.ntmps72
  go_wp2_with fail
  refine (Num_any _ _ ha).mono ?_
  rintro e w1 ⟨rfl, hq1⟩
  go_wp2_with fail
  refine (Num_any _ _ hb).mono ?_
  rintro e w2 ⟨rfl, hq2⟩
  go_wp2_with fail
  refine (Num_any _ _ hc).mono ?_
  rintro e w3 ⟨rfl, hq3⟩
  have hq := Q.trans hq1 (Q.trans hq2 hq3)
  go_wp2_with fail
  refine (Shash_new [wrapT, numB a, numB b, numB c] 4 _ _ _ (hT.q hq) rfl rfl (by decide) HZ.out).mono ?_
  rintro e w4 ⟨rfl, hq4⟩
  go_wp2
  go_ret
  exact ⟨rfl, Q.trans hq hq4⟩
theorem Rwk_any (a b c : Int) (w : World) (ha : a ≤ 9223372036854775807) (hb : b ≤ 9223372036854775807) (hc : c ≤ 9223372036854775807) :
    Calls Tryd.prog 77 #[.int .i64 a, .int .i64 b, .int .i64 c] w fun e w' => e = .returned (.string (wkB a b c)) ∧ Q w w' := by
  have h4 := list4 wrapT (numB a) (numB b) (numB c)
  have h5 : wrapT.size = 4 := rfl
  have k1 := numB_size a
  have k2 := numB_size b
  have k3 := numB_size c
  have HZ := Lib.hid (show (listL [wrapT, numB a, numB b, numB c]).length ≤ 140737488355100 by omega)
  clear h4 h5 k1 k2 k3
  unfold wkB
  go_enter Tryd.func77, Tryd.ntmps77
  go_wp2_with fail
  refine (RNum_any _ _ ha).mono ?_
  rintro e w1 ⟨rfl, hq1⟩
  go_wp2_with fail
  refine (RNum_any _ _ hb).mono ?_
  rintro e w2 ⟨rfl, hq2⟩
  go_wp2_with fail
  refine (RNum_any _ _ hc).mono ?_
  rintro e w3 ⟨rfl, hq3⟩
  have hq := Q.trans hq1 (Q.trans hq2 hq3)
  go_wp2_with fail
  refine (RH_new [wrapT, numB a, numB b, numB c] 4 _ _ _ rfl rfl (by decide) HZ.out).mono ?_
  rintro e w4 ⟨rfl, hq4⟩
  go_wp2
  go_ret
  exact ⟨rfl, Q.trans hq hq4⟩
theorem isPublic_any (n : Int) (w : World) : Calls Tryd.prog 70 #[.int .i64 n] w fun e w' => e = .returned (.bool (isPubI n)) ∧ w = w' := by
  unfold isPubI
  by_cases h1 : 1 ≤ n <;> by_cases h2 : n ≤ 2305843009213693950
  all_goals
    go_enter Tryd.func70, Tryd.ntmps70
    go_wp2
    go_ret
    exact ⟨by simp [h1, h2], rfl⟩
theorem isSecret_any (n : Int) (w : World) : Calls Tryd.prog 78 #[.int .i64 n] w fun e w' => e = .returned (.bool (isSecI n)) ∧ w = w' := by
  unfold isSecI
  by_cases h1 : 1 ≤ n <;> by_cases h2 : n ≤ 2305843009213693949
  all_goals
    go_enter Tryd.func78, Tryd.ntmps78
    go_wp2
    go_ret
    exact ⟨by simp [h1, h2], rfl⟩
end Go.Proofs.YtppbplchdfhnkaaDoor.Seal
