/-
  The walk of agoralaw06.SealStreams.
-/
import Derived.Test.YtppbplchdfhnkaaDoorSealSmall
set_option linter.unusedVariables false
set_option linter.unusedSimpArgs false
namespace Go.Proofs.YtppbplchdfhnkaaDoor.Seal
open Go.RowKit Grp Mem _root_.Go.Proofs.YtppbplchdfhnkaaDoor.Code Sha
open Sign (q_new Strs.of)

theorem list_extract (s : ByteArray) (n : Nat) : (s.extract 0 n).data.toList = s.data.toList.take n := by
  rw [ByteArray.data_extract]
  simp
theorem box_field (x y z : ByteArray) (w : World) : (Instr.field 23 (.agg #[.string x, .string y, .string z]) 1).run Tryd.prog w = .ok (.string y) w := by
  have h1 := Tryd.underlying23
  have u3 := Tryd.underlying9
  have a3 := Tryd.isAgg9
  have z3 := Tryd.sizeOf9
  unfold Instr.field
  go_simp
  simp [asAgg, Result.andThen]
theorem qt_step {w0 w w' : World} (h : Q w0 w ∧ Tab w) (hq : Q w w') : Q w0 w' ∧ Tab w' := ⟨Q.trans h.1 hq, h.2.q hq⟩
theorem getD_at (s : ByteArray) (k : Nat) (h : k < s.size) : s.data.toList.getD k 0 = s[k] := by
  rw [List.getD_eq_getElem?_getD, List.getElem?_eq_getElem (by rw [ba_length]; exact h)]
  rfl
theorem mask_extract (key nonce s : ByteArray) (n : Nat) (h : n ≤ s.size) : maskB key nonce (s.extract 0 n) = (maskB key nonce s).extract 0 n := by
  have hn : (s.extract 0 n).size = n := by rw [ByteArray.size_extract]; omega
  apply ba_ext
  rw [list_extract, maskB_list, maskB_list, hn]
  apply List.ext_getElem
  · rw [List.length_take, maskTo_length, maskTo_length]; omega
  · intro i h1 h2
    rw [maskTo_length] at h1
    rw [List.getElem_take]
    simp only [maskTo, List.getElem_map, List.getElem_range]
    rw [list_extract]
    simp [List.getD_eq_getElem?_getD, List.getElem?_take, h1]
theorem few4 (a b c d : ByteArray) (w : World) (r : Bool) (ha : a.size ≤ 281474976710656) (hb : b.size ≤ 281474976710656) (hc : c.size ≤ 281474976710656) (hd : d.size ≤ 281474976710656) (hr : decide (a.size + b.size + c.size + d.size ≤ 2000) = r) (t : TypeId) :
    Calls Tryd.prog 21 #[.slice (some ⟨w.heap.size, 0, none⟩) 4 4] (w.alloc (.cells #[.string a, .string b, .string c, .string d] t)) fun e w' => e = .returned (.bool r) ∧ Q w w' :=
  few_new [a, b, c, d] 4 _ t w r rfl rfl (by decide) (by simp; omega) (by rw [← hr]; simp [Nat.add_assoc])
theorem Seal_q {w0 w : World} (key nonce plain x y z : ByteArray) (h : Q w0 w ∧ Tab w) (hr : sealB key nonce plain = (x, y, z)) (hz : key.size + nonce.size + plain.size ≤ 140737488355000) :
    Calls Tryd.prog 28 #[.string key, .string nonce, .string plain] w fun e w' => e = .returned (.agg #[.string x, .string y, .string z]) ∧ Q w w' := Seal_at key nonce plain x y z w hr h.2 hz

set_option maxHeartbeats 2000000 in
theorem streams_out (key nonce s t : ByteArray) (w : World) (hT : Tab w) (ha : key.size ≤ 281474976710656) (hb : nonce.size ≤ 281474976710656) (hc : s.size ≤ 281474976710656) (hd : t.size ≤ 281474976710656) (hr : decide (key.size + nonce.size + s.size + t.size ≤ 2000) = false) :
    Calls Tryd.prog 5 #[.string key, .string nonce, .string s, .string t] w fun e w' => e = .returned (.bool true) ∧ Q w w' := by
  go_enter Tryd.func5, Tryd.ntmps5
  go_wp2_with fail
  refine (small_any _ hT).mono ?_
  rintro e w1 ⟨rfl, hq1⟩
  go_wp2_with fail
  refine (few4 _ _ _ _ _ _ ha hb hc hd hr _).mono ?_
  rintro e w2 ⟨rfl, hq2⟩
  go_wp2
  go_ret
  exact ⟨rfl, Q.trans hq1 hq2⟩

set_option maxRecDepth 100000 in
set_option maxHeartbeats 8000000 in
theorem streams_in (key nonce s t : ByteArray) (w : World) (hT : Tab w) (hf : decide (key.size + nonce.size + s.size + t.size ≤ 2000) = true) (A B C ta tb tc : ByteArray) (n : Nat) (hn : (if (s.size : Int) ≤ (t.size : Int) then (s.size : Int) else (t.size : Int)) = (n : Int))
    (hnm : min (s.size : Int) (t.size : Int) = (n : Int)) (hns : (n : Int) ≤ (s.size : Int)) (hnt : (n : Int) ≤ (t.size : Int))
    (hA : sealB key nonce s = (nonce, A, ta)) (hB : sealB key nonce t = (nonce, B, tb)) (hC : sealB key nonce (s.extract 0 n) = (nonce, A.extract 0 n, tc)) (hAs : A.size = s.size) (hBs : B.size = t.size)
    (hx : ∀ k, k < n → A.data.toList.getD k 0 ^^^ B.data.toList.getD k 0 = s.data.toList.getD k 0 ^^^ t.data.toList.getD k 0) :
    Calls Tryd.prog 5 #[.string key, .string nonce, .string s, .string t] w fun e w' => e = .returned (.bool true) ∧ Q w w' := by
  have hf' : key.size + nonce.size + s.size + t.size ≤ 2000 := by simpa using hf
  have hes : (s.extract 0 n).size ≤ 2000 := by rw [ByteArray.size_extract]; omega
  have hAs' : (A.size : Int) = (s.size : Int) := by omega
  have hBs' : (B.size : Int) = (t.size : Int) := by omega
  have hnA : (n : Int) ≤ (A.size : Int) := by omega
  have HX := Lib.hid hx
  clear hx
  have hFA := fun w' => box_field nonce A ta w'
  have hFB := fun w' => box_field nonce B tb w'
  have hFC := fun w' => box_field nonce (A.extract 0 n) tc w'
  go_enter Tryd.func5, Tryd.ntmps5
  go_wp2_with fail
  refine (small_any _ hT).mono ?_
  rintro e w1 ⟨rfl, hq1⟩
  go_wp2_with fail
  refine (few4 _ _ _ _ _ _ (by omega) (by omega) (by omega) (by omega) hf _).mono ?_
  rintro e w2 ⟨rfl, hq2⟩
  have hq2 := Q.trans hq1 hq2
  go_wp2_with fail
  refine (Seal_at _ _ _ _ _ _ _ hA (hT.q hq2) (by omega)).mono ?_
  rintro e w3 ⟨rfl, hq3⟩
  have hq3 := Q.trans hq2 hq3
  go_wp2_with fail
  refine (Seal_at _ _ _ _ _ _ _ hB (hT.q hq3) (by omega)).mono ?_
  rintro e w4 ⟨rfl, hq4⟩
  have hq4 := Q.trans hq3 hq4
  have hq5 : Q w w4 ∧ Tab w4 := ⟨hq4, hT.q hq4⟩
  clear hq1 hq2 hq3 hq4
  go_wp2_with fail
  go_region_held3 (fun w' => Q w w' ∧ Tab w')
    (first | exact ⟨hq5.1.drew, hT.q hq5.1.drew⟩ | (with_reducible assumption) | exact qt_step (by assumption) hq)
    (first
      | (go_at_call 28; refine (Seal_q _ _ _ _ _ _ (by assumption) hC (by omega)).mono ?_; rintro e w' ⟨rfl, hq⟩))
  all_goals
    have hq6 : Q w w' := by rename_i hh; exact hh.1
    generalize w' = W at *
    clear hq5
    go_wp2_with fail
    go_loopw [13] (fun i wr => ∃ k : Nat, i = .int .i64 k ∧ k ≤ n ∧ Q w wr) (fun i _ => n - (intOf i).toNat)
    case atStart => exact ⟨0, rfl, Nat.zero_le _, hq6⟩
    case round =>
      obtain ⟨k, rfl, hk, hq⟩ := hrel
      by_cases hlt : k < n
      · have kA : k < A.size := by omega
        have kB : k < B.size := by omega
        have ks : k < s.size := by omega
        have kt : k < t.size := by omega
        have jA : (k : Int) < (A.size : Int) := by omega
        have jB : (k : Int) < (B.size : Int) := by omega
        have js : (k : Int) < (s.size : Int) := by omega
        have jt : (k : Int) < (t.size : Int) := by omega
        have hxx := HX.out k hlt
        rw [getD_at A k kA, getD_at B k kB, getD_at s k ks, getD_at t k kt] at hxx
        have hx2 : bits .xor .u8 (A[k].toNat : Int) (B[k].toNat : Int) = bits .xor .u8 (s[k].toNat : Int) (t[k].toNat : Int) := by rw [byte_xor, byte_xor, hxx]
        clear hxx hAs' hBs'
        go_wp2_with fail
        go_region_held3 (fun w' => Q w w')
          (first | exact hq.drew | (with_reducible assumption))
          (fail)
        all_goals
          go_wp2
          exact ⟨⟨k + 1, by go_num, by omega, hq.drew⟩, by simp only [intOf]; omega⟩
      · have hkn : k = n := by omega
        go_wp2
        go_ret
        exact ⟨rfl, hq⟩

theorem streams_any (key nonce s t : ByteArray) (w : World) (hT : Tab w) (ha : key.size ≤ 281474976710656) (hb : nonce.size ≤ 281474976710656) (hc : s.size ≤ 281474976710656) (hd : t.size ≤ 281474976710656) :
    Calls Tryd.prog 5 #[.string key, .string nonce, .string s, .string t] w fun e w' => e = .returned (.bool true) ∧ Q w w' := by
  by_cases h : key.size + nonce.size + s.size + t.size ≤ 2000
  · obtain ⟨n, hn⟩ : ∃ n, min s.size t.size = n := ⟨_, rfl⟩
    have hns : n ≤ s.size := by omega
    have hnt : n ≤ t.size := by omega
    refine streams_in key nonce s t w hT (by simpa using h) (maskB key nonce s) (maskB key nonce t) ⟨#[]⟩ _ _ _ n (by split <;> omega) (by omega) (by omega) (by omega) rfl rfl (by unfold sealB; rw [mask_extract _ _ _ _ hns]) (maskB_size _ _ _) (maskB_size _ _ _) ?_
    intro k hk
    rw [maskB_get _ _ _ _ (by omega), maskB_get _ _ _ _ (by omega)]
    generalize s.data.toList.getD k 0 = a
    generalize t.data.toList.getD k 0 = b
    generalize strAt key nonce k = c
    rw [UInt8.xor_assoc, UInt8.xor_comm b c, ← UInt8.xor_assoc c c b, UInt8.xor_self, UInt8.zero_xor]
  · exact streams_out key nonce s t w hT ha hb hc hd (by simpa using h)
end Go.Proofs.YtppbplchdfhnkaaDoor.Seal
