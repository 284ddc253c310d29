/-
  The contracts of package seal's Seal and Open and of package agoraref06's mix, Seal and Open.
-/
import Derived.Test.YtppbplchdfhnkaaDoorSealMask
import Derived.Deep.RegionHeld3
import Derived.StillTailTactics
import Derived.Maps.AppendAt
import Derived.Test.YtppbplchdfhnkaaDoorRefShaWalk
set_option linter.unusedVariables false
set_option linter.unusedSimpArgs false
namespace Go.Proofs.YtppbplchdfhnkaaDoor.Seal
open Go.RowKit Grp Mem _root_.Go.Proofs.YtppbplchdfhnkaaDoor.Code Sha
open Sign (q_new Strs.of)

theorem mask_any (key nonce data : ByteArray) (w : World) (hT : Tab w) (hz : key.size + nonce.size ≤ 140737488355000) (hd : data.size ≤ 140737488355328) :
    Calls Tryd.prog 67 #[.string key, .string nonce, .string data] w fun e w' => e = .returned (.string (maskB key nonce data)) ∧ Q w w' := by
  by_cases h : 0 < data.size
  · exact mask_full key nonce data w hT hz hd h
  · have hd0 : data = ⟨#[]⟩ := by
      apply ba_ext
      have : data.data.toList.length = 0 := by rw [ba_length]; omega
      exact List.eq_nil_of_length_eq_zero this
    rw [hd0]
    exact mask_empty key nonce w

theorem cells_mask (key nonce s : ByteArray) (k : Nat) : cellsOf (maskTo key nonce s (k + 1)) = cellsOf (maskTo key nonce s k) ++ [.int .u8 ((s.data.toList.getD k 0 ^^^ strAt key nonce k).toNat : Int)] := by
  rw [maskTo_succ, cellsOf_append]
  rfl

set_option maxRecDepth 100000 in
set_option maxHeartbeats 4000000 in
theorem Rmix_any (key nonce s : ByteArray) (w : World) (hz : key.size + nonce.size ≤ 140737488354000) (hd : s.size ≤ 140737488355000) :
    Calls Tryd.prog 69 #[.string key, .string nonce, .string s] w fun e w' => e = .returned (.string (maskB key nonce s)) ∧ Q w w' := by
  obtain ⟨i0, hi, hz0, hz1, hz2⟩ := info_parts Code.byte_info
  go_enter Tryd.func69, Tryd.ntmps69
  go_wp2_with fail
  go_loopw [7, 8, 9] (fun x b i wr => ∃ (A : Option Addr) (c k : Nat) (blk : ByteArray), x = .slice A k c ∧ b = .string blk ∧ i = .int .i64 k ∧ k ≤ s.size ∧ k ≤ c ∧ c ≤ maxLen ∧ Hid (k % 32 ≠ 0 → blk = streamB key nonce (k / 32)) ∧ Owns wr w.heap.size 5 1 (.slice A k c) k (cellsOf (maskTo key nonce s k)) ∧ Q w wr) (fun _ _ i _ => s.size - (intOf i).toNat)
  case atStart => exact ⟨none, 0, 0, ⟨#[]⟩, rfl, rfl, rfl, Nat.zero_le _, Nat.le_refl _, Nat.zero_le _, Lib.hid (fun h => absurd rfl h), Owns.nil_ _ _ _ _, Q.refl _⟩
  case round =>
    obtain ⟨A, c, k, blk, rfl, rfl, rfl, hk, hc, hcm, hblk, hown, hq⟩ := hrel
    by_cases hlt : k < s.size
    · obtain ⟨q, hq32⟩ : ∃ q, k % 32 = q := ⟨_, rfl⟩
      have q0 : q < 32 := by omega
      have f1 : (k : Int) % 32 = (q : Int) := by omega
      have f2 : (k : Int).tmod 32 = (q : Int) := by rw [Int.tmod_eq_emod_of_nonneg (by omega)]; omega
      have HD := Lib.hid (show (k : Int) / 32 = ((k / 32 : Nat) : Int) by omega)
      have d1 : (k : Int) / 32 ≤ 9223372036854775807 := by omega
      have f4 : IntKind.i64.wrap (q : Int) = (q : Int) := IntWalk.i64_in _ ⟨by omega, by omega⟩
      have k0 : (0 : Int) ≤ (k : Int) := by omega
      have k1 : (k : Int) < (s.size : Int) := by omega
      have q1 : (0 : Int) ≤ (q : Int) := by omega
      have hcm := cells_mask key nonce s k
      have hsk : s.data.toList.getD k 0 = s[k] := by
        rw [List.getD_eq_getElem?_getD, List.getElem?_eq_getElem (by rw [ba_length]; exact hlt)]
        rfl
      rw [hsk] at hcm
      have HCM := Lib.hid hcm
      clear hcm hsk
      have h4 := list4 streamT key nonce (numB ((k / 32 : Nat) : Int))
      have h5 : streamT.size = 6 := rfl
      have h6 := numB_size ((k / 32 : Nat) : Int)
      have HZ := Lib.hid (show (listL [streamT, key, nonce, numB ((k / 32 : Nat) : Int)]).length ≤ 140737488355100 by omega)
      have HAT := Lib.hid (fun h => strAt_block key nonce (k / 32) q q0 h)
      have hkk : 32 * (k / 32) + q = k := by omega
      have HKK := Lib.hid hkk
      have HQ := Lib.hid hq32
      have hsz : (streamB key nonce (k / 32)).size = 32 := sealH_size _
      have HSZ := Lib.hid hsz
      clear h4 h5 h6 hkk hsz
      have hsame : ∀ wr2 : World, True := fun _ => trivial
      by_cases hz0 : q = 0
      · have t1 : ((q : Int) == 0) = true := by simp [hz0]
        have HQ0 := Lib.hid hz0
        clear hz0 hblk hq32 hsame
        go_wp2_with fail
        refine (RNum_any _ _ d1).mono ?_
        rintro e w1 ⟨rfl, hq1⟩
        rw [HD.out]
        go_wp2_with fail
        refine (RH_new [streamT, key, nonce, numB ((k / 32 : Nat) : Int)] 4 _ _ _ rfl rfl (by decide) HZ.out).mono ?_
        rintro e w2 ⟨rfl, hq2⟩
        have hqq := Q.trans hq1 hq2
        have hown := hown.q hqq
        have hq := Q.trans hq hqq
        have hB : sealH [streamT, key, nonce, numB ((k / 32 : Nat) : Int)] = streamB key nonce (k / 32) := rfl
        generalize sealH [streamT, key, nonce, numB ((k / 32 : Nat) : Int)] = B at *
        have HB := Lib.hid hB
        clear hB hqq hq1 hq2 HZ
        have hbz : q < B.size := by rw [HB.out, HSZ.out]; exact q0
        have hbi : (q : Int) < (B.size : Int) := by omega
        obtain ⟨y, hy⟩ : ∃ y, y = s[k] ^^^ B[q] := ⟨_, rfl⟩
        have hst : strAt key nonce k = B[q] := by
          have h1 := HAT.out (by rw [HSZ.out]; exact q0)
          rw [HKK.out] at h1
          rw [h1]
          simp only [HB.out]
        have hcm2 := HCM.out
        rw [hst, ← hy] at hcm2
        have hxor : bits .xor .u8 (s[k].toNat : Int) (B[q].toNat : Int) = (y.toNat : Int) := by rw [byte_xor, hy]
        have hnx : (k + 1) % 32 ≠ 0 → B = streamB key nonce ((k + 1) / 32) := by
          intro h
          have := HQ.out
          rw [show (k + 1) / 32 = k / 32 by omega]
          exact HB.out
        have HNX := Lib.hid hnx
        have HCM2 := Lib.hid hcm2
        clear hy hst hcm2 hnx
        go_wp2_with fail
        go_region_held3 (fun w' => Q w w')
          (first | exact hq.drew | (with_reducible assumption) | exact q_alloc (by with_reducible assumption) _ | exact hq5)
          ((refine step_append_owns (by rfl) _ _ _ (by rfl) w.heap.size 5 i0 _ 1 1 Tryd.underlying93 hi hz0 hz1 hz2 rfl (by decide) _ k _ (by rfl) (hown.drew.alloc _) ⟨w2.heap.size, 0, none⟩ 1 1 [.int .u8 (y.toNat : Int)] (by rfl) rfl (cell_one_new w2.drew (.int .u8 (y.toNat : Int)) 5) (by simp [Value.oneCell']) (by simp only [maxLen]; omega) (by omega) (by have := hq.size; simp; omega) ?_; intro A2 cap2 w5 hn2 hm2 hown5 hg5; have hq5 := q_append hq.drew hown.drew hg5))
        all_goals
          rw [← HCM2.out] at hown5
          go_wp2
          exact ⟨⟨_, _, k + 1, B, rfl, rfl, by go_num, by omega, hn2, hm2, HNX, hown5, hq5⟩, by simp only [intOf]; omega⟩
      · have t1 : ((q : Int) == 0) = false := by simp [hz0]
        have hB : blk = streamB key nonce (k / 32) := hblk.out (by omega)
        obtain ⟨B, rfl⟩ : ∃ B : ByteArray, B = blk := ⟨_, rfl⟩
        have HB := Lib.hid hB
        clear hz0 hblk hq32 hsame hB HZ
        have hbz : q < B.size := by rw [HB.out, HSZ.out]; exact q0
        have hbi : (q : Int) < (B.size : Int) := by omega
        obtain ⟨y, hy⟩ : ∃ y, y = s[k] ^^^ B[q] := ⟨_, rfl⟩
        have hst : strAt key nonce k = B[q] := by
          have h1 := HAT.out (by rw [HSZ.out]; exact q0)
          rw [HKK.out] at h1
          rw [h1]
          simp only [HB.out]
        have hcm2 := HCM.out
        rw [hst, ← hy] at hcm2
        have hxor : bits .xor .u8 (s[k].toNat : Int) (B[q].toNat : Int) = (y.toNat : Int) := by rw [byte_xor, hy]
        have hnx : (k + 1) % 32 ≠ 0 → B = streamB key nonce ((k + 1) / 32) := by
          intro h
          have := HQ.out
          rw [show (k + 1) / 32 = k / 32 by omega]
          exact HB.out
        have HNX := Lib.hid hnx
        have HCM2 := Lib.hid hcm2
        clear hy hst hcm2 hnx
        go_wp2_with fail
        go_region_held3 (fun w' => Q w w')
          (first | exact hq.drew | (with_reducible assumption) | exact q_alloc (by with_reducible assumption) _ | exact hq5)
          ((refine step_append_owns (by rfl) _ _ _ (by rfl) w.heap.size 5 i0 _ 1 1 Tryd.underlying93 hi hz0 hz1 hz2 rfl (by decide) _ k _ (by rfl) (hown.drew.alloc _) ⟨wr.heap.size, 0, none⟩ 1 1 [.int .u8 (y.toNat : Int)] (by rfl) rfl (cell_one_new wr.drew (.int .u8 (y.toNat : Int)) 5) (by simp [Value.oneCell']) (by simp only [maxLen]; omega) (by omega) (by have := hq.size; simp; omega) ?_; intro A2 cap2 w5 hn2 hm2 hown5 hg5; have hq5 := q_append hq.drew hown.drew hg5))
        all_goals
          rw [← HCM2.out] at hown5
          go_wp2
          exact ⟨⟨_, _, k + 1, B, rfl, rfl, by go_num, by omega, hn2, hm2, HNX, hown5, hq5⟩, by simp only [intOf]; omega⟩
    · have hks : k = s.size := by omega
      have hml : (maskTo key nonce s k).length = k := maskTo_length _ _ _ _
      have hcv := run_string_of_owns (P := Tryd.prog) wr w.heap.size 93 9 5 (.slice A k c) (maskTo key nonce s k) Tryd.underlying93 Tryd.underlying5 Tryd.underlying9 (by rw [hml]; exact hown)
      have hfin : (⟨(maskTo key nonce s k).toArray⟩ : ByteArray) = maskB key nonce s := by rw [hks]; rfl
      have HF := Lib.hid hfin
      clear hks hfin hml
      go_wp2
      go_ret
      exact ⟨by rw [HF.out]; rfl, hq⟩

/-! ### Boxes -/
def boxCs (b : BoxV) : Array Value := #[.string b.1, .string b.2.1, .string b.2.2]
def boxV (b : BoxV) : Value := .agg (boxCs b)
theorem box_all (b : BoxV) : (boxCs b).all (·.oneCell') = true := by simp [boxCs, Value.oneCell']

set_option maxHeartbeats 1000000 in
theorem Seal_any (key nonce plain : ByteArray) (w : World) (hT : Tab w) (hz : key.size + nonce.size + plain.size ≤ 140737488355000) :
    Calls Tryd.prog 28 #[.string key, .string nonce, .string plain] w fun e w' => e = .returned (boxV (sealB key nonce plain)) ∧ Q w w' := by
  have hk := Lib.hid (box_all (sealB key nonce plain))
  have hb0 := Blk.new w 23 (boxCs (⟨#[]⟩, ⟨#[]⟩, ⟨#[]⟩))
  have hq0 := q_new w (boxCs (⟨#[]⟩, ⟨#[]⟩, ⟨#[]⟩)) 23
  have hms := maskB_size key nonce plain
  have HS := Lib.hid (show key.size + nonce.size + (maskB key nonce plain).size ≤ 140737488355000 by omega)
  clear hms
  go_enter Tryd.func28, Tryd.ntmps28
  go_wp2_with fail
  refine (mask_any _ _ _ _ (hT.q hq0) (by omega) (by omega)).mono ?_
  rintro e w1 ⟨rfl, hq1⟩
  have hb := hb0.q hq1
  have hq1 := Q.trans hq0 hq1
  go_wp2_with fail
  refine (tag_any _ _ _ _ (hT.q hq1) HS.out).mono ?_
  rintro e w2 ⟨rfl, hq2⟩
  have hb := hb.q hq2
  have hq := Q.trans hq1 hq2
  go_wp2_with (refine wpList_store_row rfl 23 _ _ rfl w.heap.size (boxCs (sealB key nonce plain)) rfl rfl 23 (boxCs (⟨#[]⟩, ⟨#[]⟩, ⟨#[]⟩)) hb (by kernel_rfl) (by kernel_rfl) hk.out ?_)
  exact bodyPost_ret (results_cell_row rfl _ _ w.heap.size 23 (boxCs (sealB key nonce plain)) (0, 0) _ rfl (Blk.setRow hb _) Tryd.underlying23 rfl (by kernel_rfl)) rfl ⟨rfl, below_setRow hq (Nat.le_refl _) _⟩
end Go.Proofs.YtppbplchdfhnkaaDoor.Seal
