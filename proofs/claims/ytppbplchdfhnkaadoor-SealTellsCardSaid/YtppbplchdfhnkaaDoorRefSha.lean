/-
  The contract of package agoraref03's Sha.
-/
import Derived.Test.YtppbplchdfhnkaaDoorRefShaNext
set_option linter.unusedVariables false
set_option linter.unusedSimpArgs false
namespace Go.Proofs.YtppbplchdfhnkaaDoor.Sha
open Go.RowKit Grp Mem _root_.Go.Proofs.YtppbplchdfhnkaaDoor.Code

/-- The padded text with the first j bytes of the length. -/
def finS (s : ByteArray) (j : Nat) : List UInt8 := pre s (zeros s) ++ be s.size j
theorem finS_zero (s : ByteArray) : finS s 0 = pre s (zeros s) := by simp [finS, be]
theorem finS_succ (s : ByteArray) (j : Nat) : cellsOf (finS s (j + 1)) = cellsOf (finS s j) ++ [Value.int .u8 ((s.size * 8 / 2 ^ (56 - 8 * j) % 256 : Nat) : Int)] := by
  rw [finS, be_succ, ← List.append_assoc, cellsOf_append]
  congr 1
  simp [cellsOf, UInt8.toNat_ofNat']
theorem finS_length (s : ByteArray) (j : Nat) : (finS s j).length = s.size + 1 + zeros s + j := by rw [finS, List.length_append, pre_length, be_length]
theorem finS_all (s : ByteArray) : finS s 8 = padded s := by simp [finS, padded, tail, pre]

theorem padded_cell (s : ByteArray) (j k : Nat) (h : 64 * j + 64 ≤ (padded s).length) (hk : k < 64) : (cellsOf (padded s))[64 * j + k]? = some (.int .u8 (byteAt (blk (padded s) j) k)) := by
  rw [blk_byte _ _ _ hk, List.getD_eq_getElem?_getD]
  have hl : 64 * j + k < (padded s).length := by omega
  simp [cellsOf, List.getElem?_eq_getElem hl]
theorem padded_blocks {w : World} {base gp cap : Nat} (s : ByteArray) (h : Owns w base 5 1 (.slice (some ⟨gp, 0, none⟩) (padded s).length cap) (padded s).length (cellsOf (padded s))) (j : Nat) (hj : 64 * j + 64 ≤ (padded s).length) : Bytes64 w gp (64 * j) (blk (padded s) j) := by
  refine ⟨(h.lt gp rfl).2, fun k hk => ?_⟩
  obtain ⟨g', he, -, -, hc, -⟩ := h.cellAt _ _ (padded_cell s j k hj hk)
  obtain rfl : gp = g' := by injection he with h; injection h
  exact hc

set_option maxRecDepth 100000 in
set_option maxHeartbeats 2000000 in
theorem RSha_any (s : ByteArray) (w : World) (hsm : s.size ≤ 140737488355200) :
    Calls Tryd.prog 107 #[.string s] w fun e w' => e = .returned (.string (sha s)) ∧ Q w w' := by
  obtain ⟨i0, hi, hz0, hz1, hz2⟩ := info_parts byte_info
  obtain ⟨w1, cap, hcv, hown0, hq1, hc1, hc2⟩ := bytes_conv (P := Tryd.prog) w w 9 93 5 s Tryd.underlying9 Tryd.underlying93 Tryd.underlying5 (by simp only [maxLen]; omega) (Q.refl w)
  obtain ⟨hp2, hp1, hp3⟩ := zeros_spec s
  have HP2 := Lib.hid hp2
  have HP3 := Lib.hid hp3
  clear hp2 hp3
  have hmax : s.size + 1 ≤ maxLen := by simp only [maxLen]; omega
  go_enter Tryd.func107, Tryd.ntmps107
  go_wp2_with (at_builtin; refine wpList_append_owns _ rfl (.tmp 11) (.tmp 12) 93 rfl w.heap.size 5 i0 _ 1 1 Tryd.underlying93 hi hz0 hz1 hz2 rfl (by decide) _ s.size (Lib.strCells s) rfl (hown0.alloc _) ⟨w1.heap.size, 0, none⟩ 1 1 [.int .u8 128] rfl rfl (cell_one_new _ _ _) (by simp [Value.oneCell']) hmax (by omega) ?_ ?_)
  · have := hq1.size
    simp
    omega
  intro v2 w2 hown2 hg2
  have hq2 := q_append hq1 hown0 hg2
  rw [← pre_zero] at hown2
  obtain ⟨A2, cap2, rfl, hn2, hm2⟩ := hown2.shape
  clear hg2 hcv hown0 hq1 hc1 hc2
  go_wp2_with fail
  go_loopw [3] (fun v wr => ∃ (A : Option Addr) (c k : Nat), v = .slice A (s.size + 1 + k) c ∧ k ≤ zeros s ∧ s.size + 1 + k ≤ c ∧ c ≤ maxLen ∧ Owns wr w.heap.size 5 1 (.slice A (s.size + 1 + k) c) (s.size + 1 + k) (cellsOf (pre s k)) ∧ Q w wr) (fun v _ => 140737488355400 - (match v with | .slice _ l _ => l | _ => 0))
  case atStart => exact ⟨_, _, 0, rfl, by omega, hn2, hm2, hown2, hq2⟩
  case round =>
    obtain ⟨A, c, k, rfl, hk, hc, hcm, hown, hq⟩ := hrel
    by_cases hlt : k < zeros s
    · have hne := HP3.out k hlt
      have hb : (((s.size : Int) + 1 + k) % 64 != 56) = true := by rw [bne_iff_ne]; omega
      clear hne
      go_wp2_with (at_builtin; refine wpList_append_owns _ rfl (.tmp 18) (.tmp 19) 93 rfl w.heap.size 5 i0 _ 1 1 Tryd.underlying93 hi hz0 hz1 hz2 rfl (by decide) _ (s.size + 1 + k) _ rfl (hown.alloc _) ⟨wr.heap.size, 0, none⟩ 1 1 [.int .u8 0] rfl rfl (cell_one_new _ _ _) (by simp [Value.oneCell']) (by simp only [maxLen]; omega) (by omega) ?_ ?_)
      · have := hq.size
        simp
        omega
      intro v2 w2 hown2 hg2
      have hq2 := q_append hq hown hg2
      rw [← pre_succ] at hown2
      obtain ⟨A2, cap2, rfl, hn2, hm2⟩ := hown2.shape
      go_wp2
      exact ⟨⟨_, _, k + 1, rfl, by omega, hn2, hm2, hown2, hq2⟩, by simp; omega⟩
    · have hkp : k = zeros s := by omega
      have HN := HP2.out
      have hb : (((s.size : Int) + 1 + k) % 64 != 56) = false := by rw [bne_eq_false_iff_eq]; omega
      have hownk : Owns wr w.heap.size 5 1 (.slice A (s.size + 1 + k) c) (finS s 0).length (cellsOf (finS s 0)) := by
        rw [finS_zero, pre_length, ← hkp]; exact hown
      have HKP := Lib.hid hkp
      clear HN hkp hown
      go_wp2_with fail
      go_loopw [3, 5] (fun v i wr => ∃ (A : Option Addr) (c j : Nat), v = .slice A (s.size + 1 + k + j) c ∧ i = .int .i64 (56 - 8 * (j : Int)) ∧ j ≤ 8 ∧ s.size + 1 + k + j ≤ c ∧ c ≤ maxLen ∧ Owns wr w.heap.size 5 1 (.slice A (s.size + 1 + k + j) c) (s.size + 1 + k + j) (cellsOf (finS s j)) ∧ Q w wr) (fun _ i _ => (intOf i + 8).toNat)
      case atStart => exact ⟨A, c, 0, rfl, rfl, by omega, hc, hcm, by rw [finS_length, ← HKP.out] at hownk; exact hownk, hq⟩
      case round =>
        obtain ⟨A, c, j, rfl, rfl, hj, hc, hcm, hown, hq⟩ := hrel
        by_cases hlt : j < 8
        · have hb := finS_succ s j
          have e1 : ((s.size * 8 / 2 ^ (56 - 8 * j) % 256 : Nat) : Int) = 8 * (s.size : Int) / 2 ^ (56 - 8 * j) % 256 := by
            rw [Nat.mul_comm, Int.natCast_emod, Int.natCast_ediv, Int.natCast_mul, Int.natCast_pow]; rfl
          rw [e1] at hb
          have HB := Lib.hid hb
          clear hb e1
          go_wp2_with (at_builtin; refine wpList_append_owns _ rfl (.tmp 29) (.tmp 34) 93 rfl w.heap.size 5 i0 _ 1 1 Tryd.underlying93 hi hz0 hz1 hz2 rfl (by decide) _ (s.size + 1 + k + j) _ rfl (hown.alloc _) ⟨wr.heap.size, 0, none⟩ 1 1 [.int .u8 (8 * (s.size : Int) / 2 ^ (56 - 8 * j) % 256)] rfl rfl (cell_one_new _ _ _) (by simp [Value.oneCell']) (by simp only [maxLen]; omega) (by omega) ?_ ?_)
          · have := hq.size
            simp
            omega
          intro v2 w2 hown2 hg2
          have hq2 := q_append hq hown hg2
          rw [← HB.out] at hown2
          obtain ⟨A2, cap2, rfl, hn2, hm2⟩ := hown2.shape
          go_wp2
          exact ⟨⟨_, _, j + 1, rfl, by go_num, by omega, hn2, hm2, hown2, hq2⟩, by simp only [intOf]; omega⟩
        · obtain rfl : j = 8 := by omega
          have hl : s.size + 1 + k + 8 = (padded s).length := by rw [← finS_all, finS_length, HKP.out]
          have hm64 : (padded s).length % 64 = 0 := by
            have := HP2.out
            rw [← HKP.out] at this
            omega
          rw [finS_all, hl] at hown
          rw [hl] at hc
          have hL0 : 64 ≤ (padded s).length := by omega
          obtain ⟨gp, rfl, hbp, -, -, -⟩ := hown.cellAt 0 _ (padded_cell s 0 0 (by omega) (by omega))
          have hshs := shaV_hs s
          have HSH := Lib.hid hshs
          have HPB := Lib.hid (padded_blocks (base := w.heap.size) (gp := gp) (cap := c) (w := wr) s hown)
          have hlm : (padded s).length ≤ 140737488355328 + 72 := by omega
          rw [hl]
          clear hshs HP2 HP3 hownk hown2 hq2 hL0
          go_wp2_with fail
          refine (firsts_any _).mono ?_
          rintro e w2 ⟨rfl, h8, hq2⟩
          have hq3 := Q.trans hq hq2
          have hownP := hown.q hq2
          generalize (padded s).length = L at *
          go_wp2_with fail
          go_loopw [6, 7] (fun x i wr' => ∃ (g' c' j q : Nat), x = .slice (some ⟨g', 0, none⟩) 8 c' ∧ i = .int .i64 q ∧ q = 64 * j ∧ q ≤ L ∧ Eight wr' g' (hs (padded s) j) ∧ Q w2 wr') (fun _ i _ => L - (intOf i).toNat)
          case atStart => exact ⟨_, 8, 0, 0, rfl, rfl, rfl, Nat.zero_le _, h8, Q.refl _⟩
          case round =>
            obtain ⟨g', c', j, q, rfl, rfl, hqj, hqL, h8, hq4⟩ := hrel
            by_cases hlt : q < L
            · have hBy := (HPB.out j (by omega)).q (Q.trans hq2 hq4)
              have hok := hs_ok (padded s) j
              have hnx := fun ch c W hv hh hb => next_any g' ch gp (64 * j) c (hs (padded s) j) (blk (padded s) j) W hv hh hb
              have b1 : (q : Int) + 64 ≤ (L : Int) := by omega
              have b2 : (L : Int) ≤ (c : Int) := by omega
              have b3 : (q : Int) ≤ (q : Int) + 64 := by omega
              go_wp2_with fail
              refine (hnx _ _ _ hok h8 hBy).mono ?_
              rintro e w5 ⟨g5, c5, rfl, h85, hq5⟩
              go_wp2
              exact ⟨⟨_, _, j + 1, q + 64, rfl, by go_num, by omega, by omega, h85, Q.trans hq4 hq5⟩, by simp only [intOf]; omega⟩
            · have hjL : j = L / 64 := by omega
              have hV : shaV s = hs (padded s) j := by rw [HSH.out, hjL]
              have HV := Lib.hid hV
              have hq5 := Q.trans hq3 hq4
              have hok := hs_ok (padded s) j
              clear hV HSH HPB hownP hown hjL hqj
              generalize hs (padded s) j = V at *
              obtain ⟨w5, hw5⟩ : ∃ w5, w5 = wr := ⟨_, rfl⟩
              rw [← hw5] at h8 hq5
              have h5 := h8
              clear h8 hq4
              rw [← hw5]
              clear hw5
              go_wp2_with fail
              go_loopw [8, 9] (fun x i wr => ∃ (A : Option Addr) (c k : Nat), x = .slice A k c ∧ i = .int .i64 k ∧ k ≤ 32 ∧ k ≤ c ∧ c ≤ maxLen ∧ Owns wr w5.heap.size 5 1 (.slice A k c) k (cellsOf (outs V k)) ∧ Q w5 wr) (fun _ i _ => 32 - (intOf i).toNat)
              case atStart => exact ⟨none, 0, 0, rfl, rfl, by omega, by omega, by simp [maxLen], Owns.nil_ _ _ _ _, Q.refl _⟩
              case round =>
                obtain ⟨A, c, k, rfl, rfl, hk, hc, hcm, hown, hq⟩ := hrel
                by_cases hlt : k < 32
                · have hp := Lib.hid (outs_cells V k)
                  have hc8 := (h5.q hq).2 (k / 4) (by omega)
                  have x0 := (list_bd hok (k / 4) (by omega)).1
                  have hoi : outI V k = V.list.getD (k / 4) 0 / ((2 ^ (24 - 8 * (k % 4)) : Nat) : Int) % 256 := rfl
                  generalize V.list.getD (k / 4) 0 = x at *
                  have hoi2 : outI V k = x / 2 ^ (24 - 8 * (k % 4)) % 256 := by rw [hoi, Int.natCast_pow]; rfl
                  have HOI := Lib.hid hoi2
                  clear hoi hoi2
                  go_wp2_with (at_builtin; refine wpList_append_owns _ rfl (.tmp 54) (.tmp 66) 93 rfl w5.heap.size 5 i0 _ 1 1 Tryd.underlying93 hi hz0 hz1 hz2 rfl (by decide) _ k _ rfl (hown.alloc _) ⟨wr.heap.size, 0, none⟩ 1 1 [.int .u8 (x / 2 ^ (24 - 8 * (k % 4)) % 256)] rfl rfl (cell_one_new _ _ _) (by simp [Value.oneCell']) (by simp only [maxLen]; omega) (by omega) ?_ ?_)
                  · have := hq.size
                    simp
                    omega
                  intro v2 w2' hown2 hg2
                  have hq2 := q_append hq hown hg2
                  rw [← HOI.out, ← hp.out] at hown2
                  obtain ⟨A2, cap2, rfl, hn2, hm2⟩ := hown2.shape
                  go_wp2
                  exact ⟨⟨_, _, k + 1, rfl, by go_num, by omega, hn2, hm2, hown2, hq2⟩, by simp only [intOf]; omega⟩
                · obtain rfl : k = 32 := by omega
                  have hown' : Owns wr w5.heap.size 5 1 (.slice A (outs V 32).length c) (outs V 32).length (cellsOf (outs V 32)) := by rw [outs_length]; exact hown
                  have hcv := run_string_of_owns (P := Tryd.prog) wr w5.heap.size 93 9 5 _ (outs V 32) Tryd.underlying93 Tryd.underlying5 Tryd.underlying9 hown'
                  rw [outs_length] at hcv
                  go_wp2
                  go_ret
                  exact ⟨by unfold sha; rw [HV.out, digest_outs]; rfl, Q.trans hq5 hq⟩

end Go.Proofs.YtppbplchdfhnkaaDoor.Sha
