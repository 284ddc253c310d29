/-
  The contract of package sum's ending.
-/
import Derived.Test.YtjfcllanochhmaaGreatDoorShaMix
import Derived.Test.YtjfcllanochhmaaGreatDoorRow
import Derived.Maps.AppendAt
set_option linter.unusedVariables false
set_option linter.unusedSimpArgs false
namespace Go.Proofs.YtjfcllanochhmaaGreatDoor.Sha
open Go.RowKit Grp Mem

theorem byte_info : (Tryz.prog.info? 5).map (fun i => (i.zero, i.size, i.bytes)) = some (some (.int .u8 0), 1, 1) := by kernel_rfl

/-- How many zero bytes follow the byte 128. -/
def padLen (k : Nat) : Nat := if k < 56 then 55 - k else 119 - k
/-- The first j of the eight bytes of the length in bits. -/
def be (n j : Nat) : List UInt8 := (List.range j).map fun i => UInt8.ofNat (n * 8 / 2 ^ (56 - 8 * i) % 256)
theorem be_succ (n j : Nat) : be n (j + 1) = be n j ++ [UInt8.ofNat (n * 8 / 2 ^ (56 - 8 * j) % 256)] := by simp [be, List.range_succ]
theorem be_length (n j : Nat) : (be n j).length = j := by simp [be]
/-- The text, the byte 128, and k zeros. -/
def pre (s : ByteArray) (k : Nat) : List UInt8 := s.data.toList ++ [128] ++ List.replicate k 0
theorem pre_zero (s : ByteArray) : cellsOf (pre s 0) = Lib.strCells s ++ [Value.int .u8 128] := by rw [strCells_eq]; simp [cellsOf, pre]
theorem pre_succ (s : ByteArray) (k : Nat) : cellsOf (pre s (k + 1)) = cellsOf (pre s k) ++ [Value.int .u8 0] := by
  simp [pre, cellsOf, List.replicate_succ']
theorem pre_length (s : ByteArray) (k : Nat) : (pre s k).length = s.size + 1 + k := by
  have h1 : s.data.toList.length = s.size := by rw [Array.length_toList]; rfl
  simp only [pre, List.length_append, List.length_replicate, h1, List.length_singleton]
/-- With the first j bytes of the length. -/
def fin (s : ByteArray) (n j : Nat) : List UInt8 := pre s (padLen s.size) ++ be n j
theorem fin_zero (s : ByteArray) (n : Nat) : fin s n 0 = pre s (padLen s.size) := by simp [fin, be]
theorem fin_succ (s : ByteArray) (n j : Nat) : cellsOf (fin s n (j + 1)) = cellsOf (fin s n j) ++ [Value.int .u8 ((n * 8 / 2 ^ (56 - 8 * j) % 256 : Nat) : Int)] := by
  rw [fin, be_succ, ← List.append_assoc, cellsOf_append]
  congr 1
  simp [cellsOf, UInt8.toNat_ofNat']
theorem fin_length (s : ByteArray) (n j : Nat) : (fin s n j).length = s.size + 1 + padLen s.size + j := by rw [fin, List.length_append, pre_length, be_length]
def endL (s : ByteArray) (n : Nat) : List UInt8 := fin s n 8
def endB (s : ByteArray) (n : Nat) : ByteArray := ⟨(endL s n).toArray⟩
theorem endB_size (s : ByteArray) (n : Nat) (hs : s.size < 64) : (endB s n).size = if s.size < 56 then 64 else 128 := by
  have h1 : s.data.toList.length = s.size := by rw [Array.length_toList]; rfl
  have h2 : (endB s n).size = (endL s n).length := by simp [endB, ByteArray.size]
  rw [h2, endL, fin_length, padLen]
  split <;> omega

theorem cells_byte (x : Nat) (h : x < 256) : cellsOf [UInt8.ofNat x] = [Value.int .u8 (x : Int)] := by
  simp [cellsOf, UInt8.toNat_ofNat', Nat.mod_eq_of_lt h]

theorem toNat_u8 (x : Nat) (h : x < 256) : (UInt8.ofNat x).toNat = x := by simp [UInt8.toNat_ofNat', Nat.mod_eq_of_lt h]

set_option maxRecDepth 100000 in
set_option maxHeartbeats 1000000 in
theorem ending_any (s : ByteArray) (n : Nat) (w : World) (hs : s.size < 64) (h1 : n ≤ 140737488355327) :
    Calls Tryz.prog 78 #[.string s, .int .i64 n] w fun e w' => e = .returned (.string (endB s n)) ∧ Q w w' := by
  obtain ⟨i0, hi, hz0, hz1, hz2⟩ := info_parts byte_info
  have hcv := fun W => run_bytes_of_string (P := Tryz.prog) W 9 75 5 s Tryz.underlying9 Tryz.underlying75 Tryz.underlying5
  have hcap := grownCap_ge w s.size 0 5
  have hcm := grownCap_le_maxLen w s.size 0 5 (by simp only [maxLen]; omega)
  generalize hC : grownCap w s.size 0 5 = cap at *
  have HC := Lib.hid hC
  have hown0 := owns_of_string w s cap 5 hcap hcm w.heap.size (Nat.le_refl _)
  have hq0 : Q w (w.alloc (.cells (bytesRow s cap) 5 ((bytesRow s cap).size, (bytesRow s cap).size + 1))) := (Below.refl _ _).alloc (Nat.le_refl _) _
  have hcv1 := hcv w
  rw [hC] at hcv1
  clear hcv hC
  have hW : (w.drew.alloc (.cells (bytesRow s cap) 5 ((bytesRow s cap).size, (bytesRow s cap).size + 1))) = (w.alloc (.cells (bytesRow s cap) 5 ((bytesRow s cap).size, (bytesRow s cap).size + 1))).drew := rfl
  rw [hW] at hcv1
  clear hW
  generalize hW0 : w.alloc (.cells (bytesRow s cap) 5 ((bytesRow s cap).size, (bytesRow s cap).size + 1)) = W0 at *
  have HW0 := Lib.hid hW0
  clear hW0
  have hz0' : W0.heap.size = w.heap.size + 1 := by rw [← HW0.out]; simp
  have HZ0 := Lib.hid hz0'
  clear hz0'
  have hmax : s.size + 1 ≤ maxLen := by simp only [maxLen]; omega
  go_enter Tryz.func78, Tryz.ntmps78
  go_wp2_with (at_builtin; refine wpList_append_owns _ rfl (.tmp 9) (.tmp 10) 75 rfl w.heap.size 5 i0 _ 1 1 Tryz.underlying75 hi hz0 hz1 hz2 rfl (by decide) _ s.size (Lib.strCells s) rfl (hown0.drew.alloc _) ⟨W0.heap.size, 0, none⟩ 1 1 [.int .u8 128] rfl rfl (cell_one_new _ _ _) (by simp [Value.oneCell']) hmax (by omega) ?_ ?_)
  · have := HZ0.out
    simp
    omega
  intro v1 w1 hown1 hg1
  have hq1 : Q w w1 := Below.trans (Below.drew (Below.alloc hq0 (by have := HZ0.out; omega) _)) (below_grown hg1 (by have := HZ0.out; simp; omega) (by intro k hk; simp [Value.ownBlock] at hk; omega))
  rw [← pre_zero] at hown1
  clear hg1 hcv1 hown0 hq0 hcap hcm
  obtain ⟨A1, cap1, rfl, hn1, hm1⟩ := hown1.shape
  have hpad : s.size + 1 + padLen s.size ≤ 120 ∧ (s.size + 1 + padLen s.size) % 64 = 56 ∧ ∀ k, k < padLen s.size → (s.size + 1 + k) % 64 ≠ 56 := by
    unfold padLen
    split <;> refine ⟨by omega, by omega, fun k hk => by omega⟩
  obtain ⟨hp1, hp2, hp3⟩ := hpad
  have HP2 := Lib.hid hp2
  have HP3 := Lib.hid hp3
  clear hp2 hp3
  go_wp2_with fail
  go_loopw [5] (fun v wr => ∃ (A : Option Addr) (c k : Nat), v = .slice A (s.size + 1 + k) c ∧ k ≤ padLen s.size ∧ s.size + 1 + k ≤ c ∧ c ≤ maxLen ∧ Owns wr w.heap.size 5 1 (.slice A (s.size + 1 + k) c) (s.size + 1 + k) (cellsOf (pre s k)) ∧ Q w wr) (fun v _ => 200 - (match v with | .slice _ l _ => l | _ => 0))
  case atStart => exact ⟨_, _, 0, rfl, by omega, hn1, hm1, hown1, hq1⟩
  case round =>
    obtain ⟨A, c, k, rfl, hk, hc, hcm, hown, hq⟩ := hrel
    by_cases hlt : k < padLen s.size
    · have hne := HP3.out k hlt
      have hb : (((s.size : Int) + 1 + k) % 64 != 56) = true := by rw [bne_iff_ne]; omega
      clear hne
      go_wp2_with (at_builtin; refine wpList_append_owns _ rfl (.tmp 16) (.tmp 17) 75 rfl w.heap.size 5 i0 _ 1 1 Tryz.underlying75 hi hz0 hz1 hz2 rfl (by decide) _ (s.size + 1 + k) _ rfl (hown.alloc _) ⟨wr.heap.size, 0, none⟩ 1 1 [.int .u8 0] rfl rfl (cell_one_new _ _ _) (by simp [Value.oneCell']) (by simp only [maxLen]; omega) (by omega) ?_ ?_)
      · have := hq.size
        simp
        omega
      intro v2 w2 hown2 hg2
      have hq2 := q_append hq hown hg2
      rw [← pre_succ] at hown2
      obtain ⟨A2, cap2, rfl, hn2, hm2⟩ := hown2.shape
      go_wp2
      exact ⟨⟨_, _, k + 1, rfl, by omega, hn2, hm2, hown2, hq2⟩, by simp; omega⟩
    · have hkp : k = padLen s.size := by omega
      have HN := HP2.out
      have hb : (((s.size : Int) + 1 + k) % 64 != 56) = false := by rw [bne_eq_false_iff_eq]; omega
      have hownk : Owns wr w.heap.size 5 1 (.slice A (s.size + 1 + k) c) (fin s n 0).length (cellsOf (fin s n 0)) := by
        rw [fin_zero, pre_length, ← hkp]; exact hown
      have HKP := Lib.hid hkp
      clear HN hkp hown
      go_wp2_with fail
      go_loopw [5, 7] (fun v i wr => ∃ (A : Option Addr) (c j : Nat), v = .slice A (s.size + 1 + k + j) c ∧ i = .int .i64 (56 - 8 * (j : Int)) ∧ j ≤ 8 ∧ s.size + 1 + k + j ≤ c ∧ c ≤ maxLen ∧ Owns wr w.heap.size 5 1 (.slice A (s.size + 1 + k + j) c) (s.size + 1 + k + j) (cellsOf (fin s n j)) ∧ Q w wr) (fun _ i _ => (intOf i + 8).toNat)
      case atStart => exact ⟨A, c, 0, rfl, rfl, by omega, hc, hcm, by rw [fin_length, ← HKP.out] at hownk; exact hownk, hq⟩
      case round =>
        obtain ⟨A, c, j, rfl, rfl, hj, hc, hcm, hown, hq⟩ := hrel
        by_cases hlt : j < 8
        · have hb := fin_succ s n j
          have e1 : ((n * 8 / 2 ^ (56 - 8 * j) % 256 : Nat) : Int) = (n : Int) * 8 / 2 ^ (56 - 8 * j) % 256 := by
            rw [Int.natCast_emod, Int.natCast_ediv, Int.natCast_mul, Int.natCast_pow]; rfl
          rw [e1] at hb
          have HB := Lib.hid hb
          clear hb e1
          go_wp2_with (at_builtin; refine wpList_append_owns _ rfl (.tmp 26) (.tmp 31) 75 rfl w.heap.size 5 i0 _ 1 1 Tryz.underlying75 hi hz0 hz1 hz2 rfl (by decide) _ (s.size + 1 + k + j) _ rfl (hown.alloc _) ⟨wr.heap.size, 0, none⟩ 1 1 [.int .u8 ((n : Int) * 8 / 2 ^ (56 - 8 * j) % 256)] rfl rfl (cell_one_new _ _ _) (by simp [Value.oneCell']) (by simp only [maxLen]; omega) (by omega) ?_ ?_)
          · have := hq.size
            simp
            omega
          intro v2 w2 hown2 hg2
          have hq2 := q_append hq hown hg2
          rw [← HB.out] at hown2
          obtain ⟨A2, cap2, rfl, hn2, hm2⟩ := hown2.shape
          go_wp2
          exact ⟨⟨_, _, j + 1, rfl, by go_num, by omega, hn2, hm2, hown2, hq2⟩, by simp only [intOf]; omega⟩
        · obtain rfl : j = 8 := by omega
          have hl : (fin s n 8).length = s.size + 1 + k + 8 := by rw [fin_length, HKP.out]
          rw [← hl] at hown
          have hcv := run_string_of_owns (P := Tryz.prog) wr w.heap.size 75 9 5 _ (fin s n 8) Tryz.underlying75 Tryz.underlying5 Tryz.underlying9 hown
          rw [hl] at hcv
          clear hl hown
          go_wp2
          go_ret
          exact ⟨rfl, hq⟩

end Go.Proofs.YtjfcllanochhmaaGreatDoor.Sha
