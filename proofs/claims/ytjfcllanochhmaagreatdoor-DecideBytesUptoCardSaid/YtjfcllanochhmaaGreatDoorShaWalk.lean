/-
  The contracts of package sum's schedule and mix (SHA-256).
-/
import Derived.Test.YtjfcllanochhmaaGreatDoorMem
import Derived.Test.YtjfcllanochhmaaGreatDoorShaSpec
import Derived.StillTailTactics
import Derived.RegionTactic
import Derived.ChangeAlike
import Derived.BigRegion
set_option linter.unusedVariables false
set_option linter.unusedSimpArgs false
namespace Go.Proofs.YtjfcllanochhmaaGreatDoor.Sha
open Go.RowKit Grp Mem

theorem and31n (n : Nat) (n0 : 0 < n) (n1 : n < 32) : bits .and .u64 (IntKind.u64.wrap (-(n : Int))) 31 = 32 - (n : Int) := by
  rw [IntKind.wrap_u64]
  obtain ⟨a, ha⟩ := Int.eq_ofNat_of_zero_le (show 0 ≤ -(n : Int) % 18446744073709551616 by omega)
  rw [ha]
  have h := bits_and_u64_nat a 31 (by omega) (by omega)
  have e2 : a &&& 31 = a % 32 := Nat.and_two_pow_sub_one_eq_mod a 5
  rw [e2] at h
  rw [show ((31 : Nat) : Int) = 31 from rfl] at h
  rw [h]
  omega

set_option maxRecDepth 100000 in
set_option maxHeartbeats 400000 in
theorem turn_nat (x : Int) (n : Nat) (w : World) (h : U32 x) (n0 : 0 < n) (n1 : n < 32) :
    Calls Tryz.prog 111 #[.int .u32 x, .int .i64 n] w fun e w' => e = .returned (.int .u32 (rot x n)) ∧ w = w' := by
  obtain ⟨x0, x1⟩ := h
  have e1 := and31n n n0 n1
  go_enter Tryz.func111, Tryz.ntmps111
  go_wp2
  go_ret
  have e2 : 32 - (32 - n) = n := by omega
  simp only [e2]
  exact ⟨rfl, trivial⟩

/-- Rotations by numbers that are written out. -/
theorem turn_any (x m : Int) (w : World) (h : U32 x) (n0 : 0 < m) (n1 : m < 32) :
    Calls Tryz.prog 111 #[.int .u32 x, .int .i64 m] w fun e w' => e = .returned (.int .u32 (rot x m.toNat)) ∧ w = w' := by
  obtain ⟨n, rfl⟩ := Int.eq_ofNat_of_zero_le (show 0 ≤ m by omega)
  exact turn_nat x n w h (by omega) (by omega)

/-- The array of the schedule after n words. -/
def schedA (s : ByteArray) (k : Nat) : Array Value := ints .u32 64 fun j => if j < k then W s j else 0
theorem schedA_set (s : ByteArray) (k : Nat) (x : Int) (h : W s k = x) : (schedA s k).setIfInBounds k (.int .u32 x) = schedA s (k + 1) := by
  unfold schedA
  exact ints_set _ _ _ _ _ _ (by rw [if_pos (by omega), h]) (fun j _ hj => by
    by_cases h : j < k
    · rw [if_pos (by omega), if_pos h]
    · rw [if_neg (by omega), if_neg h])
theorem schedA_get (s : ByteArray) (k j : Nat) (h : j < k) (h' : j < 64) : (schedA s k)[j]? = some (.int .u32 (W s j)) := by
  unfold schedA
  rw [ints_get _ _ _ _ h', if_pos h]
theorem schedA_get' (s : ByteArray) (k : Nat) (h' : k < 64) : (schedA s k)[k]? = some (.int .u32 0) := by
  unfold schedA
  rw [ints_get _ _ _ _ h', if_neg (by omega)]

theorem or_add (a b m : Nat) (i : Nat) (ha : a % 2 ^ i = 0) (hb : b < 2 ^ i) (hs : a + b < 4294967296) : bits .or .u32 (a : Int) (b : Int) = ((a + b : Nat) : Int) := by
  have h1 : (BitVec.ofInt 32 (a : Int)).toNat = a := by
    rw [BitVec.ofInt_natCast, BitVec.toNat_ofNat]; exact Nat.mod_eq_of_lt (by omega)
  have h2 : (BitVec.ofInt 32 (b : Int)).toNat = b := by
    rw [BitVec.ofInt_natCast, BitVec.toNat_ofNat]; exact Nat.mod_eq_of_lt (by omega)
  show IntKind.u32.wrap ((BitVec.ofInt 32 (a : Int) ||| BitVec.ofInt 32 (b : Int)).toNat : Int) = _
  rw [BitVec.toNat_or, h1, h2, IntKind.wrap_u32]
  have h3 : a ||| b = a + b := by
    have h4 := Nat.two_pow_add_eq_or_of_lt hb (a / 2 ^ i)
    have h5 := Nat.div_add_mod a (2 ^ i)
    rw [ha, Nat.add_zero] at h5
    rw [h5] at h4
    exact h4.symm
  rw [h3]
  omega

theorem word_or (a b c d : Nat) (ha : a < 256) (hb : b < 256) (hc : c < 256) (hd : d < 256) :
    bits .or .u32 (bits .or .u32 (bits .or .u32 ((a : Int) % 4294967296 * 16777216 % 4294967296) ((b : Int) % 4294967296 * 65536 % 4294967296)) ((c : Int) % 4294967296 * 256 % 4294967296)) ((d : Int) % 4294967296) = (a : Int) * 16777216 + b * 65536 + c * 256 + d := by
  have e1 : ((a : Int) % 4294967296 * 16777216 % 4294967296) = ((a * 16777216 : Nat) : Int) := by omega
  have e2 : ((b : Int) % 4294967296 * 65536 % 4294967296) = ((b * 65536 : Nat) : Int) := by omega
  have e3 : ((c : Int) % 4294967296 * 256 % 4294967296) = ((c * 256 : Nat) : Int) := by omega
  have e4 : ((d : Int) % 4294967296) = ((d : Nat) : Int) := by omega
  rw [e1, e2, e3, e4, or_add _ _ 0 24 (by omega) (by omega) (by omega), or_add _ _ 0 16 (by omega) (by omega) (by omega), or_add _ _ 0 8 (by omega) (by omega) (by omega)]
  omega

theorem ext_byte (s : ByteArray) (k j : Nat) (hj : j < 4) (h : 4 * k + 4 ≤ s.size) (hb : j < (s.extract (4 * k) (4 * k + 4)).size) : ((s.extract (4 * k) (4 * k + 4))[j].toNat : Int) = byteAt s (4 * k + j) := by
  unfold byteAt
  have h1 : (s.extract (4 * k) (4 * k + 4))[j] = s[4 * k + j]'(by omega) := ByteArray.getElem_extract ..
  rw [h1, List.getD_eq_getElem?_getD]
  have h2 : s.data.toList[4 * k + j]? = some (s[4 * k + j]'(by omega)) := by
    rw [Array.getElem?_toList]
    exact Array.getElem?_eq_getElem (by have : s.data.size = s.size := rfl; omega)
  rw [h2]
  rfl

theorem ints_one (k : IntKind) (n : Nat) (f : Nat → Int) : (ints k n f).all (·.oneCell') = true := by
  unfold ints
  simp [List.all_eq_true, Value.oneCell']

theorem extract_size4 (s : ByteArray) (k : Nat) (h : 4 * k + 4 ≤ s.size) : (s.extract (4 * k) (4 * k + 4)).size = 4 := by simp; omega

set_option maxRecDepth 100000 in
set_option maxHeartbeats 1000000 in
theorem schedule_any (s : ByteArray) (w : World) (hs : 64 ≤ s.size) :
    Calls Tryz.prog 110 #[.string s] w fun e w' => e = .returned (.agg (schedA s 64)) ∧ Q w w' := by
  go_enter Tryz.func110, Tryz.ntmps110
  go_wp2_with fail
  go_loopw [11] (fun i wr => ∃ k : Nat, k ≤ 16 ∧ i = .int .i64 k ∧ Q w wr ∧ Blk wr w.heap.size 149 (schedA s 0) ∧ Blk wr (w.heap.size + 1) 149 (schedA s k)) (fun i _ => 16 - (intOf i).toNat)
  case atStart => exact ⟨0, by omega, rfl, ((Below.refl _ _).alloc (Nat.le_refl _) _).alloc (by simp) _, (Blk.new _ _ _).alloc _, Blk.new' _ _ _ (by simp)⟩
  case round =>
    obtain ⟨k, hk, rfl, hq, hb0, hb⟩ := hrel
    by_cases hlt : k < 16
    · have hc := hb.cell k
      rw [schedA_get' _ _ (by omega)] at hc
      have hf := hb.frozen k
      have hsz : 4 * k + 4 ≤ s.size := by omega
      have hsz1 := extract_size4 s k hsz
      have i0 : 0 < (s.extract (4 * k) (4 * k + 4)).size := by omega
      have i1 : 1 < (s.extract (4 * k) (4 * k + 4)).size := by omega
      have i2 : 2 < (s.extract (4 * k) (4 * k + 4)).size := by omega
      have i3 : 3 < (s.extract (4 * k) (4 * k + 4)).size := by omega
      have HW := Lib.hid (word_or _ _ _ _ (s.extract (4 * k) (4 * k + 4))[0].toNat_lt (s.extract (4 * k) (4 * k + 4))[1].toNat_lt (s.extract (4 * k) (4 * k + 4))[2].toNat_lt (s.extract (4 * k) (4 * k + 4))[3].toNat_lt)
      have B0 := Lib.hid (ext_byte s k 0 (by omega) hsz i0)
      have B1 := Lib.hid (ext_byte s k 1 (by omega) hsz i1)
      have B2 := Lib.hid (ext_byte s k 2 (by omega) hsz i2)
      have B3 := Lib.hid (ext_byte s k 3 (by omega) hsz i3)
      clear hsz1
      go_wp2_with fail
      go_still_tail 19, (by kernel_rfl)
      change wpList _ _ _ _ _ wr.drew
      go_wp2
      rw [HW.out, B0.out, B1.out, B2.out, B3.out]
      have he : W s k = byteAt s (4 * k + 0) * 16777216 + byteAt s (4 * k + 1) * 65536 + byteAt s (4 * k + 2) * 256 + byteAt s (4 * k + 3) := W_lo s k hlt
      refine ⟨⟨k + 1, by omega, by go_num, ?_, ?_, ?_⟩, by simp only [intOf]; omega⟩
      · exact Below.drew (Below.setCell hq (by simp) _)
      · exact (hb0.far (by simp) _).drew
      · have := (hb.set_ k (.int .u32 (W s k))).drew
        rw [schedA_set s k _ rfl] at this
        rw [← he]
        exact this
    · have HK := Lib.hid (show k = 16 by omega)
      have hb : Blk wr (w.heap.size + 1) 149 (schedA s 16) := by have := hb; rw [HK.out] at this; exact this
      go_wp2_with fail
      go_loopw [6] (fun i wr => ∃ k : Nat, 16 ≤ k ∧ k ≤ 64 ∧ i = .int .i64 k ∧ Q w wr ∧ Blk wr w.heap.size 149 (schedA s 0) ∧ Blk wr (w.heap.size + 1) 149 (schedA s k)) (fun i _ => 64 - (intOf i).toNat)
      case atStart => exact ⟨16, by omega, by omega, rfl, hq, hb0, hb⟩
      case round =>
        obtain ⟨k, hk0, hk, rfl, hq, hb0, hb⟩ := hrel
        by_cases hlt : k < 64
        · have hc := hb.cell k
          rw [schedA_get' _ _ (by omega)] at hc
          have hf := hb.frozen k
          have c16 := hb.cell (k - 16)
          rw [schedA_get _ _ _ (by omega) (by omega)] at c16
          have c15 := hb.cell (k - 15)
          rw [schedA_get _ _ _ (by omega) (by omega)] at c15
          have c7 := hb.cell (k - 7)
          rw [schedA_get _ _ _ (by omega) (by omega)] at c7
          have c2 := hb.cell (k - 2)
          rw [schedA_get _ _ _ (by omega) (by omega)] at c2
          have d15 := W_bd s (k - 15)
          have d2 := W_bd s (k - 2)
          have p15 := d15.1
          have p2 := d2.1
          go_wp2_with fail
          go_quiet (fail)
          go_wp2_with fail
          refine (turn_any _ _ _ d15 (by decide) (by decide)).mono ?_
          rintro e w' ⟨rfl, rfl⟩
          go_wp2_with fail
          refine (turn_any _ _ _ d15 (by decide) (by decide)).mono ?_
          rintro e w' ⟨rfl, rfl⟩
          go_wp2_with fail
          refine (turn_any _ _ _ d2 (by decide) (by decide)).mono ?_
          rintro e w' ⟨rfl, rfl⟩
          go_wp2_with fail
          refine (turn_any _ _ _ d2 (by decide) (by decide)).mono ?_
          rintro e w' ⟨rfl, rfl⟩
          go_wp2_with fail
          go_region
          go_wp2
          have he := W_hi s k hk0
          have hn : Blk (wr.setCell ⟨w.heap.size + 1, k, none⟩ (.int .u32 (W s k))) (w.heap.size + 1) 149 (schedA s (k + 1)) := by
            have := hb.set_ k (.int .u32 (W s k))
            rw [schedA_set s k _ rfl] at this
            exact this
          rw [he] at hn
          refine ⟨⟨k + 1, by omega, by omega, by go_num, ?_, ?_, ?_⟩, by simp only [intOf]; omega⟩
          · exact below_drewN (Below.setCell hq (by simp) _) _
          · exact (hb0.far (p := ⟨w.heap.size + 1, k, none⟩) (by simp) _).drewN _
          · exact hn.drewN _
        · have hb : Blk wr (w.heap.size + 1) 149 (schedA s 64) := by have := hb; rw [show k = 64 by omega] at this; exact this
          have hb2 : wr.heap[w.heap.size + 1]? = some (.cells (schedA s 64) 149 (0, 0)) := hb
          have HB := Lib.hid hb2
          have hb3 : wr.heap[w.heap.size]? = some (.cells (schedA s 0) 149 (0, 0)) := hb0
          have HB0 := Lib.hid hb3
          have hone : (schedA s 64).all (·.oneCell') = true := ints_one _ _ _
          have HO := Lib.hid hone
          clear hb2 hb3 hone
          go_wp2_with (first | (refine wpList_load_row rfl 149 _ rfl (w.heap.size + 1) rfl 149 (schedA s 64) (0, 0) _ HB.out Tryz.underlying149 rfl (by kernel_rfl) ?_) | (refine wpList_store_row rfl 149 _ _ rfl w.heap.size (schedA s 64) rfl rfl 149 (schedA s 0) HB0.out (by kernel_rfl) (by kernel_rfl) HO.out ?_))
          exact bodyPost_ret (results_cell_row rfl _ _ w.heap.size 149 (schedA s 64) (0, 0) _ rfl (Blk.setRow hb0 _) Tryz.underlying149 rfl (by kernel_rfl)) rfl ⟨rfl, below_setRow hq (Nat.le_refl _) _⟩

end Go.Proofs.YtjfcllanochhmaaGreatDoor.Sha
