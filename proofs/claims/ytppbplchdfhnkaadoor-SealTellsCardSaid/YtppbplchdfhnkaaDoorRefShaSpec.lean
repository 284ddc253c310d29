/-
  The reference's SHA-256: the text is padded first, then read block by block. No program in this text.
-/
import Derived.Test.YtppbplchdfhnkaaDoorSha
set_option linter.unusedVariables false
set_option linter.unusedSimpArgs false
namespace Go.Proofs.YtppbplchdfhnkaaDoor.Sha
open Go.RowKit Grp Mem

def ofL (l : List UInt8) : ByteArray := ⟨l.toArray⟩
theorem ofL_list (l : List UInt8) : (ofL l).data.toList = l := by simp [ofL]
theorem ofL_of (s : ByteArray) : ofL s.data.toList = s := by simp [ofL]
theorem ofL_size (l : List UInt8) : (ofL l).size = l.length := by simp [ofL, ByteArray.size]
theorem len_list (s : ByteArray) : s.data.toList.length = s.size := by rw [Array.length_toList]; rfl
theorem extract_list (s : ByteArray) (a b : Nat) : (s.extract a b).data.toList = (s.data.toList.drop a).take (b - a) := by
  rw [ByteArray.data_extract, Array.toList_extract, List.extract_eq_take_drop]
/-- Block j of a list of bytes. -/
def blk (l : List UInt8) (j : Nat) : ByteArray := ofL ((l.drop (64 * j)).take 64)
/-- The state after j blocks. -/
def hs (l : List UInt8) : Nat → V8
  | 0 => init
  | j + 1 => mix (hs l j) (blk l j)
theorem hs_ok (l : List UInt8) : ∀ j, V8Ok (hs l j) := by
  intro j
  cases j with
  | zero => exact init_ok
  | succ j => exact mix_ok _ _
theorem blk_size (l : List UInt8) (j : Nat) (h : 64 * j + 64 ≤ l.length) : (blk l j).size = 64 := by
  unfold blk
  rw [ofL_size, List.length_take, List.length_drop]
  omega
theorem blk_byte (l : List UInt8) (j k : Nat) (hk : k < 64) : byteAt (blk l j) k = ((l.getD (64 * j + k) 0).toNat : Int) := by
  unfold byteAt blk
  rw [ofL_list, List.getD_eq_getElem?_getD, List.getD_eq_getElem?_getD, List.getElem?_take, if_pos hk, List.getElem?_drop]
def feed : Nat → V8 → List UInt8 → V8
  | 0, v, _ => v
  | n + 1, v, l => feed n (mix v (ofL (l.take 64))) (l.drop 64)
theorem feed_hs (l : List UInt8) : ∀ n j, feed n (hs l j) (l.drop (64 * j)) = hs l (j + n) := by
  intro n
  induction n with
  | zero => intro j; rfl
  | succ n ih =>
    intro j
    have h := ih (j + 1)
    rw [feed, List.drop_drop]
    rw [show j + (n + 1) = j + 1 + n by omega, ← h]
    rfl
theorem eat_feed : ∀ (f : Nat) (v : V8) (r : ByteArray), r.size < 64 * (f + 1) → ∀ (T : List UInt8) (n : Nat), feed (r.size / 64 + n) v (r.data.toList ++ T) = feed n (eat f v r).1 ((eat f v r).2.data.toList ++ T) := by
  intro f
  induction f with
  | zero =>
    intro v r h T n
    rw [show r.size / 64 + n = n by omega]
    rfl
  | succ f ih =>
    intro v r h T n
    by_cases hr : 64 ≤ r.size
    · rw [eat_step _ _ _ hr]
      have hl := len_list r
      have hs : (r.extract 64 r.size).size = r.size - 64 := by simp
      have h2 := ih (mix v (r.extract 0 64)) (r.extract 64 r.size) (by omega) T n
      rw [← h2, hs, show r.size / 64 + n = ((r.size - 64) / 64 + n) + 1 by omega, feed]
      have e1 : ofL ((r.data.toList ++ T).take 64) = r.extract 0 64 := by
        rw [List.take_append_of_le_length (by omega), ← ofL_of (r.extract 0 64), extract_list]
        rfl
      have e2 : (r.data.toList ++ T).drop 64 = (r.extract 64 r.size).data.toList ++ T := by
        rw [List.drop_append_of_le_length (by omega), extract_list, List.take_of_length_le (by rw [List.length_drop]; omega)]
      rw [e1, e2]
    · rw [eat_short _ _ _ (by omega), show r.size / 64 + n = n by omega]
theorem eat_left : ∀ (f : Nat) (v : V8) (r : ByteArray), r.size < 64 * (f + 1) → (eat f v r).2.size = r.size % 64 := by
  intro f
  induction f with
  | zero => intro v r h; show r.size = _; omega
  | succ f ih =>
    intro v r h
    by_cases hr : 64 ≤ r.size
    · rw [eat_step _ _ _ hr]
      have hs : (r.extract 64 r.size).size = r.size - 64 := by simp
      rw [ih _ _ (by omega), hs]
      omega
    · rw [eat_short _ _ _ (by omega)]
      show r.size = _
      omega
/-- The padded text. -/
def zeros (s : ByteArray) : Nat := padLen (s.size % 64)
def tail (s : ByteArray) : List UInt8 := [128] ++ List.replicate (zeros s) 0 ++ be s.size 8
def padded (s : ByteArray) : List UInt8 := s.data.toList ++ tail s
theorem padded_length (s : ByteArray) : (padded s).length = s.size + 9 + zeros s := by
  unfold padded tail
  rw [List.length_append, List.length_append, List.length_append, List.length_replicate, be_length, len_list]
  simp
  omega
theorem zeros_spec (s : ByteArray) : (s.size + 1 + zeros s) % 64 = 56 ∧ zeros s ≤ 63 ∧ ∀ k, k < zeros s → (s.size + 1 + k) % 64 ≠ 56 := by
  unfold zeros padLen
  split
  · exact ⟨by omega, by omega, fun k hk => by omega⟩
  · exact ⟨by omega, by omega, fun k hk => by omega⟩
theorem shaV_hs (s : ByteArray) : shaV s = hs (padded s) ((padded s).length / 64) := by
  have h0 : s.size < 64 * (s.size + 1) := by omega
  have hsz := eat_left s.size init s h0
  have hf := eat_feed s.size init s h0
  unfold shaV
  generalize eat s.size init s = e at *
  have hE : (endB e.2 s.size).data.toList = e.2.data.toList ++ tail s := by
    unfold endB endL fin pre tail zeros
    rw [hsz]
    simp
  have hEs := endB_size e.2 s.size (by omega)
  have hEs2 : (endB e.2 s.size).size ≤ 128 := by rw [hEs]; split <;> omega
  have h3 := eat_feed 3 e.1 (endB e.2 s.size) (by omega) [] 0
  rw [List.append_nil, Nat.add_zero, hE] at h3
  have h4 := hf (tail s) ((endB e.2 s.size).size / 64)
  have h5 : s.size / 64 + (endB e.2 s.size).size / 64 = (padded s).length / 64 := by
    rw [padded_length, hEs, hsz]
    unfold zeros padLen
    split <;> omega
  have h6 := feed_hs (padded s) ((padded s).length / 64) 0
  rw [Nat.zero_add] at h6
  rw [← h6]
  show _ = feed _ init (padded s)
  rw [← h5]
  show _ = feed _ init (s.data.toList ++ tail s)
  rw [h4, h3]
  rfl
/-- Byte i of the digest. -/
def outI (v : V8) (i : Nat) : Int := v.list.getD (i / 4) 0 / ((2 ^ (24 - 8 * (i % 4)) : Nat) : Int) % 256
def outs (v : V8) (n : Nat) : List UInt8 := (List.range n).map fun i => UInt8.ofNat (outI v i).toNat
theorem outs_succ (v : V8) (n : Nat) : outs v (n + 1) = outs v n ++ [UInt8.ofNat (outI v n).toNat] := by simp [outs, List.range_succ]
theorem outs_length (v : V8) (n : Nat) : (outs v n).length = n := by simp [outs]
theorem digest_outs (v : V8) : digest v = outs v 32 := by
  obtain ⟨a, b, c, d, e, f, g, h⟩ := v
  simp [digest, V8.list, wordBytes, outs, outI, List.range_succ, Int.ediv_one]
theorem outI_bd (v : V8) (i : Nat) : 0 ≤ outI v i ∧ outI v i < 256 := by unfold outI; omega
theorem outs_cells (v : V8) (n : Nat) : cellsOf (outs v (n + 1)) = cellsOf (outs v n) ++ [Value.int .u8 (outI v n)] := by
  have hb := outI_bd v n
  rw [outs_succ, cellsOf_append]
  congr 1
  simp only [cellsOf, List.map_cons, List.map_nil]
  rw [byte_cell _ hb.1 hb.2]

/-- The rounds, spelled the reference's way. -/
theorem or_comm (x y : Int) : bits .or .u32 x y = bits .or .u32 y x := by
  unfold bits
  simp only [BitVec.or_comm]
theorem rot_comm (x : Int) (n : Nat) : bits .or .u32 (x / 2 ^ n) (x * 2 ^ (32 - n) % 4294967296) = rot x n := or_comm _ _

end Go.Proofs.YtppbplchdfhnkaaDoor.Sha
