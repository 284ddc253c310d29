/-
  The contracts of package agoraref02's Num, Text and List.
  The reference's SHA-256: the text is padded first, then read block by block. No program in this text.
  The contracts of package agoraref03's turn, firsts, adds, words and next.
  The contract of package agoraref03's next.
  The contract of package agoraref03's Sha.
  The contracts of agoraref02's Int, Nums, List and SameNums.
-/
import Derived.Test.YtomkeaeegdjhnaaGreatDoorCode
import Derived.Deep.RegionWith
import Derived.Test.YtomkeaeegdjhnaaGreatDoorSha
import Derived.Maps.AppendAt
import Derived.Deep.RegionHeld3
import Derived.Deep.RegionLaw
import Derived.BigQuiet
import Derived.Test.YtomkeaeegdjhnaaGreatDoorMgItKn
set_option linter.unusedVariables false
set_option linter.unusedSimpArgs false
namespace Go.Proofs.YtomkeaeegdjhnaaGreatDoor.Code
open Go.RowKit Grp Mem

/-- A row just laid, as an owned slice. -/
theorem owns_new (w : World) (t : TypeId) (cs : Array Value) (n : Nat) (hn : cs.size = n) (hm : n ≤ maxLen) : Owns (w.alloc (.cells cs t)) w.heap.size t 1 (.slice (some ⟨w.heap.size, 0, none⟩) n n) n cs.toList := by
  subst hn
  exact ⟨by simp, .inr ⟨w.heap.size, cs.size, cs, (0, 0), rfl, Nat.le_refl _, heap_alloc_new w _, .inl rfl, Nat.le_refl _, hm, by simp, by rw [Nat.mul_one, ← Array.length_toList, List.take_length]⟩⟩

theorem one_byte (b : Nat) (x : Int) (h : b < 256) (hx : x = b) (W : World) (g : Nat) (hc : W.cell? ⟨g, 0, none⟩ = some (.int .u8 x)) :
    (convert 92 9 (.slice (some ⟨g, 0, none⟩) 1 1)).run Tryz.prog W = .ok (.string ⟨#[UInt8.ofNat b]⟩) W := by
  subst hx
  refine run_convert_bytes_back (P := Tryz.prog) W 92 9 5 ⟨g, 0, none⟩ 1 [UInt8.ofNat b] Tryz.underlying92 Tryz.underlying5 Tryz.underlying9 (fun j hj => ?_)
  have hj0 : j = 0 := by simp at hj; omega
  subst hj0
  have : (UInt8.ofNat b).toNat = b := by simp [UInt8.toNat_ofNat', Nat.mod_eq_of_lt h]
  have hadd : (⟨g, 0, none⟩ : Addr).add 0 = ⟨g, 0, none⟩ := rfl
  rw [hadd, hc]
  simp [this]

theorem q_alloc {w0 w : World} (hq : Q w0 w) (o : Obj) : Q w0 (w.alloc o) := Below.alloc hq hq.size o
theorem q_allocd {w0 w : World} (hq : Q w0 w) (o : Obj) : Q w0 (w.alloc o).drew := (q_alloc hq o).drew
theorem u8_bd (y : Int) : 0 ≤ IntKind.u8.wrap y ∧ IntKind.u8.wrap y < 256 := by rw [IntKind.wrap_u8]; omega
theorem conv_cell (W : World) (g : Nat) (y : Int) (hc : W.cell? ⟨g, 0, none⟩ = some (.int .u8 (IntKind.u8.wrap y))) :
    (convert 92 9 (.slice (some ⟨g, 0, none⟩) 1 1)).run Tryz.prog W = .ok (.string ⟨#[UInt8.ofNat (IntKind.u8.wrap y).toNat]⟩) W :=
  one_byte (IntKind.u8.wrap y).toNat _ (by have := u8_bd y; omega) (by have := u8_bd y; omega) W g hc
theorem conv_new (W : World) (y : Int) (t : TypeId) : (convert 92 9 (.slice (some ⟨W.heap.size, 0, none⟩) 1 1)).run Tryz.prog (W.alloc (.cells #[.int .u8 (IntKind.u8.wrap y)] t)) = .ok (.string ⟨#[UInt8.ofNat (IntKind.u8.wrap y).toNat]⟩) (W.alloc (.cells #[.int .u8 (IntKind.u8.wrap y)] t)) :=
  conv_cell _ _ y ((Blk.new W t _).cell 0)
theorem conv_newd (W : World) (y : Int) (t : TypeId) : (convert 92 9 (.slice (some ⟨W.heap.size, 0, none⟩) 1 1)).run Tryz.prog (W.alloc (.cells #[.int .u8 (IntKind.u8.wrap y)] t)).drew = .ok (.string ⟨#[UInt8.ofNat (IntKind.u8.wrap y).toNat]⟩) (W.alloc (.cells #[.int .u8 (IntKind.u8.wrap y)] t)).drew :=
  conv_cell _ _ y ((Blk.new W t _).cell 0)
theorem conv_call {W W' : World} {y : Int} {t : TypeId} (hq : Q (W.alloc (.cells #[.int .u8 (IntKind.u8.wrap y)] t)) W') : (convert 92 9 (.slice (some ⟨W.heap.size, 0, none⟩) 1 1)).run Tryz.prog W' = .ok (.string ⟨#[UInt8.ofNat (IntKind.u8.wrap y).toNat]⟩) W' :=
  conv_cell _ _ y (((Blk.new W t _).q hq).cell 0)
theorem conv_calld {W W' : World} {y : Int} {t : TypeId} (hq : Q (W.alloc (.cells #[.int .u8 (IntKind.u8.wrap y)] t)).drew W') : (convert 92 9 (.slice (some ⟨W.heap.size, 0, none⟩) 1 1)).run Tryz.prog W' = .ok (.string ⟨#[UInt8.ofNat (IntKind.u8.wrap y).toNat]⟩) W' :=
  conv_cell _ _ y (((Blk.new W t _).drew.q hq).cell 0)

theorem vint_cons (f n : Nat) (h : 128 ≤ n) : (⟨#[UInt8.ofNat (128 + n % 128)]⟩ : ByteArray) ++ ⟨(vint f (n / 128)).toArray⟩ = ⟨(vint (f + 1) n).toArray⟩ := by
  apply ba_ext
  rw [ba_append, vint, if_neg (by omega)]
  simp

set_option maxRecDepth 100000 in
set_option maxHeartbeats 1000000 in
theorem RNum_f : ∀ (f n : Nat) (w : World), n < 128 ^ (f + 1) → f ≤ 9 → n ≤ 9223372036854775807 →
    Calls Tryz.prog 106 #[.int .i64 n] w fun e w' => e = .returned (.string ⟨(vint f n).toArray⟩) ∧ Q w w' := by
  intro f
  induction f with
  | zero =>
    intro n w hn _ _
    have hcv := one_byte n n (by omega) rfl
    go_enter Tryz.func106, Tryz.ntmps106
    go_wp2
    go_ret
    exact ⟨rfl, Below.alloc (Q.refl w) (Nat.le_refl _) _⟩
  | succ f ih =>
    intro n w hn hf9 h1
    by_cases hlt : n < 128
    · have hcv := one_byte n n (by omega) rfl
      have hv : vint (f + 1) n = [UInt8.ofNat n] := by rw [vint, if_pos hlt]
      rw [hv]
      clear hv ih
      go_enter Tryz.func106, Tryz.ntmps106
      go_wp2
      go_ret
      exact ⟨rfl, Below.alloc (Q.refl w) (Nat.le_refl _) _⟩
    · have hcat := vint_cons f n (by omega)
      have hfd : n / 128 < 128 ^ (f + 1) := by rw [Nat.pow_succ] at hn; omega
      have hih := fun W => ih (n / 128) W hfd (by omega) (by omega)
      have hvl := vint_length f (n / 128)
      rw [← hcat]
      have hsz : ∀ x : UInt8, (⟨#[x]⟩ : ByteArray).size + (⟨(vint f (n / 128)).toArray⟩ : ByteArray).size ≤ 9223372036854775807 := by
        intro x
        have h1 : (⟨#[x]⟩ : ByteArray).size = 1 := rfl
        rw [h1, ba_size]
        omega
      have hwr : (IntKind.u8.wrap (IntKind.i64.wrap (128 + (n : Int).tmod 128))).toNat = 128 + n % 128 := by
        have h1 : (n : Int).tmod 128 = ((n % 128 : Nat) : Int) := by rw [Int.tmod_eq_emod_of_nonneg (by omega)]; omega
        rw [h1, IntWalk.i64_in _ ⟨by omega, by omega⟩, IntKind.wrap_u8]
        omega
      have HW := Lib.hid hwr
      have hih : ∀ W, Calls Tryz.prog 106 #[.int .i64 ((n / 128 : Nat) : Int)] W fun e w' => e = .returned (.string ⟨(vint f (n / 128)).toArray⟩) ∧ Q W w' := hih
      have hqw : IntKind.i64.wrap ((n : Int) / 128) = ((n / 128 : Nat) : Int) := by rw [IntWalk.i64_in _ ⟨by omega, by omega⟩]; omega
      have hcv1 := conv_new
      have hcv2 := conv_newd
      have hQ0 := Q.refl w
      have hQd := (Q.refl w).drew
      have hs1 : 1 + (⟨(vint f (n / 128)).toArray⟩ : ByteArray).size ≤ 9223372036854775807 := by rw [ba_size]; omega
      have hs2 : (1 : Int) + ((⟨(vint f (n / 128)).toArray⟩ : ByteArray).size : Int) ≤ 9223372036854775807 := by rw [ba_size]; omega
      clear ih hcat hfd hn hvl hwr
      generalize (⟨(vint f (n / 128)).toArray⟩ : ByteArray) = V at *
      go_enter Tryz.func106, Tryz.ntmps106
      go_wp2_with fail
      go_region_with (first | (go_at_call 106; refine (hih _).mono ?_; rintro e w' ⟨rfl, hq⟩; first | (have hcv3 := conv_calld hq; have hq3 := Q.trans (q_allocd hQ0 _) hq) | have hq3 := Q.trans hQd hq))
      all_goals
        go_wp2
        go_ret
        exact ⟨by first | rfl | (simp; done) | (simp; rfl), by first | assumption | exact q_alloc (by assumption) _⟩

theorem vint_enough : ∀ (f n : Nat), n < 128 ^ (f + 1) → vint f n = vint (f + 1) n := by
  intro f
  induction f with
  | zero => intro n h; rw [vint, vint, if_pos (by omega)]
  | succ f ih =>
    intro n h
    rw [vint]
    conv => rhs; rw [vint]
    by_cases hlt : n < 128
    · rw [if_pos hlt, if_pos hlt]
    · rw [if_neg hlt, if_neg hlt, ih (n / 128) (by rw [Nat.pow_succ] at h; omega)]

set_option maxHeartbeats 400000 in
theorem RNum_any (n : Int) (w : World) (h1 : n ≤ 9223372036854775807) :
    Calls Tryz.prog 106 #[.int .i64 n] w fun e w' => e = .returned (.string (numB n)) ∧ Q w w' := by
  by_cases h0 : n < 0
  · have hn : numB n = ⟨#[]⟩ := by unfold numB; rw [if_pos h0]
    have HN := Lib.hid hn
    clear hn
    go_enter Tryz.func106, Tryz.ntmps106
    go_wp2
    go_ret
    exact ⟨by rw [HN.out]; rfl, Q.refl _⟩
  · obtain ⟨m, rfl⟩ := Int.eq_ofNat_of_zero_le (show 0 ≤ n by omega)
    have hn : numB (m : Int) = ⟨(vint 9 m).toArray⟩ := by unfold numB; rw [if_neg h0]; rfl
    rw [hn]
    exact RNum_f 9 m w (by have : 9223372036854775807 < 128 ^ (9 + 1) := by decide
                           omega) (by omega) (by omega)

set_option maxHeartbeats 400000 in
theorem RText_any (s : ByteArray) (w : World) (hs : s.size ≤ 140737488355327) :
    Calls Tryz.prog 108 #[.string s] w fun e w' => e = .returned (.string (textB s)) ∧ Q w w' := by
  rw [← textB_eq]
  have hsm : (numB (s.size : Int)).size + s.size ≤ 9223372036854775807 := by have := numB_size (s.size : Int); omega
  go_enter Tryz.func108, Tryz.ntmps108
  go_wp2_with (go_at_call 106; refine (RNum_any _ _ (by omega)).mono ?_; rintro e w' ⟨rfl, hq⟩)
  go_ret
  exact ⟨rfl, hq⟩

theorem uptoB_succ (l : List ByteArray) (k : Nat) (h : k < l.length) : (⟨(upto l k).toArray⟩ : ByteArray) ++ textB l[k] = ⟨(upto l (k + 1)).toArray⟩ := by
  apply ba_ext
  rw [ba_append, upto_succ l k h]
  simp [textB]
end Go.Proofs.YtomkeaeegdjhnaaGreatDoor.Code

namespace Go.Proofs.YtomkeaeegdjhnaaGreatDoor.Sha
open Go.RowKit Grp Mem

def ofL (l : List UInt8) : ByteArray := ⟨l.toArray⟩
theorem ofL_list (l : List UInt8) : (ofL l).data.toList = l := by simp [ofL]
theorem ofL_of (s : ByteArray) : ofL s.data.toList = s := by simp [ofL]
theorem ofL_size (l : List UInt8) : (ofL l).size = l.length := by simp [ofL, ByteArray.size]
theorem len_list (s : ByteArray) : s.data.toList.length = s.size := by rw [Array.length_toList]; rfl
theorem extract_list (s : ByteArray) (a b : Nat) : (s.extract a b).data.toList = (s.data.toList.drop a).take (b - a) := by
  rw [ByteArray.data_extract, Array.toList_extract, List.extract_eq_take_drop]
/-- Block j of a list of bytes. -/
def blk (l : List UInt8) (j : Nat) : ByteArray := ofL ((l.drop (64 * j)).take 64)
/-- The state after j blocks. -/
def hs (l : List UInt8) : Nat → V8
  | 0 => init
  | j + 1 => mix (hs l j) (blk l j)
theorem hs_ok (l : List UInt8) : ∀ j, V8Ok (hs l j) := by
  intro j
  cases j with
  | zero => exact init_ok
  | succ j => exact mix_ok _ _
theorem blk_size (l : List UInt8) (j : Nat) (h : 64 * j + 64 ≤ l.length) : (blk l j).size = 64 := by
  unfold blk
  rw [ofL_size, List.length_take, List.length_drop]
  omega
theorem blk_byte (l : List UInt8) (j k : Nat) (hk : k < 64) : byteAt (blk l j) k = ((l.getD (64 * j + k) 0).toNat : Int) := by
  unfold byteAt blk
  rw [ofL_list, List.getD_eq_getElem?_getD, List.getD_eq_getElem?_getD, List.getElem?_take, if_pos hk, List.getElem?_drop]
def feed : Nat → V8 → List UInt8 → V8
  | 0, v, _ => v
  | n + 1, v, l => feed n (mix v (ofL (l.take 64))) (l.drop 64)
theorem feed_hs (l : List UInt8) : ∀ n j, feed n (hs l j) (l.drop (64 * j)) = hs l (j + n) := by
  intro n
  induction n with
  | zero => intro j; rfl
  | succ n ih =>
    intro j
    have h := ih (j + 1)
    rw [feed, List.drop_drop]
    rw [show j + (n + 1) = j + 1 + n by omega, ← h]
    rfl
theorem eat_feed : ∀ (f : Nat) (v : V8) (r : ByteArray), r.size < 64 * (f + 1) → ∀ (T : List UInt8) (n : Nat), feed (r.size / 64 + n) v (r.data.toList ++ T) = feed n (eat f v r).1 ((eat f v r).2.data.toList ++ T) := by
  intro f
  induction f with
  | zero =>
    intro v r h T n
    rw [show r.size / 64 + n = n by omega]
    rfl
  | succ f ih =>
    intro v r h T n
    by_cases hr : 64 ≤ r.size
    · rw [eat_step _ _ _ hr]
      have hl := len_list r
      have hs : (r.extract 64 r.size).size = r.size - 64 := by simp
      have h2 := ih (mix v (r.extract 0 64)) (r.extract 64 r.size) (by omega) T n
      rw [← h2, hs, show r.size / 64 + n = ((r.size - 64) / 64 + n) + 1 by omega, feed]
      have e1 : ofL ((r.data.toList ++ T).take 64) = r.extract 0 64 := by
        rw [List.take_append_of_le_length (by omega), ← ofL_of (r.extract 0 64), extract_list]
        rfl
      have e2 : (r.data.toList ++ T).drop 64 = (r.extract 64 r.size).data.toList ++ T := by
        rw [List.drop_append_of_le_length (by omega), extract_list, List.take_of_length_le (by rw [List.length_drop]; omega)]
      rw [e1, e2]
    · rw [eat_short _ _ _ (by omega), show r.size / 64 + n = n by omega]
theorem eat_left : ∀ (f : Nat) (v : V8) (r : ByteArray), r.size < 64 * (f + 1) → (eat f v r).2.size = r.size % 64 := by
  intro f
  induction f with
  | zero => intro v r h; show r.size = _; omega
  | succ f ih =>
    intro v r h
    by_cases hr : 64 ≤ r.size
    · rw [eat_step _ _ _ hr]
      have hs : (r.extract 64 r.size).size = r.size - 64 := by simp
      rw [ih _ _ (by omega), hs]
      omega
    · rw [eat_short _ _ _ (by omega)]
      show r.size = _
      omega
/-- The padded text. -/
def zeros (s : ByteArray) : Nat := padLen (s.size % 64)
def tail (s : ByteArray) : List UInt8 := [128] ++ List.replicate (zeros s) 0 ++ be s.size 8
def padded (s : ByteArray) : List UInt8 := s.data.toList ++ tail s
theorem padded_length (s : ByteArray) : (padded s).length = s.size + 9 + zeros s := by
  unfold padded tail
  rw [List.length_append, List.length_append, List.length_append, List.length_replicate, be_length, len_list]
  simp
  omega
theorem zeros_spec (s : ByteArray) : (s.size + 1 + zeros s) % 64 = 56 ∧ zeros s ≤ 63 ∧ ∀ k, k < zeros s → (s.size + 1 + k) % 64 ≠ 56 := by
  unfold zeros padLen
  split
  · exact ⟨by omega, by omega, fun k hk => by omega⟩
  · exact ⟨by omega, by omega, fun k hk => by omega⟩
theorem shaV_hs (s : ByteArray) : shaV s = hs (padded s) ((padded s).length / 64) := by
  have h0 : s.size < 64 * (s.size + 1) := by omega
  have hsz := eat_left s.size init s h0
  have hf := eat_feed s.size init s h0
  unfold shaV
  generalize eat s.size init s = e at *
  have hE : (endB e.2 s.size).data.toList = e.2.data.toList ++ tail s := by
    unfold endB endL fin pre tail zeros
    rw [hsz]
    simp
  have hEs := endB_size e.2 s.size (by omega)
  have hEs2 : (endB e.2 s.size).size ≤ 128 := by rw [hEs]; split <;> omega
  have h3 := eat_feed 3 e.1 (endB e.2 s.size) (by omega) [] 0
  rw [List.append_nil, Nat.add_zero, hE] at h3
  have h4 := hf (tail s) ((endB e.2 s.size).size / 64)
  have h5 : s.size / 64 + (endB e.2 s.size).size / 64 = (padded s).length / 64 := by
    rw [padded_length, hEs, hsz]
    unfold zeros padLen
    split <;> omega
  have h6 := feed_hs (padded s) ((padded s).length / 64) 0
  rw [Nat.zero_add] at h6
  rw [← h6]
  show _ = feed _ init (padded s)
  rw [← h5]
  show _ = feed _ init (s.data.toList ++ tail s)
  rw [h4, h3]
  rfl
/-- Byte i of the digest. -/
def outI (v : V8) (i : Nat) : Int := v.list.getD (i / 4) 0 / ((2 ^ (24 - 8 * (i % 4)) : Nat) : Int) % 256
def outs (v : V8) (n : Nat) : List UInt8 := (List.range n).map fun i => UInt8.ofNat (outI v i).toNat
theorem outs_succ (v : V8) (n : Nat) : outs v (n + 1) = outs v n ++ [UInt8.ofNat (outI v n).toNat] := by simp [outs, List.range_succ]
theorem outs_length (v : V8) (n : Nat) : (outs v n).length = n := by simp [outs]
theorem digest_outs (v : V8) : digest v = outs v 32 := by
  obtain ⟨a, b, c, d, e, f, g, h⟩ := v
  simp [digest, V8.list, wordBytes, outs, outI, List.range_succ, Int.ediv_one]
theorem outI_bd (v : V8) (i : Nat) : 0 ≤ outI v i ∧ outI v i < 256 := by unfold outI; omega
theorem outs_cells (v : V8) (n : Nat) : cellsOf (outs v (n + 1)) = cellsOf (outs v n) ++ [Value.int .u8 (outI v n)] := by
  have hb := outI_bd v n
  rw [outs_succ, cellsOf_append]
  congr 1
  simp only [cellsOf, List.map_cons, List.map_nil]
  rw [byte_cell _ hb.1 hb.2]

/-- The rounds, spelled the reference's way. -/
theorem or_comm (x y : Int) : bits .or .u32 x y = bits .or .u32 y x := by
  unfold bits
  simp only [BitVec.or_comm]
theorem rot_comm (x : Int) (n : Nat) : bits .or .u32 (x / 2 ^ n) (x * 2 ^ (32 - n) % 4294967296) = rot x n := or_comm _ _

end Go.Proofs.YtomkeaeegdjhnaaGreatDoor.Sha

namespace Go.Proofs.YtomkeaeegdjhnaaGreatDoor.Sha
open Go.RowKit Grp Mem _root_.Go.Proofs.YtomkeaeegdjhnaaGreatDoor.Code

theorem word_info : (Tryz.prog.info? 88).map (fun i => (i.zero, i.size, i.bytes)) = some (some (.int .u32 0), 1, 4) := by kernel_rfl

set_option maxRecDepth 100000 in
set_option maxHeartbeats 400000 in
theorem rturn_nat (x : Int) (n : Nat) (w : World) (h : U32 x) (n0 : 0 < n) (n1 : n < 32) :
    Calls Tryz.prog 181 #[.int .u32 x, .int .i64 n] w fun e w' => e = .returned (.int .u32 (rot x n)) ∧ ∃ q, w' = w.drewN q := by
  obtain ⟨x0, x1⟩ := h
  rw [← rot_comm]
  have e2 : (32 - (n : Int)).toNat = 32 - n := by omega
  have e3 : (32 : Int) - (n : Int) = ((32 - n : Nat) : Int) := by omega
  have n2 : (n : Int) < 32 := by omega
  go_enter Tryz.func181, Tryz.ntmps181
  go_wp2_with fail
  go_quiet (fail)
  go_wp2
  go_ret
  exact ⟨rfl, _, rfl⟩
theorem rturn_any (x m : Int) (w : World) (h : U32 x) (n0 : 0 < m) (n1 : m < 32) :
    Calls Tryz.prog 181 #[.int .u32 x, .int .i64 m] w fun e w' => e = .returned (.int .u32 (rot x m.toNat)) ∧ ∃ q, w' = w.drewN q := by
  obtain ⟨n, rfl⟩ := Int.eq_ofNat_of_zero_le (show 0 ≤ m by omega)
  exact rturn_nat x n w h (by omega) (by omega)
/-- A quiet call behind quiet operations. -/
theorem rquiet {P : Program} {f : FuncId} {args : Array Value} {w : World} {a n : Nat} {v : Value}
    (h : Calls P f args (w.drewN (a + n)) fun e w' => e = .returned v ∧ ∃ q, w' = (w.drewN (a + n)).drewN q) :
    Calls P f args (w.drewN (a + n)) fun e w'' => e = .returned v ∧ ∃ m, w'' = w.drewN (a + m) :=
  h.mono fun e w' ⟨he, q, hm⟩ => ⟨he, n + q, by rw [hm, World.drewN_drewN, Nat.add_assoc]⟩

/-- append onto a row that lies: what the row held stays readable at its old place. -/
theorem run_append_keep {P : Program} (w : World) (base : Nat) (t ty e : TypeId) (i : TypeInfo) (z : Value) (size bytes : Nat) (ht : P.underlying t = some (.slice e)) (hi : P.info? e = some i) (hz : i.zero = some z)
    (hsize : i.size = size) (hby : i.bytes = bytes) (hzs : z.cells.size = size) (hsz : 0 < size)
    (g cap n : Nat) (xs : List Value) (hown : Owns w base e size (.slice (some ⟨g, 0, none⟩) n cap) n xs)
    (a : Addr) (m c : Nat) (news : List Value) (hl : news.length = m * size) (hnews : ∀ j u, news[j]? = some u → w.cell? (a.add j) = some u) (h1 : ∀ u ∈ news, u.oneCell' = true)
    (h63 : n + m ≤ maxLen) (hbytes : (n + m) * bytes ≤ 140737488355328) (v' : Value) (w' : World) (hr : (Builtin.append_ #[t, t] ty #[.slice (some ⟨g, 0, none⟩) n cap, .slice (some a) m c]).run P w = .ok v' w') :
    ∀ j u, xs[j]? = some u → w'.cell? ⟨g, j, none⟩ = some u := by
  intro j u hu
  have hold := hown.cells (g := g) rfl j u hu
  have hadd : (⟨g, 0, none⟩ : Addr).add j = ⟨g, j, none⟩ := by unfold Addr.add; split <;> simp_all
  rw [hadd] at hold
  rcases hown.2 with ⟨hv, _⟩ | ⟨g', cap', cur, fz, hv, hbg, hg, hfz, hnc, hcm, hcs, htake⟩
  · cases hv
  · cases hv
    subst hsize
    subst hby
    have hsmall : n + m ≤ 9223372036854775807 := by simp only [maxLen] at h63; omega
    have hjl : j < xs.length := (List.getElem?_eq_some_iff.1 hu).1
    by_cases hroom : n + m ≤ cap
    · have hfit : n * i.size + news.length ≤ cur.size := by rw [hl, hcs, ← Nat.add_mul]; exact Nat.mul_le_mul_right _ hroom
      have hf := run_firstCells_some (P := P) w i.size m a m c news hl hnews
      have hst := run_storeCells_loose P g (n * i.size) e fz news 0 cur w hg hfz (by simpa using hfit) h1
      simp only [Nat.add_zero] at hst
      have hr2 : (Builtin.append_ #[t, t] ty #[.slice (some ⟨g, 0, none⟩) n cap, .slice (some a) m c]).run P w =
          .ok (.slice (some ⟨g, 0, none⟩) (n + m) cap) (w.setRow g (cur.toList.take (n * i.size) ++ news ++ cur.toList.drop (n * i.size + news.length)).toArray) := by
        simp [Builtin.append_, run_underlying ht, sizeOf, typeInfo, hi, Builtin.lenOf, hroom, hf, Addr.add_lit, hst]
      rw [hr2] at hr
      cases hr
      rw [cell_of_row _ g j _ e fz (setRow_heap w g cur _ e _ hg), htake, List.getElem?_toArray, List.append_assoc, List.getElem?_append_left hjl]
      exact hu
    · have holds : ∀ j u, xs[j]? = some u → w.cell? ((⟨g, 0, none⟩ : Addr).add j) = some u := hown.cells (g := g) rfl
      have hr2 := run_append_grow (P := P) w t ty e i z ht hi hz ⟨g, 0, none⟩ n cap xs hown.1 holds a m c news hl hnews (by omega) (by omega) (growslice_fits (by omega) hbytes)
      rw [hr2] at hr
      cases hr
      exact (World.cell?_of_block (Below.heap_alloc w.drew _ g (Array.getElem?_eq_some_iff.1 hg).1)).trans hold

/-- append, as one step of a region that draws its order, onto a row that lies. -/
theorem step_append_keep {P : Program} {w : World} {ops : Array Oper} {o : Oper} {a : Act} {K : Act → World → Prop} {Q : Exit → Act → World → Prop} {E : Prop} (hgd : o.guard = none) (s x : Operand) (t : TypeId)
    (ho : o.op = .call { callee := .builtin .append, args := #[s, x], argTypes := #[t, t] })
    (base : Nat) (e : TypeId) (i : TypeInfo) (z : Value) (size bytes : Nat) (ht : P.underlying t = some (.slice e)) (hi : P.info? e = some i) (hz : i.zero = some z)
    (hsize : i.size = size) (hby : i.bytes = bytes) (hzs : z.cells.size = size) (hsz : 0 < size)
    (g cp n : Nat) (xs : List Value) (hs : a.eval s = .slice (some ⟨g, 0, none⟩) n cp) (hown : Owns w base e size (.slice (some ⟨g, 0, none⟩) n cp) n xs)
    (ad : Addr) (m c : Nat) (news : List Value) (hx : a.eval x = .slice (some ad) m c) (hl : news.length = m * size) (hnews : ∀ j u, news[j]? = some u → w.cell? (ad.add j) = some u) (h1 : ∀ u ∈ news, u.oneCell' = true)
    (h63 : n + m ≤ maxLen) (hbytes : (n + m) * bytes ≤ 140737488355328) (hbase : base ≤ w.heap.size)
    (h : ∀ A cap w', n + m ≤ cap → cap ≤ maxLen → Owns w' base e size (.slice A (n + m) cap) (n + m) (xs ++ news) → w.grownBy w' (some g) → (∀ j u, xs[j]? = some u → w'.cell? ⟨g, j, none⟩ = some u) → K (a.put o.dst (.slice A (n + m) cap)) w') :
    if Region.wanted o (yielded ops a.tmps) = true then Oper.wp P o a w K Q else E := by
  have hw : Region.wanted o (yielded ops a.tmps) = true := by simp [Region.wanted, hgd]
  rw [if_pos hw]
  obtain ⟨v', w', hr, h2, h3⟩ := run_append_owns (P := P) w base t o.type e i z size bytes ht hi hz hsize hby hzs hsz _ n xs hown ad m c news hl hnews h1 h63 hbytes hbase
  have hk := run_append_keep (P := P) w base t o.type e i z size bytes ht hi hz hsize hby hzs hsz g cp n xs hown ad m c news hl hnews h1 h63 hbytes v' w' hr
  obtain ⟨A, cap, rfl, hc1, hc2⟩ := h2.shape
  unfold Oper.wp execOp
  simp only [ho, resolve, invoke, builtin, Sem.run_bind, Sem.run_pure, Result.andThen_ok, List.map_toArray, List.map_cons, List.map_nil, hs, hx, hr]
  exact h A cap w' hc1 hc2 h2 h3 hk

/-- append, as one step of a region that draws its order. -/
theorem step_append_owns {P : Program} {w : World} {ops : Array Oper} {o : Oper} {a : Act} {K : Act → World → Prop} {Q : Exit → Act → World → Prop} {E : Prop} (hgd : o.guard = none) (s x : Operand) (t : TypeId)
    (ho : o.op = .call { callee := .builtin .append, args := #[s, x], argTypes := #[t, t] })
    (base : Nat) (e : TypeId) (i : TypeInfo) (z : Value) (size bytes : Nat) (ht : P.underlying t = some (.slice e)) (hi : P.info? e = some i) (hz : i.zero = some z)
    (hsize : i.size = size) (hby : i.bytes = bytes) (hzs : z.cells.size = size) (hsz : 0 < size)
    (v : Value) (n : Nat) (xs : List Value) (hs : a.eval s = v) (hown : Owns w base e size v n xs)
    (ad : Addr) (m c : Nat) (news : List Value) (hx : a.eval x = .slice (some ad) m c) (hl : news.length = m * size) (hnews : ∀ j u, news[j]? = some u → w.cell? (ad.add j) = some u) (h1 : ∀ u ∈ news, u.oneCell' = true)
    (h63 : n + m ≤ maxLen) (hbytes : (n + m) * bytes ≤ 140737488355328) (hbase : base ≤ w.heap.size)
    (h : ∀ A cap w', n + m ≤ cap → cap ≤ maxLen → Owns w' base e size (.slice A (n + m) cap) (n + m) (xs ++ news) → w.grownBy w' v.ownBlock → K (a.put o.dst (.slice A (n + m) cap)) w') :
    if Region.wanted o (yielded ops a.tmps) = true then Oper.wp P o a w K Q else E := by
  have hw : Region.wanted o (yielded ops a.tmps) = true := by simp [Region.wanted, hgd]
  rw [if_pos hw]
  obtain ⟨v', w', hr, h2, h3⟩ := run_append_owns (P := P) w base t o.type e i z size bytes ht hi hz hsize hby hzs hsz v n xs hown ad m c news hl hnews h1 h63 hbytes hbase
  obtain ⟨A, cap, rfl, hc1, hc2⟩ := h2.shape
  unfold Oper.wp execOp
  simp only [ho, resolve, invoke, builtin, Sem.run_bind, Sem.run_pure, Result.andThen_ok, List.map_toArray, List.map_cons, List.map_nil, hs, hx, hr]
  exact h A cap w' hc1 hc2 h2 h3

/-- Words as cells. -/
def cellsW (l : List Int) : List Value := l.map fun x => Value.int .u32 x
theorem cellsW_length (l : List Int) : (cellsW l).length = l.length := by simp [cellsW]
theorem cellsW_get (l : List Int) (j : Nat) (h : j < l.length) : (cellsW l)[j]? = some (.int .u32 (l.getD j 0)) := by
  simp [cellsW, List.getD_eq_getElem?_getD, List.getElem?_eq_getElem h]
/-- Eight words in memory. -/
def Eight (w : World) (g : Nat) (v : V8) : Prop := g < w.heap.size ∧ ∀ j, j < 8 → w.cell? ⟨g, j, none⟩ = some (.int .u32 (v.list.getD j 0))
theorem Eight.q {w w' : World} {g : Nat} {v : V8} (h : Eight w g v) (hq : Q w w') : Eight w' g v := ⟨Nat.lt_of_lt_of_le h.1 hq.size, fun j hj => (hq.cell (p := ⟨g, j, none⟩) h.1).trans (h.2 j hj)⟩
/-- The 64 bytes of a block in memory. -/
def Bytes64 (w : World) (g o : Nat) (s : ByteArray) : Prop := g < w.heap.size ∧ ∀ j, j < 64 → w.cell? ⟨g, o + j, none⟩ = some (.int .u8 (byteAt s j))
theorem Bytes64.q {w w' : World} {g o : Nat} {s : ByteArray} (h : Bytes64 w g o s) (hq : Q w w') : Bytes64 w' g o s := ⟨Nat.lt_of_lt_of_le h.1 hq.size, fun j hj => (hq.cell (p := ⟨g, o + j, none⟩) h.1).trans (h.2 j hj)⟩

theorem arr_cells (v : V8) (j : Nat) (h : j < 8) : v.arr[j]? = some (.int .u32 (v.list.getD j 0)) := by
  rcases (show j = 0 ∨ j = 1 ∨ j = 2 ∨ j = 3 ∨ j = 4 ∨ j = 5 ∨ j = 6 ∨ j = 7 by omega) with rfl | rfl | rfl | rfl | rfl | rfl | rfl | rfl <;> rfl
theorem Eight.of {w : World} {g : Nat} {t : TypeId} {v : V8} (h : Blk w g t v.arr) : Eight w g v := ⟨h.lt, fun j hj => by rw [h.cell, arr_cells v j hj]⟩

set_option maxHeartbeats 400000 in
theorem firsts_any (w : World) : Calls Tryz.prog 135 #[] w fun e w' => e = .returned (.slice (some ⟨w.heap.size, 0, none⟩) 8 8) ∧ Eight w' w.heap.size init ∧ Q w w' := by
  go_enter Tryz.func135, Tryz.ntmps135
  go_wp2
  go_ret
  exact ⟨rfl, Eight.of (Blk.new w _ init.arr), Below.alloc (Q.refl w) (Nat.le_refl _) _⟩

set_option maxRecDepth 100000 in
set_option maxHeartbeats 2000000 in
theorem adds_any (w : World) : Calls Tryz.prog 180 #[] w fun e w' => e = .returned (.slice (some ⟨w.heap.size, 0, none⟩) 64 64) ∧ (∃ t, Blk w' w.heap.size t (cellsW KL).toArray) ∧ Q w w' := by
  go_enter Tryz.func180, Tryz.ntmps180
  go_wp2
  go_ret
  exact ⟨rfl, ⟨_, Blk.new w _ _⟩, Below.alloc (Q.refl w) (Nat.le_refl _) _⟩

/-- Four bytes are kept. -/
def Four (w0 w : World) (g o q : Nat) (x0 x1 x2 x3 : Int) : Prop := g < w.heap.size ∧ Q w0 w ∧ w.cell? ⟨g, o + q, none⟩ = some (.int .u8 x0) ∧ w.cell? ⟨g, o + (q + 1), none⟩ = some (.int .u8 x1) ∧ w.cell? ⟨g, o + (q + 2), none⟩ = some (.int .u8 x2) ∧ w.cell? ⟨g, o + (q + 3), none⟩ = some (.int .u8 x3)
section
variable {w0 w w' : World} {g o r : Nat} {x0 x1 x2 x3 : Int}
theorem Four.held (h : Four w0 w g o r x0 x1 x2 x3) : w.cell? ⟨g, o + r, none⟩ = some (.int .u8 x0) ∧ w.cell? ⟨g, o + (r + 1), none⟩ = some (.int .u8 x1) ∧ w.cell? ⟨g, o + (r + 2), none⟩ = some (.int .u8 x2) ∧ w.cell? ⟨g, o + (r + 3), none⟩ = some (.int .u8 x3) ∧ Four w0 w g o r x0 x1 x2 x3 :=
  ⟨h.2.2.1, h.2.2.2.1, h.2.2.2.2.1, h.2.2.2.2.2, h⟩
theorem Four.q (h : Four w0 w g o r x0 x1 x2 x3) (hq : Q w w') : Four w0 w' g o r x0 x1 x2 x3 :=
  ⟨Nat.lt_of_lt_of_le h.1 hq.size, Q.trans h.2.1 hq, (hq.cell (p := ⟨g, o + r, none⟩) h.1).trans h.2.2.1, (hq.cell (p := ⟨g, o + (r + 1), none⟩) h.1).trans h.2.2.2.1, (hq.cell (p := ⟨g, o + (r + 2), none⟩) h.1).trans h.2.2.2.2.1, (hq.cell (p := ⟨g, o + (r + 3), none⟩) h.1).trans h.2.2.2.2.2⟩
theorem Four.drew (h : Four w0 w g o r x0 x1 x2 x3) : Four w0 w.drew g o r x0 x1 x2 x3 := h.q (Q.refl w).drew
theorem Four.new (h : w.cell? ⟨g, o + r, none⟩ = some (.int .u8 x0) ∧ w.cell? ⟨g, o + (r + 1), none⟩ = some (.int .u8 x1) ∧ w.cell? ⟨g, o + (r + 2), none⟩ = some (.int .u8 x2) ∧ w.cell? ⟨g, o + (r + 3), none⟩ = some (.int .u8 x3) ∧ Four w0 w g o r x0 x1 x2 x3) (ob : Obj) :
    (w.alloc ob).cell? ⟨g, o + r, none⟩ = some (.int .u8 x0) ∧ (w.alloc ob).cell? ⟨g, o + (r + 1), none⟩ = some (.int .u8 x1) ∧ (w.alloc ob).cell? ⟨g, o + (r + 2), none⟩ = some (.int .u8 x2) ∧ (w.alloc ob).cell? ⟨g, o + (r + 3), none⟩ = some (.int .u8 x3) ∧ Four w0 (w.alloc ob) g o r x0 x1 x2 x3 :=
  (h.2.2.2.2.q (q_alloc (Q.refl w) ob)).held
end
abbrev wsum (x0 x1 x2 x3 : Int) : Int := IntKind.u32.wrap (IntKind.u32.wrap (IntKind.u32.wrap (IntKind.u32.wrap (IntKind.u32.wrap x0 * 16777216) + IntKind.u32.wrap (IntKind.u32.wrap x1 * 65536)) + IntKind.u32.wrap (IntKind.u32.wrap x2 * 256)) + IntKind.u32.wrap x3)
theorem wsum_eq {a b c d : Int} (ha : 0 ≤ a ∧ a < 256) (hb : 0 ≤ b ∧ b < 256) (hc : 0 ≤ c ∧ c < 256) (hd : 0 ≤ d ∧ d < 256) : wsum a b c d = a * 16777216 + b * 65536 + c * 256 + d := by
  unfold wsum
  simp only [IntKind.wrap_u32]
  omega
abbrev wext (a s b t : Int) : Int := IntKind.u32.wrap (IntKind.u32.wrap (IntKind.u32.wrap (a + s) + b) + t)
theorem wext_eq (a s b t : Int) : wext a s b t = ext a s b t := by
  unfold wext ext
  simp only [IntKind.wrap_u32]
  omega
theorem cells_new {w0 w : World} {g a b : Nat} {x y : Value} (h : w.cell? ⟨g, a, none⟩ = some x ∧ w.cell? ⟨g, b, none⟩ = some y ∧ Q w0 w) (ob : Obj) :
    (w.alloc ob).cell? ⟨g, a, none⟩ = some x ∧ (w.alloc ob).cell? ⟨g, b, none⟩ = some y ∧ Q w0 (w.alloc ob) :=
  ⟨(World.cell?_alloc_some w _ ob (by rw [h.1]; rfl)).trans h.1, (World.cell?_alloc_some w _ ob (by rw [h.2.1]; rfl)).trans h.2.1, q_alloc h.2.2 ob⟩
theorem word_sum (a b c d : Int) (ha : 0 ≤ a ∧ a < 256) (hb : 0 ≤ b ∧ b < 256) (hc : 0 ≤ c ∧ c < 256) (hd : 0 ≤ d ∧ d < 256) : a * 16777216 + b * 65536 + c * 256 + d < 4294967296 ∧ 0 ≤ a * 16777216 + b * 65536 + c * 256 + d := by omega
theorem sched_cells (s : ByteArray) (k : Nat) : cellsW (schedL s (k + 1)) = cellsW (schedL s k) ++ [.int .u32 (W s k)] := by
  have hl := schedL_length s k
  conv => lhs; rw [schedL, more]
  unfold cellsW
  rw [List.map_append]
  congr 1
  have : W s k = (if (schedL s k).length < 16 then word s (schedL s k).length else ext ((schedL s k).getD ((schedL s k).length - 16) 0) (sig0 ((schedL s k).getD ((schedL s k).length - 15) 0)) ((schedL s k).getD ((schedL s k).length - 7) 0) (sig1 ((schedL s k).getD ((schedL s k).length - 2) 0))) := by
    unfold W
    conv => lhs; rw [schedL, more]
    rw [getD_r _ _ _ _ (by omega), hl, Nat.sub_self]
    rfl
  rw [this]
  rfl

set_option maxRecDepth 100000 in
set_option maxHeartbeats 2000000 in
theorem words_any (g o c : Nat) (s : ByteArray) (w : World) (hb : Bytes64 w g o s) :
    Calls Tryz.prog 179 #[.slice (some ⟨g, o, none⟩) 64 c] w fun e w' => ∃ A cap, e = .returned (.slice A 64 cap) ∧ Owns w' w.heap.size 88 1 (.slice A 64 cap) 64 (cellsW (schedL s 64)) ∧ Q w w' := by
  obtain ⟨i0, hi, hz0, hz1, hz2⟩ := info_parts word_info
  go_enter Tryz.func179, Tryz.ntmps179
  go_wp2_with fail
  go_loopw [3, 4] (fun x i wr => ∃ (A : Option Addr) (c k : Nat), x = .slice A k c ∧ i = .int .i64 k ∧ k ≤ 16 ∧ k ≤ c ∧ c ≤ maxLen ∧ Owns wr w.heap.size 88 1 (.slice A k c) k (cellsW (schedL s k)) ∧ Q w wr) (fun _ i _ => 16 - (intOf i).toNat)
  case atStart => exact ⟨none, 0, 0, rfl, rfl, by omega, by omega, by simp [maxLen], Owns.nil_ _ _ _ _, Q.refl _⟩
  case round =>
    obtain ⟨A, cp, k, rfl, rfl, hk, hc, hcm, hown, hq⟩ := hrel
    by_cases hlt : k < 16
    · have hbb := hb.q hq
      obtain ⟨q, hq4⟩ : ∃ q, q = 4 * k := ⟨_, rfl⟩
      have c0 := hbb.2 q (by omega)
      have c1 := hbb.2 (q + 1) (by omega)
      have c2 := hbb.2 (q + 2) (by omega)
      have c3 := hbb.2 (q + 3) (by omega)
      have b0 := byteAt_bd s q
      have b1 := byteAt_bd s (q + 1)
      have b2 := byteAt_bd s (q + 2)
      have b3 := byteAt_bd s (q + 3)
      have hw : W s k = byteAt s (4 * k) * 16777216 + byteAt s (4 * k + 1) * 65536 + byteAt s (4 * k + 2) * 256 + byteAt s (4 * k + 3) := W_lo s k hlt
      have hF0 : Four w w g o q (byteAt s q) (byteAt s (q + 1)) (byteAt s (q + 2)) (byteAt s (q + 3)) := ⟨hb.1, Q.refl w, hb.2 q (by omega), hb.2 (q + 1) (by omega), hb.2 (q + 2) (by omega), hb.2 (q + 3) (by omega)⟩
      have hF := hF0.q hq
      have hs := sched_cells s k
      rw [hw, ← hq4, ← wsum_eq b0 b1 b2 b3] at hs
      have HS := Lib.hid hs
      clear hs hw hbb
      generalize byteAt s q = x0 at *
      generalize byteAt s (q + 1) = x1 at *
      generalize byteAt s (q + 2) = x2 at *
      generalize byteAt s (q + 3) = x3 at *
      obtain ⟨p0, q0⟩ := b0
      obtain ⟨p1, q1⟩ := b1
      obtain ⟨p2, q2⟩ := b2
      obtain ⟨p3, q3⟩ := b3
      have e40 : IntKind.i64.wrap (4 * (k : Int)) = 4 * (k : Int) := IntWalk.i64_in _ ⟨by omega, by omega⟩
      have e41 : IntKind.i64.wrap (4 * (k : Int) + 1) = 4 * (k : Int) + 1 := IntWalk.i64_in _ ⟨by omega, by omega⟩
      have e42 : IntKind.i64.wrap (4 * (k : Int) + 2) = 4 * (k : Int) + 2 := IntWalk.i64_in _ ⟨by omega, by omega⟩
      have e43 : IntKind.i64.wrap (4 * (k : Int) + 3) = 4 * (k : Int) + 3 := IntWalk.i64_in _ ⟨by omega, by omega⟩
      have n0 : (4 * (k : Int)).toNat = q := by omega
      have n1 : (4 * (k : Int) + 1).toNat = q + 1 := by omega
      have n2 : (4 * (k : Int) + 2).toNat = q + 2 := by omega
      have n3 : (4 * (k : Int) + 3).toNat = q + 3 := by omega
      have l0 : 0 ≤ 4 * (k : Int) := by omega
      have l1 : 0 ≤ 4 * (k : Int) + 1 := by omega
      have l2 : 0 ≤ 4 * (k : Int) + 2 := by omega
      have l3 : 0 ≤ 4 * (k : Int) + 3 := by omega
      have j0 : 4 * (k : Int) < 64 := by omega
      have j1 : 4 * (k : Int) + 1 < 64 := by omega
      have j2 : 4 * (k : Int) + 2 < 64 := by omega
      have j3 : 4 * (k : Int) + 3 < 64 := by omega
      clear hq4
      go_wp2_with fail
      go_region_held3 (fun w' => w'.cell? ⟨g, o + q, none⟩ = some (.int .u8 x0) ∧ w'.cell? ⟨g, o + (q + 1), none⟩ = some (.int .u8 x1) ∧ w'.cell? ⟨g, o + (q + 2), none⟩ = some (.int .u8 x2) ∧ w'.cell? ⟨g, o + (q + 3), none⟩ = some (.int .u8 x3) ∧ Four w w' g o q x0 x1 x2 x3)
        (first | exact hF.drew.held | exact Four.new (by with_reducible assumption) _ | exact (hF0.q hq2).held)
        ((refine step_append_owns (by rfl) _ _ _ (by rfl) w.heap.size 88 i0 _ 1 4 Tryz.underlying185 hi hz0 hz1 hz2 rfl (by decide) _ k _ (by rfl) (hown.drew.alloc _) ⟨wr.heap.size, 0, none⟩ 1 1 [.int .u32 (wsum x0 x1 x2 x3)] (by rfl) rfl (cell_one_new wr (.int .u32 (wsum x0 x1 x2 x3)) 88) (by simp [Value.oneCell']) (by simp only [maxLen]; omega) (by omega) (by have := hq.size; simp; omega) ?_; intro A2 cap2 w2 hn2 hm2 hown2 hg2; have hq2 := q_append hq.drew hown.drew hg2))
      rw [← HS.out] at hown2
      go_wp2
      exact ⟨⟨_, _, k + 1, rfl, by go_num, by omega, hn2, hm2, hown2, hq2⟩, by simp only [intOf]; omega⟩
    · have HK := Lib.hid (show k = 16 by omega)
      rw [HK.out] at hown hc
      go_wp2_with fail
      go_loopw [3, 5] (fun x i wr => ∃ (A : Option Addr) (c k : Nat), x = .slice A k c ∧ i = .int .i64 k ∧ 16 ≤ k ∧ k ≤ 64 ∧ k ≤ c ∧ c ≤ maxLen ∧ Owns wr w.heap.size 88 1 (.slice A k c) k (cellsW (schedL s k)) ∧ Q w wr) (fun _ i _ => 64 - (intOf i).toNat)
      case atStart => exact ⟨A, cp, 16, by rw [HK.out], rfl, by omega, by omega, by omega, hcm, hown, hq⟩
      case round =>
        obtain ⟨A, cp, k, rfl, rfl, hk0, hk, hc, hcm, hown, hq⟩ := hrel
        by_cases hlt : k < 64
        · have hl := schedL_length s k
          have hg : ∀ j, j < k → (cellsW (schedL s k))[j]? = some (.int .u32 (W s j)) := fun j hj => by rw [cellsW_get _ _ (by omega), schedL_getD s k j hj]
          have hW := W_hi s k hk0
          obtain ⟨r16, h16⟩ : ∃ r, r = k - 16 := ⟨_, rfl⟩
          obtain ⟨r15, h15⟩ : ∃ r, r = k - 15 := ⟨_, rfl⟩
          obtain ⟨r7, h7⟩ : ∃ r, r = k - 7 := ⟨_, rfl⟩
          obtain ⟨r2, h2⟩ : ∃ r, r = k - 2 := ⟨_, rfl⟩
          rw [← h16, ← h15, ← h7, ← h2] at hW
          obtain ⟨g1, rfl, -, hg1, c16, -⟩ := hown.cellAt r16 _ (hg _ (by omega))
          obtain ⟨g', he', -, -, c15, -⟩ := hown.cellAt r15 _ (hg _ (by omega))
          obtain rfl : g1 = g' := by injection he' with h; injection h
          obtain ⟨g', he', -, -, c7, -⟩ := hown.cellAt r7 _ (hg _ (by omega))
          obtain rfl : g1 = g' := by injection he' with h; injection h
          obtain ⟨g', he', -, -, c2, -⟩ := hown.cellAt r2 _ (hg _ (by omega))
          obtain rfl : g1 = g' := by injection he' with h; injection h
          clear he'
          have d15 := W_bd s r15
          have d2 := W_bd s r2
          have p15 := d15.1
          have p2 := d2.1
          have he := Lib.hid hW
          have e16 : IntKind.i64.wrap ((k : Int) - 16) = (r16 : Int) := by rw [IntWalk.i64_in _ ⟨by omega, by omega⟩]; omega
          have e15 : IntKind.i64.wrap ((k : Int) - 15) = (r15 : Int) := by rw [IntWalk.i64_in _ ⟨by omega, by omega⟩]; omega
          have e7 : IntKind.i64.wrap ((k : Int) - 7) = (r7 : Int) := by rw [IntWalk.i64_in _ ⟨by omega, by omega⟩]; omega
          have e2 : IntKind.i64.wrap ((k : Int) - 2) = (r2 : Int) := by rw [IntWalk.i64_in _ ⟨by omega, by omega⟩]; omega
          have l16 : (r16 : Int) < (k : Int) := by omega
          have l15 : (r15 : Int) < (k : Int) := by omega
          have l7 : (r7 : Int) < (k : Int) := by omega
          have l2 : (r2 : Int) < (k : Int) := by omega
          clear hW h16 h15 h7 h2
          have HS := Lib.hid (sched_cells s k)
          go_wp2_with fail
          refine (rturn_any _ _ _ d15 (by decide) (by decide)).mono ?_
          rintro e w' ⟨rfl, q1, rfl⟩
          go_wp2_with fail
          refine (rturn_any _ _ _ d15 (by decide) (by decide)).mono ?_
          rintro e w' ⟨rfl, q2, rfl⟩
          go_wp2_with fail
          refine (rturn_any _ _ _ d2 (by decide) (by decide)).mono ?_
          rintro e w' ⟨rfl, q3, rfl⟩
          go_wp2_with fail
          refine (rturn_any _ _ _ d2 (by decide) (by decide)).mono ?_
          rintro e w' ⟨rfl, q4, rfl⟩
          obtain ⟨wq, hwq⟩ : ∃ wq, (wr.drewN (q1 + q2 + q3)).drewN q4 = wq := ⟨_, rfl⟩
          have c16 : wq.cell? ⟨g1, r16, none⟩ = some (.int .u32 (W s r16)) := by rw [← hwq]; exact c16
          have c7 : wq.cell? ⟨g1, r7, none⟩ = some (.int .u32 (W s r7)) := by rw [← hwq]; exact c7
          have hown : Owns wq w.heap.size 88 1 (.slice (some ⟨g1, 0, none⟩) k cp) k (cellsW (schedL s k)) := by rw [← hwq]; exact hown
          have hq : Q w wq := by rw [← hwq]; exact below_drewN (below_drewN hq _) _
          rw [hwq]
          clear hwq
          go_wp2_with fail
          have hx16 := hg r16 (by omega)
          have hx7 := hg r7 (by omega)
          clear hg hl
          go_region_held3 (fun w' => w'.cell? ⟨g1, r16, none⟩ = some (.int .u32 (W s r16)) ∧ w'.cell? ⟨g1, r7, none⟩ = some (.int .u32 (W s r7)) ∧ Q w w')
            (first | exact ⟨c16, c7, hq.drew⟩ | exact cells_new (by with_reducible assumption) _ | exact ⟨hkp _ _ hx16, hkp _ _ hx7, hq2⟩)
            ((refine step_append_keep (by rfl) _ _ _ (by rfl) w.heap.size 88 i0 _ 1 4 Tryz.underlying185 hi hz0 hz1 hz2 rfl (by decide) g1 cp k _ (by rfl) (hown.drew.alloc _) ⟨wq.heap.size, 0, none⟩ 1 1 [.int .u32 (wext (W s r16) (sig0 (W s r15)) (W s r7) (sig1 (W s r2)))] (by rfl) rfl (cell_one_new wq (.int .u32 (wext (W s r16) (sig0 (W s r15)) (W s r7) (sig1 (W s r2)))) 88) (by simp [Value.oneCell']) (by simp only [maxLen]; omega) (by omega) (by have := hq.size; simp; omega) ?_; intro A2 cap2 w2 hn2 hm2 hown2 hg2 hkp; have hq2 := q_append hq.drew hown.drew hg2))
          rw [wext_eq, ← he.out, ← HS.out] at hown2
          go_wp2
          exact ⟨⟨_, _, k + 1, rfl, by go_num, by omega, by omega, hn2, hm2, hown2, hq2⟩, by simp only [intOf]; omega⟩
        · have HK := Lib.hid (show k = 64 by omega)
          rw [HK.out] at hown
          go_wp2
          go_ret
          exact ⟨A, cp, by rw [← HK.out]; rfl, hown, hq⟩

end Go.Proofs.YtomkeaeegdjhnaaGreatDoor.Sha

namespace Go.Proofs.YtomkeaeegdjhnaaGreatDoor.Sha
open Go.RowKit Grp Mem _root_.Go.Proofs.YtomkeaeegdjhnaaGreatDoor.Code

/-- A quiet call. -/
theorem rquiet0 {P : Program} {f : FuncId} {args : Array Value} {w : World} {n : Nat} {v : Value}
    (h : Calls P f args (w.drewN n) fun e w' => e = .returned v ∧ ∃ q, w' = (w.drewN n).drewN q) :
    Calls P f args (w.drewN n) fun e w'' => e = .returned v ∧ ∃ m, w'' = w.drewN m :=
  h.mono fun e w' ⟨he, q, hm⟩ => ⟨he, n + q, by rw [hm, World.drewN_drewN]⟩
theorem eight_news {w : World} {g : Nat} {v : V8} (h : Eight w g v) (j : Nat) (u : Value) (hu : (cellsW v.list)[j]? = some u) : w.cell? ((⟨g, 0, none⟩ : Addr).add j) = some u := by
  have hadd : (⟨g, 0, none⟩ : Addr).add j = ⟨g, j, none⟩ := by unfold Addr.add; split <;> simp_all
  have hj : j < 8 := by
    have := (List.getElem?_eq_some_iff.1 hu).1
    rw [cellsW_length] at this
    exact this
  rw [hadd, h.2 j hj, ← hu, cellsW_get _ _ hj]

/-- Eight words in a row of the call's own. -/
def EightO (w : World) (g : Nat) (f : Nat → Int) : Prop := ∀ j, j < 8 → w.cell? ⟨g, j, none⟩ = some (.int .u32 (f j)) ∧ w.frozen? ⟨g, j, none⟩ = false
theorem EightO.q {w w' : World} {g : Nat} {f : Nat → Int} (h : EightO w g f) (hq : Q w w') (hg : g < w.heap.size) : EightO w' g f := fun j hj =>
  ⟨(hq.cell (p := ⟨g, j, none⟩) hg).trans (h j hj).1, (World.frozen?_of_block (hq.block g hg)).trans (h j hj).2⟩
theorem EightO.of {w : World} {g : Nat} {t : TypeId} {v : V8} (h : Blk w g t v.arr) : EightO w g fun j => v.list.getD j 0 := fun j hj => ⟨by rw [h.cell, arr_cells v j hj], h.frozen j⟩

/-- What the words are while the first k are summed up. -/
def part8 (u v : V8) (k j : Nat) : Int := if j < k then (u.list.getD j 0 + v.list.getD j 0) % 4294967296 else u.list.getD j 0
theorem part8_end (u v : V8) (j : Nat) (hj : j < 8) : part8 u v 8 j = (plus v u).list.getD j 0 := by
  unfold part8
  rw [if_pos hj, Int.add_comm]
  rcases (show j = 0 ∨ j = 1 ∨ j = 2 ∨ j = 3 ∨ j = 4 ∨ j = 5 ∨ j = 6 ∨ j = 7 by omega) with rfl | rfl | rfl | rfl | rfl | rfl | rfl | rfl <;> rfl

/-- Eight words are kept. -/
def Kept8 (w0 w : World) (g : Nat) (v : V8) : Prop := g < w.heap.size ∧ Q w0 w ∧ w.cell? ⟨g, 0, none⟩ = some (.int .u32 v.a) ∧ w.cell? ⟨g, 1, none⟩ = some (.int .u32 v.b) ∧ w.cell? ⟨g, 2, none⟩ = some (.int .u32 v.c) ∧ w.cell? ⟨g, 3, none⟩ = some (.int .u32 v.d) ∧ w.cell? ⟨g, 4, none⟩ = some (.int .u32 v.e) ∧ w.cell? ⟨g, 5, none⟩ = some (.int .u32 v.f) ∧ w.cell? ⟨g, 6, none⟩ = some (.int .u32 v.g)
theorem Kept8.q {w0 w w' : World} {g : Nat} {v : V8} (h : Kept8 w0 w g v) (hq : Q w w') : Kept8 w0 w' g v :=
  ⟨Nat.lt_of_lt_of_le h.1 hq.size, Q.trans h.2.1 hq, (hq.cell (p := ⟨g, 0, none⟩) h.1).trans h.2.2.1, (hq.cell (p := ⟨g, 1, none⟩) h.1).trans h.2.2.2.1, (hq.cell (p := ⟨g, 2, none⟩) h.1).trans h.2.2.2.2.1, (hq.cell (p := ⟨g, 3, none⟩) h.1).trans h.2.2.2.2.2.1, (hq.cell (p := ⟨g, 4, none⟩) h.1).trans h.2.2.2.2.2.2.1, (hq.cell (p := ⟨g, 5, none⟩) h.1).trans h.2.2.2.2.2.2.2.1, (hq.cell (p := ⟨g, 6, none⟩) h.1).trans h.2.2.2.2.2.2.2.2⟩
theorem Kept8.held {w0 w : World} {g : Nat} {v : V8} (h : Kept8 w0 w g v) : w.cell? ⟨g, 0, none⟩ = some (.int .u32 v.a) ∧ w.cell? ⟨g, 1, none⟩ = some (.int .u32 v.b) ∧ w.cell? ⟨g, 2, none⟩ = some (.int .u32 v.c) ∧ w.cell? ⟨g, 3, none⟩ = some (.int .u32 v.d) ∧ w.cell? ⟨g, 4, none⟩ = some (.int .u32 v.e) ∧ w.cell? ⟨g, 5, none⟩ = some (.int .u32 v.f) ∧ w.cell? ⟨g, 6, none⟩ = some (.int .u32 v.g) ∧ Kept8 w0 w g v :=
  ⟨h.2.2.1, h.2.2.2.1, h.2.2.2.2.1, h.2.2.2.2.2.1, h.2.2.2.2.2.2.1, h.2.2.2.2.2.2.2.1, h.2.2.2.2.2.2.2.2, h⟩
theorem Kept8.step {w0 w : World} {g : Nat} {v : V8} (h : w.cell? ⟨g, 0, none⟩ = some (.int .u32 v.a) ∧ w.cell? ⟨g, 1, none⟩ = some (.int .u32 v.b) ∧ w.cell? ⟨g, 2, none⟩ = some (.int .u32 v.c) ∧ w.cell? ⟨g, 3, none⟩ = some (.int .u32 v.d) ∧ w.cell? ⟨g, 4, none⟩ = some (.int .u32 v.e) ∧ w.cell? ⟨g, 5, none⟩ = some (.int .u32 v.f) ∧ w.cell? ⟨g, 6, none⟩ = some (.int .u32 v.g) ∧ Kept8 w0 w g v) (o : Obj) :
    (w.alloc o).cell? ⟨g, 0, none⟩ = some (.int .u32 v.a) ∧ (w.alloc o).cell? ⟨g, 1, none⟩ = some (.int .u32 v.b) ∧ (w.alloc o).cell? ⟨g, 2, none⟩ = some (.int .u32 v.c) ∧ (w.alloc o).cell? ⟨g, 3, none⟩ = some (.int .u32 v.d) ∧ (w.alloc o).cell? ⟨g, 4, none⟩ = some (.int .u32 v.e) ∧ (w.alloc o).cell? ⟨g, 5, none⟩ = some (.int .u32 v.f) ∧ (w.alloc o).cell? ⟨g, 6, none⟩ = some (.int .u32 v.g) ∧ Kept8 w0 (w.alloc o) g v :=
  (h.2.2.2.2.2.2.2.q (q_alloc (Q.refl w) o)).held

theorem rnd_wrap (v : V8) (k w t1 t2 : Int) (h1 : t1 = tmp1 v k w) (h2 : t2 = tmp2 v) :
    (#[.int .u32 (IntKind.u32.wrap (t1 + t2)), .int .u32 v.a, .int .u32 v.b, .int .u32 v.c, .int .u32 (IntKind.u32.wrap (v.d + t1)), .int .u32 v.e, .int .u32 v.f, .int .u32 v.g] : Array Value) = (rnd v k w).arr := by
  subst h1 h2
  simp only [IntKind.wrap_u32]
  rfl

set_option maxRecDepth 100000 in
set_option maxHeartbeats 4000000 in
theorem next_any (gh ch g o c : Nat) (v : V8) (s : ByteArray) (w : World) (hv : V8Ok v) (hh : Eight w gh v) (hb : Bytes64 w g o s) :
    Calls Tryz.prog 136 #[.slice (some ⟨gh, 0, none⟩) 8 ch, .slice (some ⟨g, o, none⟩) 64 c] w fun e w' => ∃ g' c', e = .returned (.slice (some ⟨g', 0, none⟩) 8 c') ∧ Eight w' g' (mix v s) ∧ Q w w' := by
  obtain ⟨i0, hi, hz0, hz1, hz2⟩ := info_parts word_info
  go_enter Tryz.func136, Tryz.ntmps136
  go_wp2_with fail
  refine (words_any g o c s _ hb).mono ?_
  rintro e w1 ⟨AW, cW, rfl, hownW, hq1⟩
  go_wp2_with fail
  refine (adds_any w1).mono ?_
  rintro e w2 ⟨rfl, ⟨tK, hbK⟩, hq2⟩
  have hownW := hownW.q hq2
  have hh2 := (hh.q hq1).q hq2
  have hq2' := Q.trans hq1 hq2
  have hnil : Owns (w2.alloc (.cells #[] 88)) w2.heap.size 88 1 (.slice (some ⟨w2.heap.size, 0, none⟩) 0 0) 0 [] := owns_new w2 88 #[] 0 rfl (Nat.zero_le _)
  have hh3 := hh2.q (q_alloc (Q.refl w2) (.cells #[] 88))
  have hl8 : (cellsW v.list).length = 8 * 1 := rfl
  have h1c : ∀ u ∈ cellsW v.list, u.oneCell' = true := by
    intro u hu
    unfold cellsW at hu
    obtain ⟨x, -, rfl⟩ := List.mem_map.1 hu
    rfl
  go_wp2_with (at_builtin; refine wpList_append_owns _ rfl (.tmp 17) (.tmp 18) 185 rfl w2.heap.size 88 i0 _ 1 4 Tryz.underlying185 hi hz0 hz1 hz2 rfl (by decide) _ 0 _ rfl hnil ⟨gh, 0, none⟩ 8 ch (cellsW v.list) rfl hl8 (eight_news hh3) h1c (by simp only [maxLen]; omega) (by omega) (by simp) ?_)
  intro v3 w3 hown3 hg3
  have hq3 : Q w2 w3 := Below.trans (q_alloc (Q.refl w2) _) (below_grown hg3 (by simp) (by intro k hk; simp [Value.ownBlock] at hk; omega))
  obtain ⟨A3, c3, rfl, hn3, hm3⟩ := hown3.shape
  have hV0 : ∃ g3, A3 = some ⟨g3, 0, none⟩ ∧ w2.heap.size ≤ g3 ∧ g3 < w3.heap.size ∧ EightO w3 g3 (fun j => v.list.getD j 0) := by
    obtain ⟨g3, rfl, hle, hlt, -, -⟩ := hown3.cellAt 0 (.int .u32 v.a) rfl
    refine ⟨g3, rfl, hle, hlt, fun j hj => ?_⟩
    obtain ⟨g4, h4, -, -, hc4, hf4⟩ := hown3.cellAt j _ (cellsW_get v.list j hj)
    obtain rfl : g3 = g4 := by injection h4 with h; injection h
    exact ⟨hc4, hf4⟩
  obtain ⟨g3, rfl, hle3, hlt3, hE3⟩ := hV0
  have hKlt : w1.heap.size < w2.heap.size := hbK.lt
  have hownW := hownW.q hq3
  have hbK := hbK.q hq3
  have hh4 := hh2.q hq3
  have hq4 := Q.trans hq2' hq3
  have hw12 : w.heap.size ≤ w1.heap.size := hq1.size
  clear hnil hh3 hl8 h1c hown3 hg3 hh2 hq2' hq1
  go_wp2_with fail
  go_loopw [7, 8] (fun x i wr => ∃ (g3 c3 k : Nat), x = .slice (some ⟨g3, 0, none⟩) 8 c3 ∧ i = .int .i64 k ∧ k ≤ 64 ∧ w.heap.size ≤ g3 ∧ g3 < wr.heap.size ∧ EightO wr g3 (fun j => (rnds s v k).list.getD j 0) ∧ Q w3 wr) (fun _ i _ => 64 - (intOf i).toNat)
  case atStart => exact ⟨g3, c3, 0, rfl, rfl, by omega, by omega, hlt3, hE3, Q.refl _⟩
  case round =>
    obtain ⟨g4, c4, k, rfl, rfl, hk, hle4, hlt4, hE, hq⟩ := hrel
    have ok := rnds_ok s hv k
    by_cases hlt : k < 64
    · have he : rnds s v (k + 1) = rnd (rnds s v k) (K k) (W s k) := rfl
      have HE := Lib.hid he
      clear he
      have hkc := (hbK.q hq).cell k
      have hkk : (cellsW KL).toArray[k]? = some (.int .u32 (K k)) := by
        rw [List.getElem?_toArray]
        exact cellsW_get KL k hlt
      rw [hkk] at hkc
      clear hkk
      have hl := schedL_length s 64
      obtain ⟨gW, rfl, -, -, hwc, -⟩ := (hownW.q hq).cellAt k _ (by rw [cellsW_get _ _ (by omega), schedL_getD s 64 k hlt])
      generalize rnds s v k = V at *
      have c0 : wr.cell? ⟨g4, 0, none⟩ = some (.int .u32 V.a) := (hE 0 (by decide)).1
      have c1 : wr.cell? ⟨g4, 1, none⟩ = some (.int .u32 V.b) := (hE 1 (by decide)).1
      have c2 : wr.cell? ⟨g4, 2, none⟩ = some (.int .u32 V.c) := (hE 2 (by decide)).1
      have c3 : wr.cell? ⟨g4, 3, none⟩ = some (.int .u32 V.d) := (hE 3 (by decide)).1
      have c4 : wr.cell? ⟨g4, 4, none⟩ = some (.int .u32 V.e) := (hE 4 (by decide)).1
      have c5 : wr.cell? ⟨g4, 5, none⟩ = some (.int .u32 V.f) := (hE 5 (by decide)).1
      have c6 : wr.cell? ⟨g4, 6, none⟩ = some (.int .u32 V.g) := (hE 6 (by decide)).1
      have c7 : wr.cell? ⟨g4, 7, none⟩ = some (.int .u32 V.h) := (hE 7 (by decide)).1
      have hF : Kept8 w3 wr g4 V := ⟨hlt4, hq, c0, c1, c2, c3, c4, c5, c6⟩
      clear hE hl
      have dE := ok.e
      have dA := ok.a
      have e0 := ok.e.1
      have a0 := ok.a.1
      have hsz : w.heap.size ≤ wr.heap.size := by have := hq4.size; have := hq.size; omega
      have k0 : (0 : Int) ≤ (k : Int) := by omega
      have k1 : (k : Int) < 64 := by omega
      go_wp2_with fail
      go_quiet ((go_at_call 181; exact rquiet0 (rturn_any _ _ _ dE (by decide) (by decide))))
      go_wp2_with fail
      go_quiet (fail)
      go_wp2_with fail
      go_quiet ((go_at_call 181; exact rquiet (rturn_any _ _ _ dA (by decide) (by decide))))
      go_wp2_with fail
      go_quiet (fail)
      go_wp2_with fail
      go_region_held3 (fun w' => w'.cell? ⟨g4, 0, none⟩ = some (.int .u32 V.a) ∧ w'.cell? ⟨g4, 1, none⟩ = some (.int .u32 V.b) ∧ w'.cell? ⟨g4, 2, none⟩ = some (.int .u32 V.c) ∧ w'.cell? ⟨g4, 3, none⟩ = some (.int .u32 V.d) ∧ w'.cell? ⟨g4, 4, none⟩ = some (.int .u32 V.e) ∧ w'.cell? ⟨g4, 5, none⟩ = some (.int .u32 V.f) ∧ w'.cell? ⟨g4, 6, none⟩ = some (.int .u32 V.g) ∧ Kept8 w3 w' g4 V)
        (first | exact ((((hF.q (below_drewN (Q.refl _) _)).q (below_drewN (Q.refl _) _)).q (below_drewN (Q.refl _) _)).q (Q.refl _).drew).held | exact (hF.q (q_alloc (below_drewN (Q.refl wr) _) _)).held | exact (hF.q (q_allocd (below_drewN (Q.refl wr) _) _)).held) (fail)
      go_wp2
      refine ⟨⟨wr.heap.size, 8, k + 1, rfl, by go_num, by omega, hsz, by simp, ?_, q_alloc (below_drewN hq _) _⟩, by simp only [intOf]; omega⟩
      rw [HE.out]
      exact EightO.of (v := rnd V (K k) (W s k)) (Blk.new' (wr.drewN _) 88 _ rfl)
    · have hm : mix v s = plus v (rnds s v k) := by rw [show k = 64 by omega]; rfl
      have HM := Lib.hid hm
      clear hm
      generalize rnds s v k = V at *
      have hE0 : EightO wr g4 (part8 V v 0) := fun j hj => hE j hj
      have hh5 := hh4.q hq
      have hlt5 := hh5.1
      have hq5 := Q.trans hq4 hq
      have hgh := hh.1
      have hwg : w.heap.size ≤ g4 := hle4
      clear hE hbK hownW hh4 hq4 hq hb hh
      go_wp2_with fail
      go_loopw [13] (fun i wr' => ∃ k : Nat, k ≤ 8 ∧ i = .int .i64 k ∧ g4 < wr'.heap.size ∧ EightO wr' g4 (part8 V v k) ∧ Eight wr' gh v ∧ Q w wr') (fun i _ => 8 - (intOf i).toNat)
      case atStart => exact ⟨0, by omega, rfl, hlt4, hE0, hh5, hq5⟩
      case round =>
        obtain ⟨k, hk, rfl, hlt4, hE, hh, hq⟩ := hrel
        by_cases hlt : k < 8
        · obtain ⟨hc, hf⟩ := hE k hlt
          have hp : part8 V v k k = V.list.getD k 0 := by unfold part8; rw [if_neg (by omega)]
          rw [hp] at hc
          have hc2 := hh.2 k hlt
          go_wp2_with fail
          go_region
          go_wp2
          refine ⟨⟨k + 1, by omega, by go_num, by simpa using hlt4, fun j hj => ?_, ⟨by simpa using hh.1, fun j hj => ?_⟩, Below.drew (Below.setCell hq hwg _)⟩, by simp only [intOf]; omega⟩
          · by_cases e : j = k
            · subst e
              refine ⟨(World.cell?_setCell_same' _ _ _ (by rw [hc]; rfl)).trans ?_, (World.frozen?_setCell _ _ _ _).trans hf⟩
              unfold part8
              rw [if_pos (by omega), List.getD_eq_getElem?_getD, List.getD_eq_getElem?_getD]
            · obtain ⟨h1, h2⟩ := hE j hj
              refine ⟨(World.cell?_setCell_other _ _ _ _ ?_).trans (h1.trans ?_), (World.frozen?_setCell _ _ _ _).trans h2⟩
              · simp <;> omega
              · unfold part8
                by_cases e2 : j < k
                · rw [if_pos e2, if_pos (by omega)]
                · rw [if_neg e2, if_neg (by omega)]
          · exact (World.cell?_setCell_far _ _ _ _ (by simp; omega)).trans (hh.2 j hj)
        · obtain rfl : k = 8 := by omega
          have hE8 : Eight wr g4 (mix v s) := ⟨hlt4, fun j hj => by rw [(hE j hj).1, part8_end V v j hj, HM.out]⟩
          go_wp2
          go_ret
          exact ⟨g4, _, rfl, hE8, hq⟩

end Go.Proofs.YtomkeaeegdjhnaaGreatDoor.Sha

namespace Go.Proofs.YtomkeaeegdjhnaaGreatDoor.Sha
open Go.RowKit Grp Mem _root_.Go.Proofs.YtomkeaeegdjhnaaGreatDoor.Code

/-- The padded text with the first j bytes of the length. -/
def finS (s : ByteArray) (j : Nat) : List UInt8 := pre s (zeros s) ++ be s.size j
theorem finS_zero (s : ByteArray) : finS s 0 = pre s (zeros s) := by simp [finS, be]
theorem finS_succ (s : ByteArray) (j : Nat) : cellsOf (finS s (j + 1)) = cellsOf (finS s j) ++ [Value.int .u8 ((s.size * 8 / 2 ^ (56 - 8 * j) % 256 : Nat) : Int)] := by
  rw [finS, be_succ, ← List.append_assoc, cellsOf_append]
  congr 1
  simp [cellsOf, UInt8.toNat_ofNat']
theorem finS_length (s : ByteArray) (j : Nat) : (finS s j).length = s.size + 1 + zeros s + j := by rw [finS, List.length_append, pre_length, be_length]
theorem finS_all (s : ByteArray) : finS s 8 = padded s := by simp [finS, padded, tail, pre]

theorem padded_cell (s : ByteArray) (j k : Nat) (h : 64 * j + 64 ≤ (padded s).length) (hk : k < 64) : (cellsOf (padded s))[64 * j + k]? = some (.int .u8 (byteAt (blk (padded s) j) k)) := by
  rw [blk_byte _ _ _ hk, List.getD_eq_getElem?_getD]
  have hl : 64 * j + k < (padded s).length := by omega
  simp [cellsOf, List.getElem?_eq_getElem hl]
theorem padded_blocks {w : World} {base gp cap : Nat} (s : ByteArray) (h : Owns w base 5 1 (.slice (some ⟨gp, 0, none⟩) (padded s).length cap) (padded s).length (cellsOf (padded s))) (j : Nat) (hj : 64 * j + 64 ≤ (padded s).length) : Bytes64 w gp (64 * j) (blk (padded s) j) := by
  refine ⟨(h.lt gp rfl).2, fun k hk => ?_⟩
  obtain ⟨g', he, -, -, hc, -⟩ := h.cellAt _ _ (padded_cell s j k hj hk)
  obtain rfl : gp = g' := by injection he with h; injection h
  exact hc

set_option maxRecDepth 100000 in
set_option maxHeartbeats 2000000 in
theorem RSha_any (s : ByteArray) (w : World) (hsm : s.size ≤ 140737488355200) :
    Calls Tryz.prog 83 #[.string s] w fun e w' => e = .returned (.string (sha s)) ∧ Q w w' := by
  obtain ⟨i0, hi, hz0, hz1, hz2⟩ := info_parts byte_info
  obtain ⟨w1, cap, hcv, hown0, hq1, hc1, hc2⟩ := bytes_conv (P := Tryz.prog) w w 9 92 5 s Tryz.underlying9 Tryz.underlying92 Tryz.underlying5 (by simp only [maxLen]; omega) (Q.refl w)
  obtain ⟨hp2, hp1, hp3⟩ := zeros_spec s
  have HP2 := Lib.hid hp2
  have HP3 := Lib.hid hp3
  clear hp2 hp3
  have hmax : s.size + 1 ≤ maxLen := by simp only [maxLen]; omega
  go_enter Tryz.func83, Tryz.ntmps83
  go_wp2_with (at_builtin; refine wpList_append_owns _ rfl (.tmp 11) (.tmp 12) 92 rfl w.heap.size 5 i0 _ 1 1 Tryz.underlying92 hi hz0 hz1 hz2 rfl (by decide) _ s.size (Lib.strCells s) rfl (hown0.alloc _) ⟨w1.heap.size, 0, none⟩ 1 1 [.int .u8 128] rfl rfl (cell_one_new _ _ _) (by simp [Value.oneCell']) hmax (by omega) ?_ ?_)
  · have := hq1.size
    simp
    omega
  intro v2 w2 hown2 hg2
  have hq2 := q_append hq1 hown0 hg2
  rw [← pre_zero] at hown2
  obtain ⟨A2, cap2, rfl, hn2, hm2⟩ := hown2.shape
  clear hg2 hcv hown0 hq1 hc1 hc2
  go_wp2_with fail
  go_loopw [3] (fun v wr => ∃ (A : Option Addr) (c k : Nat), v = .slice A (s.size + 1 + k) c ∧ k ≤ zeros s ∧ s.size + 1 + k ≤ c ∧ c ≤ maxLen ∧ Owns wr w.heap.size 5 1 (.slice A (s.size + 1 + k) c) (s.size + 1 + k) (cellsOf (pre s k)) ∧ Q w wr) (fun v _ => 140737488355400 - (match v with | .slice _ l _ => l | _ => 0))
  case atStart => exact ⟨_, _, 0, rfl, by omega, hn2, hm2, hown2, hq2⟩
  case round =>
    obtain ⟨A, c, k, rfl, hk, hc, hcm, hown, hq⟩ := hrel
    by_cases hlt : k < zeros s
    · have hne := HP3.out k hlt
      have hb : (((s.size : Int) + 1 + k) % 64 != 56) = true := by rw [bne_iff_ne]; omega
      clear hne
      go_wp2_with (at_builtin; refine wpList_append_owns _ rfl (.tmp 18) (.tmp 19) 92 rfl w.heap.size 5 i0 _ 1 1 Tryz.underlying92 hi hz0 hz1 hz2 rfl (by decide) _ (s.size + 1 + k) _ rfl (hown.alloc _) ⟨wr.heap.size, 0, none⟩ 1 1 [.int .u8 0] rfl rfl (cell_one_new _ _ _) (by simp [Value.oneCell']) (by simp only [maxLen]; omega) (by omega) ?_ ?_)
      · have := hq.size
        simp
        omega
      intro v2 w2 hown2 hg2
      have hq2 := q_append hq hown hg2
      rw [← pre_succ] at hown2
      obtain ⟨A2, cap2, rfl, hn2, hm2⟩ := hown2.shape
      go_wp2
      exact ⟨⟨_, _, k + 1, rfl, by omega, hn2, hm2, hown2, hq2⟩, by simp; omega⟩
    · have hkp : k = zeros s := by omega
      have HN := HP2.out
      have hb : (((s.size : Int) + 1 + k) % 64 != 56) = false := by rw [bne_eq_false_iff_eq]; omega
      have hownk : Owns wr w.heap.size 5 1 (.slice A (s.size + 1 + k) c) (finS s 0).length (cellsOf (finS s 0)) := by
        rw [finS_zero, pre_length, ← hkp]; exact hown
      have HKP := Lib.hid hkp
      clear HN hkp hown
      go_wp2_with fail
      go_loopw [3, 5] (fun v i wr => ∃ (A : Option Addr) (c j : Nat), v = .slice A (s.size + 1 + k + j) c ∧ i = .int .i64 (56 - 8 * (j : Int)) ∧ j ≤ 8 ∧ s.size + 1 + k + j ≤ c ∧ c ≤ maxLen ∧ Owns wr w.heap.size 5 1 (.slice A (s.size + 1 + k + j) c) (s.size + 1 + k + j) (cellsOf (finS s j)) ∧ Q w wr) (fun _ i _ => (intOf i + 8).toNat)
      case atStart => exact ⟨A, c, 0, rfl, rfl, by omega, hc, hcm, by rw [finS_length, ← HKP.out] at hownk; exact hownk, hq⟩
      case round =>
        obtain ⟨A, c, j, rfl, rfl, hj, hc, hcm, hown, hq⟩ := hrel
        by_cases hlt : j < 8
        · have hb := finS_succ s j
          have e1 : ((s.size * 8 / 2 ^ (56 - 8 * j) % 256 : Nat) : Int) = 8 * (s.size : Int) / 2 ^ (56 - 8 * j) % 256 := by
            rw [Nat.mul_comm, Int.natCast_emod, Int.natCast_ediv, Int.natCast_mul, Int.natCast_pow]; rfl
          rw [e1] at hb
          have HB := Lib.hid hb
          clear hb e1
          go_wp2_with (at_builtin; refine wpList_append_owns _ rfl (.tmp 29) (.tmp 34) 92 rfl w.heap.size 5 i0 _ 1 1 Tryz.underlying92 hi hz0 hz1 hz2 rfl (by decide) _ (s.size + 1 + k + j) _ rfl (hown.alloc _) ⟨wr.heap.size, 0, none⟩ 1 1 [.int .u8 (8 * (s.size : Int) / 2 ^ (56 - 8 * j) % 256)] rfl rfl (cell_one_new _ _ _) (by simp [Value.oneCell']) (by simp only [maxLen]; omega) (by omega) ?_ ?_)
          · have := hq.size
            simp
            omega
          intro v2 w2 hown2 hg2
          have hq2 := q_append hq hown hg2
          rw [← HB.out] at hown2
          obtain ⟨A2, cap2, rfl, hn2, hm2⟩ := hown2.shape
          go_wp2
          exact ⟨⟨_, _, j + 1, rfl, by go_num, by omega, hn2, hm2, hown2, hq2⟩, by simp only [intOf]; omega⟩
        · obtain rfl : j = 8 := by omega
          have hl : s.size + 1 + k + 8 = (padded s).length := by rw [← finS_all, finS_length, HKP.out]
          have hm64 : (padded s).length % 64 = 0 := by
            have := HP2.out
            rw [← HKP.out] at this
            omega
          rw [finS_all, hl] at hown
          rw [hl] at hc
          have hL0 : 64 ≤ (padded s).length := by omega
          obtain ⟨gp, rfl, hbp, -, -, -⟩ := hown.cellAt 0 _ (padded_cell s 0 0 (by omega) (by omega))
          have hshs := shaV_hs s
          have HSH := Lib.hid hshs
          have HPB := Lib.hid (padded_blocks (base := w.heap.size) (gp := gp) (cap := c) (w := wr) s hown)
          have hlm : (padded s).length ≤ 140737488355328 + 72 := by omega
          rw [hl]
          clear hshs HP2 HP3 hownk hown2 hq2 hL0
          go_wp2_with fail
          refine (firsts_any _).mono ?_
          rintro e w2 ⟨rfl, h8, hq2⟩
          have hq3 := Q.trans hq hq2
          have hownP := hown.q hq2
          generalize (padded s).length = L at *
          go_wp2_with fail
          go_loopw [6, 7] (fun x i wr' => ∃ (g' c' j q : Nat), x = .slice (some ⟨g', 0, none⟩) 8 c' ∧ i = .int .i64 q ∧ q = 64 * j ∧ q ≤ L ∧ Eight wr' g' (hs (padded s) j) ∧ Q w2 wr') (fun _ i _ => L - (intOf i).toNat)
          case atStart => exact ⟨_, 8, 0, 0, rfl, rfl, rfl, Nat.zero_le _, h8, Q.refl _⟩
          case round =>
            obtain ⟨g', c', j, q, rfl, rfl, hqj, hqL, h8, hq4⟩ := hrel
            by_cases hlt : q < L
            · have hBy := (HPB.out j (by omega)).q (Q.trans hq2 hq4)
              have hok := hs_ok (padded s) j
              have hnx := fun ch c W hv hh hb => next_any g' ch gp (64 * j) c (hs (padded s) j) (blk (padded s) j) W hv hh hb
              have b1 : (q : Int) + 64 ≤ (L : Int) := by omega
              have b2 : (L : Int) ≤ (c : Int) := by omega
              have b3 : (q : Int) ≤ (q : Int) + 64 := by omega
              go_wp2_with fail
              refine (hnx _ _ _ hok h8 hBy).mono ?_
              rintro e w5 ⟨g5, c5, rfl, h85, hq5⟩
              go_wp2
              exact ⟨⟨_, _, j + 1, q + 64, rfl, by go_num, by omega, by omega, h85, Q.trans hq4 hq5⟩, by simp only [intOf]; omega⟩
            · have hjL : j = L / 64 := by omega
              have hV : shaV s = hs (padded s) j := by rw [HSH.out, hjL]
              have HV := Lib.hid hV
              have hq5 := Q.trans hq3 hq4
              have hok := hs_ok (padded s) j
              clear hV HSH HPB hownP hown hjL hqj
              generalize hs (padded s) j = V at *
              obtain ⟨w5, hw5⟩ : ∃ w5, w5 = wr := ⟨_, rfl⟩
              rw [← hw5] at h8 hq5
              have h5 := h8
              clear h8 hq4
              rw [← hw5]
              clear hw5
              go_wp2_with fail
              go_loopw [8, 9] (fun x i wr => ∃ (A : Option Addr) (c k : Nat), x = .slice A k c ∧ i = .int .i64 k ∧ k ≤ 32 ∧ k ≤ c ∧ c ≤ maxLen ∧ Owns wr w5.heap.size 5 1 (.slice A k c) k (cellsOf (outs V k)) ∧ Q w5 wr) (fun _ i _ => 32 - (intOf i).toNat)
              case atStart => exact ⟨none, 0, 0, rfl, rfl, by omega, by omega, by simp [maxLen], Owns.nil_ _ _ _ _, Q.refl _⟩
              case round =>
                obtain ⟨A, c, k, rfl, rfl, hk, hc, hcm, hown, hq⟩ := hrel
                by_cases hlt : k < 32
                · have hp := Lib.hid (outs_cells V k)
                  have hc8 := (h5.q hq).2 (k / 4) (by omega)
                  have x0 := (list_bd hok (k / 4) (by omega)).1
                  have hoi : outI V k = V.list.getD (k / 4) 0 / ((2 ^ (24 - 8 * (k % 4)) : Nat) : Int) % 256 := rfl
                  generalize V.list.getD (k / 4) 0 = x at *
                  have hoi2 : outI V k = x / 2 ^ (24 - 8 * (k % 4)) % 256 := by rw [hoi, Int.natCast_pow]; rfl
                  have HOI := Lib.hid hoi2
                  clear hoi hoi2
                  go_wp2_with (at_builtin; refine wpList_append_owns _ rfl (.tmp 54) (.tmp 66) 92 rfl w5.heap.size 5 i0 _ 1 1 Tryz.underlying92 hi hz0 hz1 hz2 rfl (by decide) _ k _ rfl (hown.alloc _) ⟨wr.heap.size, 0, none⟩ 1 1 [.int .u8 (x / 2 ^ (24 - 8 * (k % 4)) % 256)] rfl rfl (cell_one_new _ _ _) (by simp [Value.oneCell']) (by simp only [maxLen]; omega) (by omega) ?_ ?_)
                  · have := hq.size
                    simp
                    omega
                  intro v2 w2' hown2 hg2
                  have hq2 := q_append hq hown hg2
                  rw [← HOI.out, ← hp.out] at hown2
                  obtain ⟨A2, cap2, rfl, hn2, hm2⟩ := hown2.shape
                  go_wp2
                  exact ⟨⟨_, _, k + 1, rfl, by go_num, by omega, hn2, hm2, hown2, hq2⟩, by simp only [intOf]; omega⟩
                · obtain rfl : k = 32 := by omega
                  have hown' : Owns wr w5.heap.size 5 1 (.slice A (outs V 32).length c) (outs V 32).length (cellsOf (outs V 32)) := by rw [outs_length]; exact hown
                  have hcv := run_string_of_owns (P := Tryz.prog) wr w5.heap.size 92 9 5 _ (outs V 32) Tryz.underlying92 Tryz.underlying5 Tryz.underlying9 hown'
                  rw [outs_length] at hcv
                  go_wp2
                  go_ret
                  exact ⟨by unfold sha; rw [HV.out, digest_outs]; rfl, Q.trans hq5 hq⟩

end Go.Proofs.YtomkeaeegdjhnaaGreatDoor.Sha

namespace Go.Proofs.YtomkeaeegdjhnaaGreatDoor.Known
open Go.RowKit Grp Mem _root_.Go.Proofs.YtomkeaeegdjhnaaGreatDoor.Code Sha Sign _root_.Go.Proofs.YtomkeaeegdjhnaaGreatDoor.Item

set_option maxHeartbeats 1000000 in
theorem RList_any (A : Option Addr) (c : Nat) (l : List ByteArray) (w : World) (hS : Strs w A l) (hl : (listL l).length ≤ 140737488355327) (hn : l.length ≤ 140737488355327) :
    Calls Tryz.prog 56 #[.slice A l.length c] w fun e w' => e = .returned (.string (listB l)) ∧ Q w w' := by
  have h0 : numB (l.length : Int) = ⟨(upto l 0).toArray⟩ := by
    rw [upto_zero]; unfold numB; rw [if_neg (by omega)]; rfl
  have H0 := Lib.hid h0
  clear h0
  go_enter Tryz.func56, Tryz.ntmps56
  go_wp2_with (go_at_call 106; refine (RNum_any _ _ (by omega)).mono ?_; rintro e w1 ⟨rfl, hq⟩)
  go_loopw [3, 4] (fun s i wr => ∃ (k : Nat) (S : ByteArray), s = .string S ∧ i = .int .i64 k ∧ k ≤ l.length ∧ Hid (S = ⟨(upto l k).toArray⟩) ∧ Q w wr) (fun _ i _ => l.length - (intOf i).toNat)
  case atStart => exact ⟨0, _, rfl, rfl, Nat.zero_le _, H0, hq⟩
  case round =>
    obtain ⟨k, S, rfl, rfl, hk, hSe, hq⟩ := hrel
    by_cases hlt : k < l.length
    · obtain ⟨b, o, rfl, hb, hcell⟩ := (hS.q hq) (by omega)
      have hce := hcell k hlt
      clear hcell
      have hle := upto_le l (k + 1) hlt
      have hus := uptoB_succ l k hlt
      have hsz : S.size + (textB l[k]).size ≤ 140737488355327 := by
        rw [upto_succ l k hlt, List.length_append] at hle
        rw [hSe.out, ba_size, show (textB l[k]).size = (textL l[k]).length from ba_size _]
        omega
      have hts : l[k].size ≤ (textB l[k]).size := by rw [show (textB l[k]).size = (textL l[k]).length from ba_size _]; unfold textL; rw [List.length_append, ba_length]; omega
      have HUS := Lib.hid hus
      clear hle hus
      generalize l[k] = z at *
      have hadd : S.size + (textB z).size ≤ 9223372036854775807 := by omega
      go_wp2_with (go_at_call 108; refine (RText_any _ _ (by omega)).mono ?_; rintro e w3 ⟨rfl, hq3⟩)
      exact ⟨⟨k + 1, _, rfl, by go_num, by omega, Lib.hid (by rw [← HUS.out, hSe.out]), Q.trans hq hq3⟩, by simp only [intOf]; omega⟩
    · have hkl : k = l.length := by omega
      have HR : Hid (S = listB l) := Lib.hid (by rw [hSe.out, hkl, upto_all]; rfl)
      clear hkl
      go_wp2
      go_ret
      exact ⟨by rw [HR.out]; rfl, hq⟩

set_option maxHeartbeats 400000 in
theorem RInt_any (n : Int) (w : World) : Calls Tryz.prog 107 #[.int .i64 n] w fun e w' => e = .returned (.string (intB n)) ∧ Q w w' := by
  by_cases h1 : n < -2305843009213693952
  · have HR := Lib.hid (show intB n = ⟨#[]⟩ by unfold intB intL; rw [if_pos (.inl h1)])
    go_enter Tryz.func107, Tryz.ntmps107
    go_wp2
    go_ret
    exact ⟨by rw [HR.out]; rfl, Q.refl _⟩
  · by_cases h2 : 2305843009213693952 < n
    · have HR := Lib.hid (show intB n = ⟨#[]⟩ by unfold intB intL; rw [if_pos (.inr h2)])
      go_enter Tryz.func107, Tryz.ntmps107
      go_wp2
      go_ret
      exact ⟨by rw [HR.out]; rfl, Q.refl _⟩
    · have HR := Lib.hid (intB_num (n := n) (by omega))
      by_cases h0 : n < 0
      · have HZ := Lib.hid (show zigN n = -2 * n - 1 by unfold zigN; rw [if_pos h0])
        go_enter Tryz.func107, Tryz.ntmps107
        go_wp2_with (go_at_call 106; refine (RNum_any _ _ (by omega)).mono ?_; rintro e w' ⟨rfl, hq⟩)
        go_ret
        exact ⟨by rw [HR.out, HZ.out]; rfl, hq⟩
      · have HZ := Lib.hid (show zigN n = 2 * n by unfold zigN; rw [if_neg h0])
        go_enter Tryz.func107, Tryz.ntmps107
        go_wp2_with (go_at_call 106; refine (RNum_any _ _ (by omega)).mono ?_; rintro e w' ⟨rfl, hq⟩)
        go_ret
        exact ⟨by rw [HR.out, HZ.out]; rfl, hq⟩

theorem uptoNB_succ (l : List Int) (k : Nat) (h : k < l.length) : (⟨(uptoN l k).toArray⟩ : ByteArray) ++ intB l[k] = ⟨(uptoN l (k + 1)).toArray⟩ := by
  apply ba_ext
  rw [ba_append, uptoN_succ l k h]
  simp [intB]
set_option maxHeartbeats 1000000 in
theorem RNums_any (A : Option Addr) (c : Nat) (l : List Int) (w : World) (hS : Ints w A l) (hn : l.length ≤ 1000000) :
    Calls Tryz.prog 55 #[.slice A l.length c] w fun e w' => e = .returned (.string (numsB l)) ∧ Q w w' := by
  have h0 : numB (l.length : Int) = ⟨(uptoN l 0).toArray⟩ := by
    rw [uptoN_zero]; unfold numB; rw [if_neg (by omega)]; rfl
  have H0 := Lib.hid h0
  clear h0
  go_enter Tryz.func55, Tryz.ntmps55
  go_wp2_with (go_at_call 106; refine (RNum_any _ _ (by omega)).mono ?_; rintro e w1 ⟨rfl, hq⟩)
  go_loopw [3, 4] (fun s i wr => ∃ (k : Nat) (S : ByteArray), s = .string S ∧ i = .int .i64 k ∧ k ≤ l.length ∧ Hid (S = ⟨(uptoN l k).toArray⟩) ∧ Q w wr) (fun _ i _ => l.length - (intOf i).toNat)
  case atStart => exact ⟨0, _, rfl, rfl, Nat.zero_le _, H0, hq⟩
  case round =>
    obtain ⟨k, S, rfl, rfl, hk, hSe, hq⟩ := hrel
    by_cases hlt : k < l.length
    · obtain ⟨b, o, rfl, hb, hcell⟩ := (hS.q hq) (by omega)
      have hce := hcell k hlt
      clear hcell
      have hle := uptoN_bd l k hk
      have hus := uptoNB_succ l k hlt
      have hsz : S.size ≤ 10 + k * 10 := by rw [hSe.out, ba_size]; exact hle
      have hts : (intB l[k]).size ≤ 10 := by rw [show (intB l[k]).size = (intL l[k]).length from ba_size _]; exact intL_bd _
      have HUS := Lib.hid hus
      clear hle hus
      generalize l[k] = z at *
      have hadd : S.size + (intB z).size ≤ 9223372036854775807 := by omega
      go_wp2_with (go_at_call 107; refine (RInt_any _ _).mono ?_; rintro e w3 ⟨rfl, hq3⟩)
      exact ⟨⟨k + 1, _, rfl, by go_num, by omega, Lib.hid (by rw [← HUS.out, hSe.out]), Q.trans hq hq3⟩, by simp only [intOf]; omega⟩
    · have hkl : k = l.length := by omega
      have HR : Hid (S = numsB l) := Lib.hid (by rw [hSe.out, hkl, numsL_upto]; rfl)
      clear hkl
      go_wp2
      go_ret
      exact ⟨by rw [HR.out]; rfl, hq⟩
end Go.Proofs.YtomkeaeegdjhnaaGreatDoor.Known
