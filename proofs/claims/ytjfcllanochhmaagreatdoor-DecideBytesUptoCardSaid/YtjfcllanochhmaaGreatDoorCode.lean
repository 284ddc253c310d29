/-
  The contracts of package code's Num, Text and List.
-/
import Derived.Test.YtjfcllanochhmaaGreatDoorCodeSpec
import Derived.Test.YtjfcllanochhmaaGreatDoorRow
import Derived.Maps.AppendAt
set_option linter.unusedVariables false
set_option linter.unusedSimpArgs false
namespace Go.Proofs.YtjfcllanochhmaaGreatDoor.Code
open Go.RowKit Grp Mem

theorem byte_info : (Tryz.prog.info? 5).map (fun i => (i.zero, i.size, i.bytes)) = some (some (.int .u8 0), 1, 1) := by kernel_rfl

theorem cells_snoc (l : List UInt8) (x : Nat) (h : x < 256) : cellsOf (l ++ [UInt8.ofNat x]) = cellsOf l ++ [Value.int .u8 (x : Int)] := by
  rw [cellsOf_append]
  congr 1
  simp [cellsOf, UInt8.toNat_ofNat', Nat.mod_eq_of_lt h]

set_option maxRecDepth 100000 in
set_option maxHeartbeats 1000000 in
theorem Num_nat (n : Nat) (w : World) (h1 : n ≤ 9223372036854775807) :
    Calls Tryz.prog 62 #[.int .i64 n] w fun e w' => e = .returned (.string ⟨(varint n).toArray⟩) ∧ Q w w' := by
  obtain ⟨i0, hi, hz0, hz1, hz2⟩ := info_parts byte_info
  go_enter Tryz.func62, Tryz.ntmps62
  go_wp2_with fail
  go_loopw [0, 3] (fun x v wr => ∃ (m f : Nat) (A : Option Addr) (c : Nat) (ds : List UInt8), x = .int .i64 m ∧ v = .slice A ds.length c ∧ m ≤ 9223372036854775807 ∧ m < 128 ^ (f + 1) ∧ ds.length + f = 9 ∧ ds ++ vint f m = varint n ∧ Owns wr w.heap.size 5 1 (.slice A ds.length c) ds.length (cellsOf ds) ∧ Q w wr) (fun x _ _ => (intOf x).toNat)
  case atStart => exact ⟨n, 9, none, 0, [], rfl, rfl, h1, by omega, rfl, rfl, Owns.nil_ _ _ _ _, Q.refl _⟩
  case round =>
    obtain ⟨m, f, A, c, ds, rfl, rfl, hm, hf, hl, he, hown, hq⟩ := hrel
    by_cases hlt : 128 ≤ m
    · cases f with
      | zero => omega
      | succ f =>
        have he2 : (ds ++ [UInt8.ofNat (128 + m % 128)]) ++ vint f (m / 128) = varint n := by
          rw [← he, List.append_assoc]; congr 1
          conv => rhs; rw [vint, if_neg (by omega)]
          rfl
        have HE := Lib.hid he2
        have hs := cells_snoc ds (128 + m % 128) (by omega)
        have e1 : ((128 + m % 128 : Nat) : Int) = 128 + (m : Int) % 128 := by omega
        rw [e1] at hs
        have HS := Lib.hid hs
        have hl2 : (ds ++ [UInt8.ofNat (128 + m % 128)]).length = ds.length + 1 := by simp
        have HL := Lib.hid hl2
        have hfd : m / 128 < 128 ^ (f + 1) := by rw [Nat.pow_succ] at hf; omega
        have HF := Lib.hid hfd
        have hl9 : ds.length ≤ 9 := by omega
        have HLF := Lib.hid hl
        clear hs e1 he2 he hl2 hfd hf hl
        go_wp2_with (at_builtin; refine wpList_append_owns _ rfl (.tmp 8) (.tmp 13) 75 rfl w.heap.size 5 i0 _ 1 1 Tryz.underlying75 hi hz0 hz1 hz2 rfl (by decide) _ ds.length _ rfl (hown.alloc _) ⟨wr.heap.size, 0, none⟩ 1 1 [.int .u8 (128 + (m : Int) % 128)] rfl rfl (cell_one_new _ _ _) (by simp [Value.oneCell']) (by simp only [maxLen]; omega) (by omega) ?_ ?_)
        · have := hq.size
          simp
          omega
        intro v2 w2 hown2 hg2
        have hq2 := q_append hq hown hg2
        rw [← HS.out, ← HL.out] at hown2
        obtain ⟨A2, cap2, rfl, hn2, hm2⟩ := hown2.shape
        go_wp2
        refine ⟨⟨m / 128, f, A2, cap2, ds ++ [UInt8.ofNat (128 + m % 128)], by go_num, rfl, by omega, HF.out, ?_, HE.out, hown2, hq2⟩, by simp only [intOf]; omega⟩
        rw [HL.out]
        have := HLF.out
        omega
    · have he2 : cellsOf (varint n) = cellsOf ds ++ [Value.int .u8 (m : Int)] := by
        rw [← he, ← cells_snoc ds m (by omega)]
        congr 2
        cases f with
        | zero => rfl
        | succ f => rw [vint, if_pos (by omega)]
      have HE := Lib.hid he2
      have hl2 : (varint n).length = ds.length + 1 := by
        have := congrArg List.length he2
        simpa [cellsOf] using this
      have HL := Lib.hid hl2
      have hl9 : ds.length ≤ 9 := by omega
      clear he2 he hl2 hf hl
      go_wp2_with (at_builtin; refine wpList_append_owns _ rfl (.tmp 17) (.tmp 20) 75 rfl w.heap.size 5 i0 _ 1 1 Tryz.underlying75 hi hz0 hz1 hz2 rfl (by decide) _ ds.length _ rfl (hown.alloc _) ⟨wr.heap.size, 0, none⟩ 1 1 [.int .u8 (m : Int)] rfl rfl (cell_one_new _ _ _) (by simp [Value.oneCell']) (by simp only [maxLen]; omega) (by omega) ?_ ?_)
      · have := hq.size
        simp
        omega
      intro v2 w2 hown2 hg2
      have hq2 := q_append hq hown hg2
      rw [← HE.out, ← HL.out] at hown2
      have hcv := run_string_of_owns (P := Tryz.prog) w2 w.heap.size 75 9 5 _ (varint n) Tryz.underlying75 Tryz.underlying5 Tryz.underlying9 hown2
      go_wp2
      go_ret
      exact ⟨rfl, hq2⟩

set_option maxHeartbeats 400000 in
theorem Num_any (n : Int) (w : World) (h1 : n ≤ 9223372036854775807) :
    Calls Tryz.prog 62 #[.int .i64 n] w fun e w' => e = .returned (.string (numB n)) ∧ Q w w' := by
  by_cases h0 : n < 0
  · have hn : numB n = ⟨#[]⟩ := by unfold numB; rw [if_pos h0]
    have HN := Lib.hid hn
    clear hn
    go_enter Tryz.func62, Tryz.ntmps62
    go_wp2
    go_ret
    exact ⟨by rw [HN.out]; rfl, Q.refl _⟩
  · obtain ⟨m, rfl⟩ := Int.eq_ofNat_of_zero_le (show 0 ≤ n by omega)
    have hn : numB (m : Int) = ⟨(varint m).toArray⟩ := by unfold numB; rw [if_neg h0]; rfl
    rw [hn]
    exact Num_nat m w (by omega)

set_option maxHeartbeats 400000 in
theorem Text_any (s : ByteArray) (w : World) (hs : s.size ≤ 140737488355327) :
    Calls Tryz.prog 84 #[.string s] w fun e w' => e = .returned (.string (textB s)) ∧ Q w w' := by
  rw [← textB_eq]
  have hsm : (numB (s.size : Int)).size + s.size ≤ 9223372036854775807 := by have := numB_size (s.size : Int); omega
  go_enter Tryz.func84, Tryz.ntmps84
  go_wp2_with (go_at_call 62; refine (Num_any _ _ (by omega)).mono ?_; rintro e w' ⟨rfl, hq⟩)
  go_ret
  exact ⟨rfl, hq⟩

/-- A slice of strings, in memory. -/
def Strs (w : World) (A : Option Addr) (l : List ByteArray) : Prop := 0 < l.length → ∃ b o, A = some ⟨b, o, none⟩ ∧ b < w.heap.size ∧ ∀ j (h : j < l.length), w.cell? ⟨b, o + j, none⟩ = some (.string l[j])
theorem Strs.q {w w' : World} {A : Option Addr} {l : List ByteArray} (h : Strs w A l) (hq : Q w w') : Strs w' A l := fun h0 => by
  obtain ⟨b, o, e, hb, hc⟩ := h h0
  exact ⟨b, o, e, Nat.lt_of_lt_of_le hb hq.size, fun j hj => (hq.cell (p := ⟨b, o + j, none⟩) hb).trans (hc j hj)⟩

/-- The text of the first k elements. -/
def upto (l : List ByteArray) (k : Nat) : List UInt8 := varint l.length ++ (l.take k).flatMap textL
theorem upto_zero (l : List ByteArray) : upto l 0 = varint l.length := by simp [upto]
theorem upto_succ (l : List ByteArray) (k : Nat) (h : k < l.length) : upto l (k + 1) = upto l k ++ textL l[k] := by
  unfold upto
  rw [List.take_succ_eq_append_getElem h, List.flatMap_append, List.append_assoc]
  simp
theorem upto_all (l : List ByteArray) : upto l l.length = listL l := by simp [upto, listL]
theorem upto_le (l : List ByteArray) : ∀ k, k ≤ l.length → (upto l k).length ≤ (listL l).length := by
  intro k hk
  have h1 : listL l = upto l k ++ (l.drop k).flatMap textL := by
    unfold upto listL
    rw [List.append_assoc, ← List.flatMap_append, List.take_append_drop]
  rw [h1, List.length_append]
  omega

set_option maxRecDepth 100000 in
set_option maxHeartbeats 1000000 in
theorem List_any (A : Option Addr) (c : Nat) (l : List ByteArray) (w : World) (hS : Strs w A l) (hl : (listL l).length ≤ 140737488355327) (hn : l.length ≤ 140737488355327) :
    Calls Tryz.prog 99 #[.slice A l.length c] w fun e w' => e = .returned (.string (listB l)) ∧ Q w w' := by
  obtain ⟨i0, hi, hz0, hz1, hz2⟩ := info_parts byte_info
  go_enter Tryz.func99, Tryz.ntmps99
  go_wp2_with fail
  go_in
  go_wp2_with fail
  refine (Num_nat l.length _ (by omega)).mono ?_
  rintro e w1 ⟨rfl, hq⟩
  obtain ⟨w2, cap, hcv, hown, hq2, hc1, hc2⟩ := bytes_conv (P := Tryz.prog) w1 w 9 75 5 ⟨(varint l.length).toArray⟩ Tryz.underlying9 Tryz.underlying75 Tryz.underlying5 (by have := varint_length l.length; rw [ba_size]; simp only [maxLen]; omega) hq
  rw [strCells_eq, ba_list, ba_size] at hown
  rw [ba_size] at hcv hc1
  rw [← upto_zero] at hown
  rw [show (varint l.length).length = (upto l 0).length by rw [upto_zero]] at hcv hc1
  go_wp2_with fail
  clear hcv
  go_loopw [5, 14] (fun x i wr => ∃ (A' : Option Addr) (c' k : Nat), x = .slice A' (upto l k).length c' ∧ i = .int .i64 k ∧ k ≤ l.length ∧ (upto l k).length ≤ c' ∧ c' ≤ maxLen ∧ Owns wr w.heap.size 5 1 (.slice A' (upto l k).length c') (upto l k).length (cellsOf (upto l k)) ∧ Q w wr) (fun _ i _ => l.length - (intOf i).toNat)
  case atStart => exact ⟨_, cap, 0, rfl, rfl, Nat.zero_le _, hc1, hc2, hown, hq2⟩
  case round =>
    obtain ⟨A', c', k, rfl, rfl, hk, hc, hcm, hown, hq⟩ := hrel
    by_cases hlt : k < l.length
    · obtain ⟨b, o, rfl, hb, hcell⟩ := (hS.q hq) (by omega)
      have hce := hcell k hlt
      clear hcell
      have hle := upto_le l (k + 1) hlt
      rw [upto_succ l k hlt, List.length_append] at hle
      have hts : l[k].size ≤ (textL l[k]).length := by unfold textL; rw [List.length_append, ba_length]; omega
      go_wp2_with fail
      refine (Text_any l[k] _ (by omega)).mono ?_
      rintro e w3 ⟨rfl, hq3⟩
      have hown3 := hown.q hq3
      have hqq := Q.trans hq hq3
      have ht := Lib.hid (show (textB l[k]).size = (textL l[k]).length from ba_size _)
      have hus := Lib.hid (upto_succ l k hlt)
      go_wp2_with (at_builtin; refine wpList_append_owns_string _ rfl (.tmp 18) (.tmp 21) 75 9 rfl w.heap.size 5 i0 Tryz.underlying75 Tryz.underlying9 hi hz0 hz1 hz2 _ (upto l k).length _ rfl hown3 (textB l[k]) rfl ?_ ?_ hqq.size ?_)
      · rw [ht.out]; simp only [maxLen]; omega
      · rw [ht.out]; omega
      intro v4 w4 hown4 hg4
      have hq4 := q_append0 hqq hown3 hg4
      have e1 : (textB l[k]).data.toList = textL l[k] := ba_list _
      rw [strCells_eq, ht.out, e1, ← cellsOf_append, ← List.length_append, ← hus.out] at hown4
      obtain ⟨A2, cap2, rfl, hn2, hm2⟩ := hown4.shape
      clear e1
      go_wp2
      exact ⟨⟨_, _, k + 1, rfl, by go_num, by omega, hn2, hm2, hown4, hq4⟩, by simp only [intOf]; omega⟩
    · have hkl : k = l.length := by omega
      subst hkl
      rw [upto_all] at hown
      have hcv := run_string_of_owns (P := Tryz.prog) wr w.heap.size 75 9 5 _ (listL l) Tryz.underlying75 Tryz.underlying5 Tryz.underlying9 hown
      rw [← upto_all] at hcv
      go_wp2
      go_ret
      exact ⟨by rw [upto_all]; rfl, hq⟩

end Go.Proofs.YtjfcllanochhmaaGreatDoor.Code
