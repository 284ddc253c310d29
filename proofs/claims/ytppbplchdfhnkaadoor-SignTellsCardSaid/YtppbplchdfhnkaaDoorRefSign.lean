/-
  The contracts of package agoraref05.
-/
import Derived.Test.YtppbplchdfhnkaaDoorSignHoldsWalk
import Derived.Test.YtppbplchdfhnkaaDoorRefSha
import Derived.Test.YtppbplchdfhnkaaDoorRefNum
import Derived.Test.YtppbplchdfhnkaaDoorGrpRef
import Derived.Deep.RegionWith
set_option linter.unusedVariables false
set_option linter.unusedSimpArgs false
namespace Go.Proofs.YtppbplchdfhnkaaDoor.Sign
open Go.RowKit Grp Mem _root_.Go.Proofs.YtppbplchdfhnkaaDoor.Code Sha

theorem cat2 (a b : ByteArray) : cat [a, b] = a ++ b := by apply ba_ext; rw [ba_append]; simp [cat]
theorem cat3 (a b c : ByteArray) : cat [a, b, c] = a ++ b ++ c := by apply ba_ext; rw [ba_append, ba_append]; simp [cat]
theorem cat4 (a b c d : ByteArray) : cat [a, b, c, d] = a ++ b ++ c ++ d := by apply ba_ext; rw [ba_append, ba_append, ba_append]; simp [cat]
theorem cellq {w w' : World} {g i : Nat} {v : Value} (hq : Q w w') (hg : g < w.heap.size) (hc : w.cell? ⟨g, i, none⟩ = some v) : w'.cell? ⟨g, i, none⟩ = some v := (hq.cell (p := ⟨g, i, none⟩) hg).trans hc

theorem Rhash_any (s : ByteArray) (w : World) (hs : s.size ≤ 140737488355200) :
    Calls Tryd.prog 105 #[.string s] w fun e w' => e = .returned (.int .i64 (hashI s)) ∧ Q w w' := by
  go_enter Tryd.func105, Tryd.ntmps105
  go_wp2_with fail
  refine (RSha_any _ _ hs).mono ?_
  rintro e w2 ⟨rfl, hq2⟩
  have hz := sha_size s
  go_wp2_with fail
  refine (RsumNum_any _ _ (by omega)).mono ?_
  rintro e w3 ⟨rfl, rfl⟩
  go_wp2
  go_ret
  exact ⟨rfl, hq2⟩
theorem RSecret_any (s : ByteArray) (w : World) (hs : s.size ≤ 140737488355200) :
    Calls Tryd.prog 98 #[.string s] w fun e w' => e = .returned (.int .i64 (redI (hashI s))) ∧ Q w w' := by
  have hh := hashI_bd s
  go_enter Tryd.func98, Tryd.ntmps98
  go_wp2_with fail
  refine (Rhash_any _ _ hs).mono ?_
  rintro e w2 ⟨rfl, hq2⟩
  go_wp2
  go_ret
  exact ⟨rfl, hq2⟩

theorem ROf_no (x : Int) (w : World) (h : (decide (x < 1) || decide (2305843009213693950 ≤ x)) = true) :
    Calls Tryd.prog 54 #[.int .i64 x] w fun e w' => e = .returned (keyV (0, 0)) ∧ Q w w' := by
  go_enter Tryd.func54, Tryd.ntmps54
  go_wp2
  all_goals exact bodyPost_ret (results_cell_row rfl _ _ w.heap.size 65 (keyCs (0, 0)) (0, 0) _ rfl (Blk.new w _ _) Tryd.underlying65 rfl (by kernel_rfl)) rfl ⟨rfl, q_new _ _ _⟩
set_option maxHeartbeats 400000 in
theorem ROf_yes (x : Int) (w : World) (h0 : 1 ≤ x) (h1 : x ≤ 2305843009213693949) :
    Calls Tryd.prog 54 #[.int .i64 x] w fun e w' => e = .returned (keyV (x, gexp 37 x)) ∧ Q w w' := by
  have hk := Lib.hid (key_all (x, gexp 37 x))
  go_enter Tryd.func54, Tryd.ntmps54
  go_wp2_with fail
  refine (RExp_any 37 x _ (by omega) (by omega)).mono ?_
  rintro e w1 ⟨rfl, hq⟩
  have hb := (Blk.new w 65 (keyCs (0, 0))).q hq
  have hq0 := Q.trans (q_new w (keyCs (0, 0)) 65) hq
  go_wp2_with (refine wpList_store_row rfl 65 _ _ rfl w.heap.size (keyCs (x, gexp 37 x)) rfl rfl 65 (keyCs (0, 0)) hb (by kernel_rfl) (by kernel_rfl) hk.out ?_)
  exact bodyPost_ret (results_cell_row rfl _ _ w.heap.size 65 (keyCs (x, gexp 37 x)) (0, 0) _ rfl (Blk.setRow hb _) Tryd.underlying65 rfl (by kernel_rfl)) rfl ⟨rfl, below_setRow hq0 (Nat.le_refl _) _⟩
theorem ROf_any (x : Int) (w : World) : Calls Tryd.prog 54 #[.int .i64 x] w fun e w' => e = .returned (keyV (keyOf x)) ∧ Q w w' := by
  unfold keyOf
  by_cases h : x < 1 ∨ x > 2305843009213693949
  · rw [if_pos h]
    exact ROf_no x w (by simp; omega)
  · rw [if_neg h]
    exact ROf_yes x w (by omega) (by omega)
theorem ROf_agg (x : Int) (w : World) : Calls Tryd.prog 54 #[.int .i64 x] w fun e w' => e = .returned (.agg #[.int .i64 (keyOf x).1, .int .i64 (keyOf x).2]) ∧ Q w w' := ROf_any x w

set_option maxHeartbeats 400000 in
theorem RKey_any (s : ByteArray) (w : World) (hm : s.size ≤ 140737488355100) :
    Calls Tryd.prog 53 #[.string s] w fun e w' => e = .returned (keyV (keyOf (seedKey s))) ∧ Q w w' := by
  have hz : (keyB s).size ≤ 140737488355200 := by have := keyB_size s; omega
  have HZ := Lib.hid hz
  have hk := Lib.hid (key_all (keyOf (seedKey s)))
  have hb0 := Blk.new w 65 (keyCs (0, 0))
  have hq0 := q_new w (keyCs (0, 0)) 65
  have hsz : (textB (lit [107, 101, 121])).size + (textB s).size ≤ 9223372036854775807 := by
    have h1 := textB_size (lit [107, 101, 121])
    have h2 := textB_size s
    have h3 : (lit [107, 101, 121]).size = 3 := rfl
    omega
  have hsz : (textB ⟨#[107, 101, 121]⟩).size + (textB s).size ≤ 9223372036854775807 := hsz
  have hcat : keyB s = textB ⟨#[107, 101, 121]⟩ ++ textB s := cat2 _ _
  have HC := Lib.hid hcat
  clear hz hcat
  go_enter Tryd.func53, Tryd.ntmps53
  go_wp2_with fail
  refine (RText_any _ _ (by decide)).mono ?_
  rintro e w1 ⟨rfl, hq1⟩
  go_wp2_with fail
  refine (RText_any _ _ (by omega)).mono ?_
  rintro e w2 ⟨rfl, hq2⟩
  have hb := (hb0.q hq1).q hq2
  have hq := Q.trans hq0 (Q.trans hq1 hq2)
  clear hb0 hq0 hq1 hq2
  go_wp2_with fail
  rw [← HC.out]
  refine (RSecret_any _ _ HZ.out).mono ?_
  rintro e w4 ⟨rfl, hq4⟩
  go_wp2_with fail
  refine (ROf_any _ _).mono ?_
  rintro e w5 ⟨rfl, hq5⟩
  have hb := (hb.q hq4).q hq5
  have hq := Q.trans hq (Q.trans hq4 hq5)
  clear hq4 hq5
  go_wp2_with (refine wpList_store_row rfl 65 _ _ rfl w.heap.size (keyCs (keyOf (seedKey s))) rfl rfl 65 (keyCs (0, 0)) hb (by kernel_rfl) (by kernel_rfl) hk.out ?_)
  exact bodyPost_ret (results_cell_row rfl _ _ w.heap.size 65 (keyCs (keyOf (seedKey s))) (0, 0) _ rfl (Blk.setRow hb _) Tryd.underlying65 rfl (by kernel_rfl)) rfl ⟨rfl, below_setRow hq (Nat.le_refl _) _⟩

theorem RRight_any (k : Int × Int) (w : World) : Calls Tryd.prog 56 #[keyV k] w fun e w' => e = .returned (.bool (rightI k)) ∧ Q w w' := by
  obtain ⟨x, y⟩ := k
  unfold rightI
  dsimp only
  by_cases h : 1 ≤ x
  · have h0 : decide (1 ≤ x) = true := by simp [h]
    have h00 : decide (0 < x) = true := by simp; omega
    have hE := keyEq
    have hG := keyGuard
    change Calls _ _ #[.agg #[.int .i64 x, .int .i64 y]] _ _
    rw [h0, Bool.true_and]
    go_enter Tryd.func56, Tryd.ntmps56
    go_wp2_with fail
    have hb := Blk.new w 65 #[.int .i64 x, .int .i64 y]
    have hq0 := q_new w #[.int .i64 x, .int .i64 y] 65
    have hc0 := hb.cell 0
    have hc1 := hb.cell 1
    simp only [List.getElem?_toArray, List.getElem?_cons_zero, List.getElem?_cons_succ] at hc0 hc1
    have hlt := hb.lt
    generalize hW : w.alloc (.cells #[.int .i64 x, .int .i64 y] 65) = W at *
    clear hb
    go_region_held3 (fun w' => w'.cell? ⟨w.heap.size, 0, none⟩ = some (.int .i64 x) ∧ w'.cell? ⟨w.heap.size, 1, none⟩ = some (.int .i64 y) ∧ w.heap.size < w'.heap.size ∧ Q w w') (first | exact ⟨hc0, hc1, hlt, hq0.drew⟩ | exact held2 (by assumption) hq) (first | (go_at_call 54; refine (ROf_agg _ _).mono ?_; rintro e w' ⟨rfl, hq⟩))
    go_wp2
    go_ret
    exact ⟨rfl, by rename_i hh; exact hh.2.2.2⟩
  · have h0 : decide (1 ≤ x) = false := by simp [h]
    have h00 : decide (0 < x) = false := by simp; omega
    change Calls _ _ #[.agg #[.int .i64 x, .int .i64 y]] _ _
    rw [h0, Bool.false_and]
    go_enter Tryd.func56, Tryd.ntmps56
    go_wp2_with fail
    have hb := Blk.new w 65 #[.int .i64 x, .int .i64 y]
    have hq0 := q_new w #[.int .i64 x, .int .i64 y] 65
    have hc0 := hb.cell 0
    have hc1 := hb.cell 1
    simp only [List.getElem?_toArray, List.getElem?_cons_zero, List.getElem?_cons_succ] at hc0 hc1
    have hlt := hb.lt
    generalize hW : w.alloc (.cells #[.int .i64 x, .int .i64 y] 65) = W at *
    clear hb
    go_quiet (fail)
    go_wp2
    go_ret
    exact ⟨rfl, hq0.drewN _⟩

set_option maxRecDepth 100000 in
set_option maxHeartbeats 1000000 in
theorem RChallenge_any (r y : Int) (m : ByteArray) (w : World) (hr : r ≤ 9223372036854775807) (hy : y ≤ 9223372036854775807) (hm : m.size ≤ 140737488355100) :
    Calls Tryd.prog 62 #[.int .i64 r, .int .i64 y, .string m] w fun e w' => e = .returned (.int .i64 (chalI r y m)) ∧ Q w w' := by
  have hz : (chalB r y m).size ≤ 140737488355200 := by have := chalB_size r y m; omega
  have HZ := Lib.hid hz
  have h1 := textB_size (lit [115, 105, 103, 110])
  have h2 := textB_size m
  have h3 : (lit [115, 105, 103, 110]).size = 4 := rfl
  have h4 := numB_size r
  have h5 := numB_size y
  have h1 : (textB ⟨#[115, 105, 103, 110]⟩).size ≤ 14 := h1
  have s1 : (textB ⟨#[115, 105, 103, 110]⟩).size + (numB r).size ≤ 9223372036854775807 := by omega
  have s2 : (textB ⟨#[115, 105, 103, 110]⟩).size + (numB r).size + (numB y).size ≤ 9223372036854775807 := by omega
  have s3 : (textB ⟨#[115, 105, 103, 110]⟩).size + (numB r).size + (numB y).size + (textB m).size ≤ 9223372036854775807 := by omega
  have hcat : chalB r y m = textB ⟨#[115, 105, 103, 110]⟩ ++ numB r ++ numB y ++ textB m := cat4 _ _ _ _
  have HC := Lib.hid hcat
  clear hz hcat h1 h2 h3 h4 h5
  go_enter Tryd.func62, Tryd.ntmps62
  go_wp2_with fail
  refine (RText_any _ _ (by decide)).mono ?_
  rintro e w1 ⟨rfl, hq1⟩
  go_wp2_with fail
  refine (RNum_any _ _ hr).mono ?_
  rintro e w2 ⟨rfl, hq2⟩
  go_wp2_with fail
  refine (RNum_any _ _ hy).mono ?_
  rintro e w3 ⟨rfl, hq3⟩
  go_wp2_with fail
  refine (RText_any _ _ (by omega)).mono ?_
  rintro e w4 ⟨rfl, hq4⟩
  have hq := Q.trans hq1 (Q.trans hq2 (Q.trans hq3 hq4))
  clear hq1 hq2 hq3 hq4
  go_wp2_with fail
  rw [← HC.out]
  refine (Rhash_any _ _ HZ.out).mono ?_
  rintro e w5 ⟨rfl, hq5⟩
  have hb := hashI_bd (chalB r y m)
  go_wp2
  go_ret
  exact ⟨rfl, Q.trans hq hq5⟩
end Go.Proofs.YtppbplchdfhnkaaDoor.Sign
