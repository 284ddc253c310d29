/-
  The contract of agoralaw07.small.
-/
import Derived.Test.YtppbplchdfhnkaaDoorShareRef
import Derived.Test.YtppbplchdfhnkaaDoorShareSplit
set_option linter.unusedVariables false
set_option linter.unusedSimpArgs false
namespace Go.Proofs.YtppbplchdfhnkaaDoor.Share
open Go.RowKit Grp Mem _root_.Go.Proofs.YtppbplchdfhnkaaDoor.Code Sha
open Sign (q_new)

theorem Shares.new (w : World) (t : TypeId) (l : List (Int × Int)) : Shares (w.alloc (.cells (cells2 l).toArray t)) (some ⟨w.heap.size, 0, none⟩) l := Shares.of (m := []) (by rw [List.append_nil]; exact Blk.new w t _)
theorem Shares.owns {w : World} {base n c : Nat} {A : Option Addr} {t : TypeId} {l : List (Int × Int)} (h : Owns w base t 2 (.slice A n c) n (cells2 l)) (hn : l.length = n) : Shares w A l := fun h0 => by
  obtain ⟨g, rfl, -, hg, -, -⟩ := h.cellAt 0 _ (cells2_0 l 0 h0)
  refine ⟨g, 0, rfl, hg, fun j hj => ?_⟩
  obtain ⟨g1, e1, -, -, c1, -⟩ := h.cellAt (j * 2) _ (cells2_0 l j hj)
  obtain rfl : g = g1 := by injection e1 with h; injection h
  obtain ⟨g2, e2, -, -, c2, -⟩ := h.cellAt (j * 2 + 1) _ (cells2_1 l j hj)
  obtain rfl : g = g2 := by injection e2 with h; injection h
  rw [Nat.zero_add]
  exact ⟨c1, c2⟩
theorem Join_new (l : List (Int × Int)) (n : Nat) (cs : Array Value) (t' : TypeId) (t v : Int) (r : Bool) (w : World) (hcs : (cells2 l).toArray = cs) (hn : l.length = n) (hj : joinI l t = (v, r)) (h : n ≤ 100) :
    Calls Tryd.prog 39 #[.slice (some ⟨w.heap.size, 0, none⟩) n n, .int .i64 t] (w.alloc (.cells cs t')) fun e w' => e = .returned (.tuple #[.int .i64 v, .bool r]) ∧ Q w w' := by
  subst hcs hn
  refine (Join_any _ _ l t _ (Shares.new w t' l) (Nat.le_refl _) (by simp only [maxLen]; omega) (by omega)).mono fun e w' ⟨h1, h2⟩ => ⟨?_, Q.trans (q_new w _ t') h2⟩
  rw [h1, hj]
theorem Fits_at (A : Option Addr) (n c : Nat) (l : List (Int × Int)) (t : Int) (r : Bool) (w : World) (hn : l.length = n) (hf : fitsI l t = r) (hS : Shares w A l) (hlc : n ≤ c) (hcm : c ≤ maxLen) (h : n ≤ 1000000) :
    Calls Tryd.prog 41 #[.slice A n c, .int .i64 t] w fun e w' => e = .returned (.bool r) ∧ Q w w' := by
  subst hn hf
  exact Fits_any A c l t w hS hlc hcm h
set_option maxRecDepth 100000
theorem j1 : joinI [(1, 3), (2, 5)] 2 = (1, true) := by decide +kernel
theorem j2 : joinI [(2, 5), (1, 3)] 2 = (1, true) := by decide +kernel
theorem j3 : joinI [(1, 3), (1, 3)] 2 = (0, false) := by decide +kernel
theorem j4 : joinI [(0, 3)] 1 = (0, false) := by decide +kernel
theorem t1 : fitsI [(1, 3), (2, 5), (3, 7)] 2 = true := by decide +kernel
theorem t2 : fitsI [(1, 3), (2, 5), (3, 8)] 2 = false := by decide +kernel
theorem t3 : fitsI [(1, 3), (2, 5), (3, 8)] 3 = true := by decide +kernel
theorem t4 : fitsI [] 1 = true := by decide +kernel
theorem t5 : fitsI [] 0 = false := by decide +kernel
theorem sp : splitL 5 ⟨#[]⟩ 1 3 = [(1, 5), (2, 5), (3, 5)] := by decide +kernel

theorem Same_at (A B : Option Addr) (n k c d : Nat) (l m : List (Int × Int)) (r : Bool) (w : World) (hn : l.length = n) (hk : m.length = k) (hr : decide (l = m) = r) (hl : Shares w A l) (hm : Shares w B m) (h1 : n ≤ 1000000) (h2 : k ≤ 1000000) :
    Calls Tryd.prog 38 #[.slice A n c, .slice B k d] w fun e w' => e = .returned (.bool r) ∧ Q w w' := by
  subst hn hk hr
  exact Same_any A B c d l m w hl hm (by omega) (by omega)
theorem Shares.none (w : World) : Shares w none [] := fun h => by simp at h

set_option maxHeartbeats 4000000 in
theorem small_any (w : World) (hT : Tab w) : Calls Tryd.prog 35 #[] w fun e w' => e = .returned (.bool true) ∧ Q w w' := by
  go_enter Tryd.func35, Tryd.ntmps35
  go_wp2_with fail
  refine (Split_yes 5 1 3 ⟨#[]⟩ _ hT (by decide) (by decide) (by decide) (by decide) (by decide) (by decide)).mono ?_
  rintro e w1 ⟨A, c, rfl, hown, hq1⟩
  have hown : Owns w1 w.heap.size 61 2 (.slice A 3 c) 3 (cells2 (splitL 5 ⟨#[]⟩ 1 3)) := hown
  rw [sp] at hown
  have hSp : Shares w1 A [(1, 5), (2, 5), (3, 5)] := Shares.owns hown rfl
  obtain ⟨A', c', e', hc3, hcm⟩ := hown.shape
  injection e' with eA en ec
  subst ec eA
  clear hown
  go_wp2_with fail
  refine (Join_new [(1, 3), (2, 5)] 2 _ _ 2 1 true _ rfl rfl j1 (by decide)).mono ?_
  rintro e w2 ⟨rfl, hq2⟩
  go_wp2_with fail
  refine (Join_new [(2, 5), (1, 3)] 2 _ _ 2 1 true _ rfl rfl j2 (by decide)).mono ?_
  rintro e w3 ⟨rfl, hq3⟩
  go_wp2_with fail
  refine (Join_new [(1, 3), (1, 3)] 2 _ _ 2 0 false _ rfl rfl j3 (by decide)).mono ?_
  rintro e w4 ⟨rfl, hq4⟩
  go_wp2_with fail
  refine (Join_new [(0, 3)] 1 _ _ 1 0 false _ rfl rfl j4 (by decide)).mono ?_
  rintro e w5 ⟨rfl, hq5⟩
  have hq := Q.trans hq1 (Q.trans hq2 (Q.trans hq3 (Q.trans hq4 hq5)))
  have hSp := hSp.q (Q.trans hq2 (Q.trans hq3 (Q.trans hq4 hq5)))
  clear hq1 hq2 hq3 hq4 hq5
  have hLq := q_new w5 #[.int .i64 1, .int .i64 3, .int .i64 2, .int .i64 5, .int .i64 3, .int .i64 7] 61
  have hL : Shares (w5.alloc (.cells #[.int .i64 1, .int .i64 3, .int .i64 2, .int .i64 5, .int .i64 3, .int .i64 7] 61)) (some ⟨w5.heap.size, 0, none⟩) [(1, 3), (2, 5), (3, 7)] := Shares.new w5 61 [(1, 3), (2, 5), (3, 7)]
  have hBq := q_new (w5.alloc (.cells #[.int .i64 1, .int .i64 3, .int .i64 2, .int .i64 5, .int .i64 3, .int .i64 7] 61)) #[.int .i64 1, .int .i64 3, .int .i64 2, .int .i64 5, .int .i64 3, .int .i64 8] 61
  have hB : Shares ((w5.alloc (.cells #[.int .i64 1, .int .i64 3, .int .i64 2, .int .i64 5, .int .i64 3, .int .i64 7] 61)).alloc (.cells #[.int .i64 1, .int .i64 3, .int .i64 2, .int .i64 5, .int .i64 3, .int .i64 8] 61)) (some ⟨w5.heap.size + 1, 0, none⟩) [(1, 3), (2, 5), (3, 8)] := by
    have := Shares.new (w5.alloc (.cells #[.int .i64 1, .int .i64 3, .int .i64 2, .int .i64 5, .int .i64 3, .int .i64 7] 61)) 61 [(1, 3), (2, 5), (3, 8)]
    rw [World.size_alloc] at this
    exact this
  have hCq := q_new ((w5.alloc (.cells #[.int .i64 1, .int .i64 3, .int .i64 2, .int .i64 5, .int .i64 3, .int .i64 7] 61)).alloc (.cells #[.int .i64 1, .int .i64 3, .int .i64 2, .int .i64 5, .int .i64 3, .int .i64 8] 61)) #[.int .i64 1, .int .i64 5, .int .i64 2, .int .i64 5, .int .i64 3, .int .i64 5] 61
  have hC : Shares (((w5.alloc (.cells #[.int .i64 1, .int .i64 3, .int .i64 2, .int .i64 5, .int .i64 3, .int .i64 7] 61)).alloc (.cells #[.int .i64 1, .int .i64 3, .int .i64 2, .int .i64 5, .int .i64 3, .int .i64 8] 61)).alloc (.cells #[.int .i64 1, .int .i64 5, .int .i64 2, .int .i64 5, .int .i64 3, .int .i64 5] 61)) (some ⟨w5.heap.size + 1 + 1, 0, none⟩) [(1, 5), (2, 5), (3, 5)] := by
    have := Shares.new ((w5.alloc (.cells #[.int .i64 1, .int .i64 3, .int .i64 2, .int .i64 5, .int .i64 3, .int .i64 7] 61)).alloc (.cells #[.int .i64 1, .int .i64 3, .int .i64 2, .int .i64 5, .int .i64 3, .int .i64 8] 61)) 61 [(1, 5), (2, 5), (3, 5)]
    rw [World.size_alloc, World.size_alloc] at this
    exact this
  have hL := (hL.q hBq).q hCq
  have hB := hB.q hCq
  have hqq := Q.trans hLq (Q.trans hBq hCq)
  have hSp := hSp.q hqq
  have hq := Q.trans hq hqq
  clear hLq hBq hCq hqq
  have HL := Lib.hid hL
  have HB := Lib.hid hB
  have HC := Lib.hid hC
  have HS := Lib.hid hSp
  clear hL hB hC hSp
  go_wp2_with fail
  refine (Same_at _ _ 3 3 _ _ [(1, 5), (2, 5), (3, 5)] [(1, 5), (2, 5), (3, 5)] true _ rfl rfl (by decide) HS.out HC.out (by decide) (by decide)).mono ?_
  rintro e w6 ⟨rfl, hq6⟩
  have hL := HL.out.q hq6
  have hB := HB.out.q hq6
  have hq := Q.trans hq hq6
  clear HS HC HL HB hq6
  go_wp2_with fail
  refine (Fits_at _ 3 _ [(1, 3), (2, 5), (3, 7)] 2 true _ rfl t1 hL (by decide) (by simp [maxLen]) (by decide)).mono ?_
  rintro e w7 ⟨rfl, hq7⟩
  have hB := hB.q hq7
  go_wp2_with fail
  refine (Fits_at _ 3 _ [(1, 3), (2, 5), (3, 8)] 2 false _ rfl t2 hB (by decide) (by simp [maxLen]) (by decide)).mono ?_
  rintro e w8 ⟨rfl, hq8⟩
  have hB := hB.q hq8
  go_wp2_with fail
  refine (Fits_at _ 3 _ [(1, 3), (2, 5), (3, 8)] 3 true _ rfl t3 hB (by decide) (by simp [maxLen]) (by decide)).mono ?_
  rintro e w9 ⟨rfl, hq9⟩
  go_wp2_with fail
  refine (Fits_at none 0 0 [] 1 true _ rfl t4 (Shares.none _) (by decide) (by simp [maxLen]) (by decide)).mono ?_
  rintro e w10 ⟨rfl, hq10⟩
  go_wp2_with fail
  refine (Fits_at none 0 0 [] 0 false _ rfl t5 (Shares.none _) (by decide) (by simp [maxLen]) (by decide)).mono ?_
  rintro e w11 ⟨rfl, hq11⟩
  go_wp2
  go_ret
  exact ⟨rfl, Q.trans hq (Q.trans hq7 (Q.trans hq8 (Q.trans hq9 (Q.trans hq10 hq11))))⟩
end Go.Proofs.YtppbplchdfhnkaaDoor.Share
