/-
  The walk of agoralaw07.ShareDetects.
-/
import Derived.Test.YtppbplchdfhnkaaDoorShareSrc
import Derived.Test.YtppbplchdfhnkaaDoorShareLaw2
set_option linter.unusedVariables false
set_option linter.unusedSimpArgs false
namespace Go.Proofs.YtppbplchdfhnkaaDoor.Share
open Go.RowKit Grp Mem _root_.Go.Proofs.YtppbplchdfhnkaaDoor.Code Sha
open Sign (q_new)

theorem owns_set {w : World} {base g n cap i : Nat} {e : TypeId} {size : Nat} {xs : List Value} (h : Owns w base e size (.slice (some ⟨g, 0, none⟩) n cap) n xs) (hi : i < xs.length) (u : Value) :
    Owns (w.setCell ⟨g, i, none⟩ u) base e size (.slice (some ⟨g, 0, none⟩) n cap) n (xs.set i u) := by
  rcases h.2 with ⟨hv, _⟩ | ⟨g', cap', cur, fz, hv, hb, hg, hfz, hnc, hcm, hcs, htake⟩
  · cases hv
  · cases hv
    refine ⟨by rw [List.length_set]; exact h.1, .inr ⟨g, cap, cur.setIfInBounds i u, fz, rfl, hb, ?_, by rw [Array.size_setIfInBounds]; exact hfz, hnc, hcm, by rw [Array.size_setIfInBounds]; exact hcs, ?_⟩⟩
    · simp [World.setCell, Array.getElem?_modify, hg]
    · rw [Array.toList_setIfInBounds, ← htake]
      rw [← htake, List.length_take] at hi
      exact List.take_set.trans (by rfl)
theorem cells2_put (L : List (Int × Int)) (a : Nat) (h : a < L.length) (y : Int) : (cells2 L).set (a * 2 + 1) (.int .i64 y) = cells2 (L.set a ((pt L a).1, y)) := by
  have e : L = L.take a ++ L[a] :: L.drop (a + 1) := by rw [← List.drop_eq_getElem_cons h, List.take_append_drop]
  have hl : (L.take a).length = a := by rw [List.length_take]; omega
  have h1 := cells2_set (L.take a) (L.drop (a + 1)) L[a] y
  rw [hl, ← e] at h1
  rw [h1, pt_get L a h]
  congr 1
  rw [List.set_eq_take_append_cons_drop, if_pos h]

set_option maxHeartbeats 2000000 in
theorem detects_big (s t n : Int) (seed : ByteArray) (a y : Int) (w : World) (hT : Tab w) (h : 1000 < seed.size ∨ 24 < n ∨ n ≤ t ∨ a < 0 ∨ n ≤ a ∨ y < 0 ∨ 2305843009213693951 ≤ y) :
    Calls Tryd.prog 12 #[.int .i64 s, .int .i64 t, .int .i64 n, .string seed, .int .i64 a, .int .i64 y] w fun e w' => e = .returned (.bool true) ∧ Q w w' := by
  have hc : 1000 < (seed.size : Int) ∨ (¬ 1000 < (seed.size : Int) ∧ 24 < n) ∨ (¬ 1000 < (seed.size : Int) ∧ ¬ 24 < n ∧ n ≤ t) ∨ (¬ 1000 < (seed.size : Int) ∧ ¬ 24 < n ∧ ¬ n ≤ t ∧ a < 0) ∨ (¬ 1000 < (seed.size : Int) ∧ ¬ 24 < n ∧ ¬ n ≤ t ∧ ¬ a < 0 ∧ n ≤ a) ∨
    (¬ 1000 < (seed.size : Int) ∧ ¬ 24 < n ∧ ¬ n ≤ t ∧ ¬ a < 0 ∧ ¬ n ≤ a ∧ y < 0) ∨ (¬ 1000 < (seed.size : Int) ∧ ¬ 24 < n ∧ ¬ n ≤ t ∧ ¬ a < 0 ∧ ¬ n ≤ a ∧ ¬ y < 0 ∧ 2305843009213693951 ≤ y) := by omega
  clear h
  rcases hc with g1 | ⟨g1, g2⟩ | ⟨g1, g2, g3⟩ | ⟨g1, g2, g3, g4⟩ | ⟨g1, g2, g3, g4, g5⟩ | ⟨g1, g2, g3, g4, g5, g6⟩ | ⟨g1, g2, g3, g4, g5, g6, g7⟩
  all_goals
    go_enter Tryd.func12, Tryd.ntmps12
    go_wp2_with fail
    refine (small_any _ hT).mono ?_
    rintro e w1 ⟨rfl, hq1⟩
    go_wp2
    go_ret
    exact ⟨rfl, hq1⟩
set_option maxHeartbeats 1000000 in
theorem detects_no (s t n : Int) (seed : ByteArray) (a y : Int) (w : World) (hT : Tab w) (g1 : ¬ 1000 < (seed.size : Int)) (g2 : ¬ 24 < n) (g3 : ¬ n ≤ t) (g4 : ¬ a < 0) (g5 : ¬ n ≤ a) (g6 : ¬ y < 0) (g7 : ¬ 2305843009213693951 ≤ y) (h : splitOk s t n = false) :
    Calls Tryd.prog 12 #[.int .i64 s, .int .i64 t, .int .i64 n, .string seed, .int .i64 a, .int .i64 y] w fun e w' => e = .returned (.bool true) ∧ Q w w' := by
  have HNO := Lib.hid (splitOk_false h)
  clear h
  go_enter Tryd.func12, Tryd.ntmps12
  go_wp2_with fail
  refine (small_any _ hT).mono ?_
  rintro e w1 ⟨rfl, hq1⟩
  go_wp2_with fail
  refine (Split_no s t n seed _ HNO.out).mono ?_
  rintro e w2 ⟨rfl, hq2⟩
  go_wp2
  go_ret
  exact ⟨rfl, Q.trans hq1 hq2⟩

set_option maxRecDepth 100000 in
set_option maxHeartbeats 8000000 in
theorem detects_yes (s t : Int) (n : Nat) (seed : ByteArray) (a : Nat) (y : Int) (w : World) (hT : Tab w) (g1 : ¬ 1000 < (seed.size : Int)) (g2 : ¬ 24 < (n : Int)) (g3 : ¬ (n : Int) ≤ t) (han : a < n) (g6 : ¬ y < 0) (g7 : ¬ 2305843009213693951 ≤ y) (h : splitOk s t n = true) :
    Calls Tryd.prog 12 #[.int .i64 s, .int .i64 t, .int .i64 n, .string seed, .int .i64 a, .int .i64 y] w fun e w' => e = .returned (.bool true) ∧ Q w w' := by
  obtain ⟨h1, h2, h3, h4, h5⟩ := splitOk_true h
  have hLen := splitL_length s seed t.toNat n
  have HSP := Lib.hid fun W hW => Split_yes s t n seed W hW h1 h2 h3 h4 h5 (by omega)
  have hdet := detects s t seed n a y (by omega) h1 (by omega) han (by omega) (by omega)
  have hfit := (Chosen.erase s seed t.toNat n a).fits (by omega) h1
  rw [Int.toNat_natCast] at HSP
  generalize splitL s seed t.toNat n = L at *
  have g4 : ¬ (a : Int) < 0 := by omega
  have g5 : ¬ (n : Int) ≤ (a : Int) := by omega
  obtain ⟨sb, hsb⟩ : ∃ sb, ((pt L a).2 == y) = sb := ⟨_, rfl⟩
  have hdet2 : fitsI (L.set a ((pt L a).1, y)) t = sb := by rw [hdet, ← hsb]; rfl
  have hput := cells2_put L a (by omega) y
  have hll : (L.set a ((pt L a).1, y)).length = n := by rw [List.length_set, hLen]
  have hrl : (L.take a ++ L.drop (a + 1)).length = a + (n - (a + 1)) := by rw [List.length_append, List.length_take, List.length_drop]; omega
  have htl : (L.take a).length = a := by rw [List.length_take]; omega
  have hdl : (L.drop (a + 1)).length = n - (a + 1) := by rw [List.length_drop]; omega
  have hc0 := cells2_1 L a (by omega)
  rw [← pt_get L a (by omega)] at hc0
  have hset : a * 2 + 1 < (cells2 L).length := by rw [cells2_length]; omega
  have hnn : ((n : Int) != (n : Int)) = false := by simp
  generalize hM : L.set a ((pt L a).1, y) = M at *
  clear hM
  generalize (pt L a).2 = Y at *
  have HPUT := Lib.hid hput
  have HDET := Lib.hid hdet2
  have HFIT := Lib.hid hfit
  have HLL := Lib.hid hll
  have HRL := Lib.hid hrl
  have HTL := Lib.hid htl
  have HDL := Lib.hid hdl
  have HLEN := Lib.hid hLen
  have HC0 := Lib.hid hc0
  have HSET := Lib.hid hset
  clear hput hdet hdet2 hfit hll hrl htl hdl hLen hc0 hset h
  go_enter Tryd.func12, Tryd.ntmps12
  go_wp2_with fail
  refine (small_any _ hT).mono ?_
  rintro e w1 ⟨rfl, hq1⟩
  go_wp2_with fail
  refine (HSP.out _ (hT.q hq1)).mono ?_
  rintro e w2 ⟨A1, c1, rfl, hown, hq2⟩
  obtain ⟨A', c', e', hnc, hcm⟩ := hown.shape
  injection e' with eA _ ec
  subst ec eA
  obtain ⟨g, rfl, hbg, hg, hcell, hfro⟩ := hown.cellAt (a * 2 + 1) _ HC0.out
  have hS2 := Shares.owns hown HLEN.out
  have hSt := hS2.take a
  have hSd : Shares w2 (some ⟨g, (a + 1) * 2, none⟩) (L.drop (a + 1)) := fun h0 => by
    obtain ⟨b, o, e, hb, hc⟩ := hS2 (by have := HLEN.out; omega)
    cases e
    refine ⟨g, (a + 1) * 2, rfl, hb, fun j hj => ?_⟩
    rw [List.length_drop] at hj
    have := hc (a + 1 + j) (by omega)
    rw [List.getElem_drop]
    rw [show 0 + (a + 1 + j) * 2 = (a + 1) * 2 + j * 2 by omega] at this
    exact this
  have hq := Q.trans hq1 hq2
  have hq12 := hq2.size
  have hqs := hq1.size
  have a0 : (0 : Int) ≤ (a : Int) := by omega
  have a1 : (a : Int) < (n : Int) := by omega
  have a2 : (a : Int) ≤ (c1 : Int) := by omega
  have a3 : IntKind.i64.wrap ((a : Int) + 1) = (a : Int) + 1 := IntWalk.i64_in _ ⟨by omega, by omega⟩
  have a4 : (0 : Int) ≤ (a : Int) + 1 := by omega
  have a5 : (a : Int) + 1 ≤ (n : Int) := by omega
  have a6 : ((a : Int) + 1).toNat = a + 1 := by omega
  clear hq1 hq2
  by_cases hcap : c1 = a + 1
  · obtain rfl : n = a + 1 := by omega
    subst hcap
    have hSd : Shares w2 (some ⟨g, 0, none⟩) (L.drop (a + 1)) := fun h0 => by have := HDL.out; omega
    have hd0 : (L.drop (a + 1)).length = 0 := by have := HDL.out; omega
    have HD0 := Lib.hid hd0
    clear hd0
    have q1 : (a : Int) ≤ (a : Int) + 1 := by omega
    go_wp2_with fail
    go_region_held3 (fun w' => Q w2 w')
      (first | exact (Q.refl _).drew | (with_reducible assumption) | exact q_alloc (by with_reducible assumption) _ | exact hq6 | exact hq7)
      (first
        | (refine step_append_first (by rfl) (.tmp 71) (.tmp 74) (by rfl) w2.heap.size _ (by rfl) (show Owns (w2.drew.alloc (.cells #[] 61)) w2.heap.size 61 2 (.slice (some ⟨w2.heap.size, 0, none⟩) 0 0) 0 (cells2 []) from owns_empty w2.drew) (some ⟨g, 0, none⟩) a _ (L.take a) (by rfl) (hSt.q (Q.trans (Q.refl w2).drew (q_new _ _ _))) HTL.out (by omega) (by simp) ?_; intro A6 c6 w6 hc6 hm6 hown6 hg6; have hq6 : Q w2 w6 := q_append0 (w0 := w2) (Q.trans (Q.refl w2).drew (q_new _ _ _)) (owns_empty w2.drew) hg6)
        | (refine step_append_shares (by rfl) (.tmp 75) (.tmp 79) (by rfl) w2.heap.size _ a (L.take a) (by rfl) hown6 _ 0 _ (L.drop (a + 1)) (by rfl) (hSd.q hq6) HD0.out (by omega) hq6.size ?_; intro A7 c7 w7 hc7 hm7 hown7 hg7; have hq7 : Q w2 w7 := q_append0 hq6 hown6 hg7))
    simp only [Nat.add_zero] at hown7 hc7
    have hR := Shares.owns hown7 (by have := HRL.out; omega)
    have hown9 := owns_set (hown.q hq7) HSET.out (.int .i64 y)
    rw [HPUT.out] at hown9
    have hqz : Q w (w7.setCell ⟨g, a * 2 + 1, none⟩ (.int .i64 y)) := Below.setCell (Q.trans hq hq7) (p := ⟨g, a * 2 + 1, none⟩) (Nat.le_trans hqs hbg) (.int .i64 y)
    have hM := Shares.owns hown9 HLL.out
    have hc7' := (hq7.cell (p := ⟨g, a * 2 + 1, none⟩) hg).trans hcell
    have hf7' := (hq7.frozen (p := ⟨g, a * 2 + 1, none⟩) hg).trans hfro
    have hgne : ∀ k, (Value.slice A7 a c7).ownBlock = some k → (w7.setCell ⟨g, a * 2 + 1, none⟩ (.int .i64 y)).heap[k]? = w7.heap[k]? := fun k hk => Below.heap_setCell w7 _ _ k (by have := (hown7.lt k hk).1; dsimp only; omega)
    have hR9 := Shares.owns (hown7.keep hgne) (by have := HRL.out; omega)
    clear hgne hown7 hown9 hR hown
    go_wp2_with fail
    generalize hW9 : w7.setCell ⟨g, a * 2 + 1, none⟩ (.int .i64 y) = w9 at *
    clear hW9
    refine (Fits_at _ _ _ M _ sb _ HLL.out HDET.out hM hnc hcm (by omega)).mono ?_
    rintro e w10 ⟨rfl, hq10⟩
    have hR10 := hR9.q hq10
    go_wp2_with fail
    refine (Fits_at _ _ _ (L.take a ++ L.drop (a + 1)) _ true _ (by have := HRL.out; omega) HFIT.out hR10 hc7 hm7 (by omega)).mono ?_
    rintro e w11 ⟨rfl, hq11⟩
    go_wp2
    go_ret
    exact ⟨by first | rfl | simp, Q.trans hqz (Q.trans hq10 hq11)⟩
  · have hcap2 : ¬ (c1 = a + 1) := hcap
    go_wp2_with fail
    go_region_held3 (fun w' => Q w2 w')
      (first | exact (Q.refl _).drew | (with_reducible assumption) | exact q_alloc (by with_reducible assumption) _ | exact hq6 | exact hq7)
      (first
        | (refine step_append_first (by rfl) (.tmp 71) (.tmp 74) (by rfl) w2.heap.size _ (by rfl) (show Owns (w2.drew.alloc (.cells #[] 61)) w2.heap.size 61 2 (.slice (some ⟨w2.heap.size, 0, none⟩) 0 0) 0 (cells2 []) from owns_empty w2.drew) (some ⟨g, 0, none⟩) a _ (L.take a) (by rfl) (hSt.q (Q.trans (Q.refl w2).drew (q_new _ _ _))) HTL.out (by omega) (by simp) ?_; intro A6 c6 w6 hc6 hm6 hown6 hg6; have hq6 : Q w2 w6 := q_append0 (w0 := w2) (Q.trans (Q.refl w2).drew (q_new _ _ _)) (owns_empty w2.drew) hg6)
        | (refine step_append_shares (by rfl) (.tmp 75) (.tmp 79) (by rfl) w2.heap.size _ a (L.take a) (by rfl) hown6 (some ⟨g, (a + 1) * 2, none⟩) (n - (a + 1)) _ (L.drop (a + 1)) (by rfl) (hSd.q hq6) HDL.out (by omega) hq6.size ?_; intro A7 c7 w7 hc7 hm7 hown7 hg7; have hq7 : Q w2 w7 := q_append0 hq6 hown6 hg7))
    have hR := Shares.owns hown7 HRL.out
    have hown9 := owns_set (hown.q hq7) HSET.out (.int .i64 y)
    rw [HPUT.out] at hown9
    have hqz : Q w (w7.setCell ⟨g, a * 2 + 1, none⟩ (.int .i64 y)) := Below.setCell (Q.trans hq hq7) (p := ⟨g, a * 2 + 1, none⟩) (Nat.le_trans hqs hbg) (.int .i64 y)
    have hM := Shares.owns hown9 HLL.out
    have hc7' := (hq7.cell (p := ⟨g, a * 2 + 1, none⟩) hg).trans hcell
    have hf7' := (hq7.frozen (p := ⟨g, a * 2 + 1, none⟩) hg).trans hfro
    have hgne : ∀ k, (Value.slice A7 (a + (n - (a + 1))) c7).ownBlock = some k → (w7.setCell ⟨g, a * 2 + 1, none⟩ (.int .i64 y)).heap[k]? = w7.heap[k]? := fun k hk => Below.heap_setCell w7 _ _ k (by have := (hown7.lt k hk).1; dsimp only; omega)
    have hR9 := Shares.owns (hown7.keep hgne) HRL.out
    clear hgne hown7 hown9 hR hown
    go_wp2_with fail
    generalize hW9 : w7.setCell ⟨g, a * 2 + 1, none⟩ (.int .i64 y) = w9 at *
    clear hW9
    refine (Fits_at _ _ _ M _ sb _ HLL.out HDET.out hM hnc hcm (by omega)).mono ?_
    rintro e w10 ⟨rfl, hq10⟩
    have hR10 := hR9.q hq10
    go_wp2_with fail
    refine (Fits_at _ _ _ (L.take a ++ L.drop (a + 1)) _ true _ HRL.out HFIT.out hR10 hc7 hm7 (by omega)).mono ?_
    rintro e w11 ⟨rfl, hq11⟩
    go_wp2
    go_ret
    exact ⟨by first | rfl | simp, Q.trans hqz (Q.trans hq10 hq11)⟩
theorem detects_any (s t n : Int) (seed : ByteArray) (a y : Int) (w : World) (hT : Tab w) :
    Calls Tryd.prog 12 #[.int .i64 s, .int .i64 t, .int .i64 n, .string seed, .int .i64 a, .int .i64 y] w fun e w' => e = .returned (.bool true) ∧ Q w w' := by
  by_cases h : 1000 < seed.size ∨ 24 < n ∨ n ≤ t ∨ a < 0 ∨ n ≤ a ∨ y < 0 ∨ 2305843009213693951 ≤ y
  · exact detects_big s t n seed a y w hT h
  · cases ho : splitOk s t n with
    | false => exact detects_no s t n seed a y w hT (by omega) (by omega) (by omega) (by omega) (by omega) (by omega) (by omega) ho
    | true =>
      obtain ⟨k1, k2, k3, k4, k5⟩ := splitOk_true ho
      obtain ⟨n', rfl⟩ := Int.eq_ofNat_of_zero_le (show 0 ≤ n by omega)
      obtain ⟨a', rfl⟩ := Int.eq_ofNat_of_zero_le (show 0 ≤ a by omega)
      exact detects_yes s t n' seed a' y w hT (by omega) (by omega) (by omega) (by omega) (by omega) (by omega) ho
end Go.Proofs.YtppbplchdfhnkaaDoor.Share
