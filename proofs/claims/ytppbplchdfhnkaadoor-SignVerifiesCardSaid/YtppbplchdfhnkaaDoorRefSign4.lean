/-
  The contract of package agoraref05's Sign.
-/
import Derived.Test.YtppbplchdfhnkaaDoorRefSign3
import Derived.Test.YtppbplchdfhnkaaDoorSignKeysWalk
set_option linter.unusedVariables false
set_option linter.unusedSimpArgs false
namespace Go.Proofs.YtppbplchdfhnkaaDoor.Sign
open Go.RowKit Grp Mem _root_.Go.Proofs.YtppbplchdfhnkaaDoor.Code Sha

theorem RSecret_at (s : ByteArray) (u : Int) (w : World) (h : redI (hashI s) = u) (hs : s.size ≤ 140737488355200) :
    Calls Tryd.prog 98 #[.string s] w fun e w' => e = .returned (.int .i64 u) ∧ Q w w' := h ▸ RSecret_any s w hs
theorem RExp_at (a e r : Int) (w : World) (h : gexp a e = r) (h0 : -9223372036854775808 ≤ e) (h1 : e ≤ 9223372036854775807) : Calls Tryd.prog 76 #[.int .i64 a, .int .i64 e] w fun e' w' => e' = .returned (.int .i64 r) ∧ Q w w' := h ▸ RExp_any a e w h0 h1
theorem RMulN_at (a b c : Int) (w : World) (h : gmulN a b = c) : Calls Tryd.prog 102 #[.int .i64 a, .int .i64 b] w fun e w' => e = .returned (.int .i64 c) ∧ Q w w' := h ▸ RMulN_any a b w
theorem RAddN_at (a b c : Int) (w : World) (h : gaddN a b = c) : Calls Tryd.prog 101 #[.int .i64 a, .int .i64 b] w fun e w' => e = .returned (.int .i64 c) ∧ w = w' := h ▸ RAddN_any a b w

theorem RSign_no (x y : Int) (m : ByteArray) (w : World) (h : rightI (x, y) = false) :
    Calls Tryd.prog 58 #[.agg #[.int .i64 x, .int .i64 y], .string m] w fun e w' => e = .returned (keyV (0, 0)) ∧ Q w w' := by
  have hk := Lib.hid (key_all (0, 0))
  have hb1 := Blk.new' (w.alloc (.cells #[.int .i64 x, .int .i64 y] 65)) 71 (keyCs (0, 0)) rfl
  have hq0 := Q.trans (q_new w #[.int .i64 x, .int .i64 y] 65) (q_new _ (keyCs (0, 0)) 71)
  have hs : (w.alloc (.cells #[.int .i64 x, .int .i64 y] 65)).heap.size = w.heap.size + 1 := by simp
  rw [hs] at hb1
  go_enter Tryd.func58, Tryd.ntmps58
  go_wp2_with fail
  refine (RRight_at _ _ _ _ h).mono ?_
  rintro e w1 ⟨rfl, hq1⟩
  have hb := hb1.q hq1
  have hq := Q.trans hq0 hq1
  clear hb1 hq0 hq1
  go_wp2_with (refine wpList_store_row rfl 71 _ _ rfl (w.heap.size + 1) (keyCs (0, 0)) rfl rfl 71 (keyCs (0, 0)) hb (by kernel_rfl) (by kernel_rfl) hk.out ?_)
  exact bodyPost_ret (results_cell_row rfl _ _ (w.heap.size + 1) 71 (keyCs (0, 0)) (0, 0) _ rfl (Blk.setRow hb _) Tryd.underlying71 rfl (by kernel_rfl)) rfl ⟨rfl, below_setRow hq (by omega) _⟩

set_option maxHeartbeats 2000000 in
theorem RSign_yes (x y : Int) (m : ByteArray) (w : World) (hT : Tab w) (h : rightI (x, y) = true) (hx : x ≤ 9223372036854775807) (hy : y ≤ 9223372036854775807) (hm : m.size ≤ 140737488355000)
    (u g e ex s : Int) (hu : nonceI x m = u) (hg : gexp 37 u = g) (he : chalI g y m = e) (hex : gmulN e x = ex) (hs' : gaddN u ex = s) :
    Calls Tryd.prog 58 #[.agg #[.int .i64 x, .int .i64 y], .string m] w fun e' w' => e' = .returned (keyV (e, s)) ∧ Q w w' := by
  have hz : (nonceB x m).size ≤ 140737488355200 := by have := nonceB_size x m; omega
  have hcat : nonceB x m = textB ⟨#[110, 111, 110, 99, 101]⟩ ++ numB x ++ textB m := cat3 _ _ _
  have hu' : redI (hashI (nonceB x m)) = u := hu
  rw [hcat] at hz hu'
  have HU := Lib.hid hu'
  have HZ := Lib.hid hz
  have hub : 1 ≤ u ∧ u ≤ 2305843009213693949 := hu ▸ redI_bd _
  have hgb : 0 ≤ g ∧ g < 2305843009213693951 := hg ▸ gexp_bd 37 u
  have HUB := Lib.hid hub
  have HGB := Lib.hid hgb
  have h1 := textB_size (lit [110, 111, 110, 99, 101])
  have h2 := textB_size m
  have h3 : (lit [110, 111, 110, 99, 101]).size = 5 := rfl
  have h4 := numB_size x
  have h5 : (textB (lit [110, 111, 110, 99, 101])).size ≤ 15 := by omega
  have h5 : (textB ⟨#[110, 111, 110, 99, 101]⟩).size ≤ 15 := h5
  have s1 : (textB ⟨#[110, 111, 110, 99, 101]⟩).size + (numB x).size ≤ 9223372036854775807 := by omega
  have s2 : (textB ⟨#[110, 111, 110, 99, 101]⟩).size + (numB x).size + (textB m).size ≤ 9223372036854775807 := by omega
  have hk := Lib.hid (key_all (e, s))
  have hb0 := (Blk.new w 65 #[.int .i64 x, .int .i64 y]).alloc (.cells (keyCs (0, 0)) 71)
  have hb1 := Blk.new' (w.alloc (.cells #[.int .i64 x, .int .i64 y] 65)) 71 (keyCs (0, 0)) rfl
  have hq0 := Q.trans (q_new w #[.int .i64 x, .int .i64 y] 65) (q_new _ (keyCs (0, 0)) 71)
  have hsz : (w.alloc (.cells #[.int .i64 x, .int .i64 y] 65)).heap.size = w.heap.size + 1 := by simp
  rw [hsz] at hb1
  clear hz hcat hu' hub hgb h1 h2 h3 h4 h5 hsz hu
  go_enter Tryd.func58, Tryd.ntmps58
  go_wp2_with fail
  refine (RRight_at _ _ _ _ h).mono ?_
  rintro e' w1 ⟨rfl, hq1⟩
  have hX : Two w w1 w.heap.size (w.heap.size + 1) x y 0 0 := ⟨Q.trans hq0 hq1, hT.q (Q.trans hq0 hq1), hb0.q hq1, hb1.q hq1⟩
  have hXd : Two w w1.drew w.heap.size (w.heap.size + 1) x y 0 0 := hX.q (Q.refl w1).drew
  obtain ⟨c0, c1, -⟩ := hX.held
  clear hb0 hb1 hq0 hq1
  go_wp2_with fail
  go_region_with (first
    | (go_at_call 99; refine (RText_any _ _ (by first | decide | omega)).mono ?_; rintro e' w' ⟨rfl, hq⟩; have hX2 := Two.q (by with_reducible assumption) hq; obtain ⟨hcx, hcy, -⟩ := hX2.held)
    | (go_at_call 75; refine (RNum_any _ _ (by omega)).mono ?_; rintro e' w' ⟨rfl, hq⟩; have hX2 := Two.q (by with_reducible assumption) hq; obtain ⟨hcx, hcy, -⟩ := hX2.held)
    | (go_at_call 98; refine (RSecret_at _ u _ HU.out HZ.out).mono ?_; rintro e' w' ⟨rfl, hq⟩; have hX2 := Two.q (by with_reducible assumption) hq; obtain ⟨hcx, hcy, -⟩ := hX2.held))
  all_goals
  all_goals
    go_wp2_with fail
    go_region_held3 (fun w' => w'.cell? ⟨w.heap.size, 0, none⟩ = some (.int .i64 x) ∧ w'.cell? ⟨w.heap.size, 1, none⟩ = some (.int .i64 y) ∧ w'.cell? ⟨w.heap.size + 1, 0, none⟩ = some (.int .i64 0) ∧ w'.cell? ⟨w.heap.size + 1, 1, none⟩ = some (.int .i64 0) ∧ Two w w' w.heap.size (w.heap.size + 1) x y 0 0)
      (first | exact (hX2.q (Q.refl _).drew).held | exact Two.step (by assumption) hq)
      (first
        | (go_at_call 76; refine (RExp_at _ _ _ _ (by with_reducible exact hg) (by have := HUB.out; omega) (by have := HUB.out; omega)).mono ?_; rintro e' w' ⟨rfl, hq⟩)
        | (go_at_call 62; refine (RChal_at _ _ _ _ _ (by with_reducible exact he) (by have := HGB.out; omega) hy (by omega)).mono ?_; rintro e' w' ⟨rfl, hq⟩))
    have hZ : Two w w' w.heap.size (w.heap.size + 1) x y 0 0 := by rename_i hh; exact hh.2.2.2.2
    obtain ⟨c0, c1, -⟩ := hZ.held
    go_wp2_with fail
    refine (RMulN_at _ _ _ _ hex).mono ?_
    rintro e' w9 ⟨rfl, hq9⟩
    have hZ := hZ.q hq9
    go_wp2_with fail
    refine (RAddN_at _ _ _ _ hs').mono ?_
    rintro e' w10 ⟨rfl, rfl⟩
    go_wp2_with (refine wpList_store_row rfl 71 _ _ rfl (w.heap.size + 1) (keyCs (e, s)) rfl rfl 71 (keyCs (0, 0)) hZ.2.2.2 (by kernel_rfl) (by kernel_rfl) hk.out ?_)
    exact bodyPost_ret (results_cell_row rfl _ _ (w.heap.size + 1) 71 (keyCs (e, s)) (0, 0) _ rfl (Blk.setRow hZ.2.2.2 _) Tryd.underlying71 rfl (by kernel_rfl)) rfl ⟨rfl, below_setRow hZ.1 (by omega) _⟩

theorem RSign_any (x y : Int) (m : ByteArray) (w : World) (hT : Tab w) (hx : x ≤ 9223372036854775807) (hy : y ≤ 9223372036854775807) (hm : m.size ≤ 140737488355000) :
    Calls Tryd.prog 58 #[.agg #[.int .i64 x, .int .i64 y], .string m] w fun e w' => e = .returned (keyV (sigOf (x, y) m)) ∧ Q w w' := by
  unfold sigOf
  cases h : rightI (x, y) with
  | false => exact RSign_no x y m w h
  | true => exact RSign_yes x y m w hT h hx hy hm _ _ _ _ _ rfl rfl rfl rfl rfl
theorem RSign_at (x y a b : Int) (m : ByteArray) (w : World) (h : sigOf (x, y) m = (a, b)) (hT : Tab w) (hx : x ≤ 9223372036854775807) (hy : y ≤ 9223372036854775807) (hm : m.size ≤ 140737488355000) :
    Calls Tryd.prog 58 #[.agg #[.int .i64 x, .int .i64 y], .string m] w fun e w' => e = .returned (.agg #[.int .i64 a, .int .i64 b]) ∧ Q w w' :=
  (RSign_any x y m w hT hx hy hm).mono fun e w' ⟨h1, h2⟩ => ⟨by rw [h1, h]; rfl, h2⟩
end Go.Proofs.YtppbplchdfhnkaaDoor.Sign
