/-
  The contracts of package agoraref06's Seal and of both Open.
-/
import Derived.Test.YtppbplchdfhnkaaDoorSealFns
set_option linter.unusedVariables false
set_option linter.unusedSimpArgs false
namespace Go.Proofs.YtppbplchdfhnkaaDoor.Seal
open Go.RowKit Grp Mem _root_.Go.Proofs.YtppbplchdfhnkaaDoor.Code Sha
open Sign (q_new Strs.of)

set_option maxHeartbeats 1000000 in
theorem RSeal_any (key nonce plain : ByteArray) (w : World) (hz : key.size + nonce.size + plain.size ≤ 140737488354000) :
    Calls Tryd.prog 29 #[.string key, .string nonce, .string plain] w fun e w' => e = .returned (boxV (sealB key nonce plain)) ∧ Q w w' := by
  have hk := Lib.hid (box_all (sealB key nonce plain))
  have hb0 := Blk.new w 23 (boxCs (⟨#[]⟩, ⟨#[]⟩, ⟨#[]⟩))
  have hq0 := q_new w (boxCs (⟨#[]⟩, ⟨#[]⟩, ⟨#[]⟩)) 23
  have hms := maskB_size key nonce plain
  have HS := Lib.hid (show key.size + nonce.size + (maskB key nonce plain).size ≤ 140737488355000 by omega)
  clear hms
  go_enter Tryd.func29, Tryd.ntmps29
  go_wp2_with fail
  refine (Rmix_any _ _ _ _ (by omega) (by omega)).mono ?_
  rintro e w1 ⟨rfl, hq1⟩
  have hb := hb0.q hq1
  have hq1 := Q.trans hq0 hq1
  go_wp2_with fail
  refine (Rtag_any _ _ _ _ HS.out).mono ?_
  rintro e w2 ⟨rfl, hq2⟩
  have hb := hb.q hq2
  have hq := Q.trans hq1 hq2
  go_wp2_with (refine wpList_store_row rfl 23 _ _ rfl w.heap.size (boxCs (sealB key nonce plain)) rfl rfl 23 (boxCs (⟨#[]⟩, ⟨#[]⟩, ⟨#[]⟩)) hb (by kernel_rfl) (by kernel_rfl) hk.out ?_)
  exact bodyPost_ret (results_cell_row rfl _ _ w.heap.size 23 (boxCs (sealB key nonce plain)) (0, 0) _ rfl (Blk.setRow hb _) Tryd.underlying23 rfl (by kernel_rfl)) rfl ⟨rfl, below_setRow hq (Nat.le_refl _) _⟩

def BoxH (w0 w : World) (g : Nat) (n d t : ByteArray) : Prop := Q w0 w ∧ Tab w ∧ Blk w g 23 #[.string n, .string d, .string t]
theorem BoxH.q {w0 w w' : World} {g : Nat} {n d t : ByteArray} (h : BoxH w0 w g n d t) (hq : Q w w') : BoxH w0 w' g n d t := ⟨Q.trans h.1 hq, h.2.1.q hq, h.2.2.q hq⟩
theorem BoxH.held {w0 w : World} {g : Nat} {n d t : ByteArray} (h : BoxH w0 w g n d t) :
    w.cell? ⟨g, 0, none⟩ = some (.string n) ∧ w.cell? ⟨g, 1, none⟩ = some (.string d) ∧ w.cell? ⟨g, 2, none⟩ = some (.string t) ∧ BoxH w0 w g n d t := ⟨h.2.2.cell 0, h.2.2.cell 1, h.2.2.cell 2, h⟩
theorem BoxH.step {w0 w w' : World} {g : Nat} {n d t : ByteArray} (h : w.cell? ⟨g, 0, none⟩ = some (.string n) ∧ w.cell? ⟨g, 1, none⟩ = some (.string d) ∧ w.cell? ⟨g, 2, none⟩ = some (.string t) ∧ BoxH w0 w g n d t) (hq : Q w w') :
    w'.cell? ⟨g, 0, none⟩ = some (.string n) ∧ w'.cell? ⟨g, 1, none⟩ = some (.string d) ∧ w'.cell? ⟨g, 2, none⟩ = some (.string t) ∧ BoxH w0 w' g n d t := (h.2.2.2.q hq).held
theorem BoxH.new (w : World) (hT : Tab w) (n d t : ByteArray) : BoxH w (w.alloc (.cells #[.string n, .string d, .string t] 23)) w.heap.size n d t := ⟨q_new w _ _, hT.q (q_new w _ _), Blk.new w _ _⟩
theorem str_ne {m o : ByteArray} (h : m ≠ o) : m.toList ≠ o.toList := by
  rw [ByteArray.toList_eq, ByteArray.toList_eq]
  exact fun e => h (ba_ext e)
theorem tag_at (key n d r : ByteArray) (w : World) (h : tagB key n d = r) (hT : Tab w) (hz : key.size + n.size + d.size ≤ 140737488355000) :
    Calls Tryd.prog 66 #[.string key, .string n, .string d] w fun e w' => e = .returned (.string r) ∧ Q w w' := h ▸ tag_any key n d w hT hz
theorem tag_box {w0 w : World} {g : Nat} {n d t : ByteArray} (key a b r : ByteArray) (h : w.cell? ⟨g, 0, none⟩ = some (.string n) ∧ w.cell? ⟨g, 1, none⟩ = some (.string d) ∧ w.cell? ⟨g, 2, none⟩ = some (.string t) ∧ BoxH w0 w g n d t) (hr : tagB key a b = r) (hz : key.size + a.size + b.size ≤ 140737488355000) :
    Calls Tryd.prog 66 #[.string key, .string a, .string b] w fun e w' => e = .returned (.string r) ∧ Q w w' := tag_at key a b r w hr h.2.2.2.2.1 hz
theorem mask_box {w0 w : World} {g : Nat} {n d t : ByteArray} (key a b r : ByteArray) (h : w.cell? ⟨g, 0, none⟩ = some (.string n) ∧ w.cell? ⟨g, 1, none⟩ = some (.string d) ∧ w.cell? ⟨g, 2, none⟩ = some (.string t) ∧ BoxH w0 w g n d t) (hr : maskB key a b = r) (hz : key.size + a.size + b.size ≤ 140737488355000) :
    Calls Tryd.prog 67 #[.string key, .string a, .string b] w fun e w' => e = .returned (.string r) ∧ Q w w' := hr ▸ mask_any key a b w h.2.2.2.2.1 (by omega) (by omega)
theorem Rmix_at (key a b r : ByteArray) (w : World) (hr : maskB key a b = r) (hz : key.size + a.size + b.size ≤ 140737488354000) :
    Calls Tryd.prog 69 #[.string key, .string a, .string b] w fun e w' => e = .returned (.string r) ∧ Q w w' := hr ▸ Rmix_any key a b w (by omega) (by omega)
theorem Rtag_at (key n d r : ByteArray) (w : World) (h : tagB key n d = r) (hz : key.size + n.size + d.size ≤ 140737488355000) :
    Calls Tryd.prog 68 #[.string key, .string n, .string d] w fun e w' => e = .returned (.string r) ∧ Q w w' := h ▸ Rtag_any key n d w hz

set_option maxHeartbeats 2000000 in
theorem Open_any (key n d t : ByteArray) (w : World) (hT : Tab w) (hz : key.size + n.size + d.size ≤ 140737488355000) :
    Calls Tryd.prog 22 #[.string key, .agg #[.string n, .string d, .string t]] w fun e w' => e = .returned (.tuple #[.string (openB key (n, d, t)).1, .bool (openB key (n, d, t)).2]) ∧ Q w w' := by
  have hX := BoxH.new w hT n d t
  obtain ⟨r, hr⟩ : ∃ r, tagB key n d = r := ⟨_, rfl⟩
  obtain ⟨c0, c1, c2, -⟩ := hX.held
  by_cases htr : t = r
  · rw [open_yes key (n, d, t) (show t = tagB key n d by rw [htr, ← hr])]
    have t1 : t.toList = r.toList := by rw [htr]
    clear htr
    dsimp only
    obtain ⟨p, hp⟩ : ∃ p, maskB key n d = p := ⟨_, rfl⟩
    rw [hp]
    go_enter Tryd.func22, Tryd.ntmps22
    go_wp2_with fail
    go_region_held3 (fun w' => w'.cell? ⟨w.heap.size, 0, none⟩ = some (.string n) ∧ w'.cell? ⟨w.heap.size, 1, none⟩ = some (.string d) ∧ w'.cell? ⟨w.heap.size, 2, none⟩ = some (.string t) ∧ BoxH w w' w.heap.size n d t)
      (first | exact (hX.q (Q.refl _).drew).held | exact BoxH.step (by assumption) hq)
      (first
        | (go_at_call 66; refine (tag_box _ _ _ _ (by assumption) hr hz).mono ?_; rintro e w' ⟨rfl, hq⟩))
    all_goals
      have hY : BoxH w w' w.heap.size n d t := by rename_i hh; exact hh.2.2.2
      generalize w' = W1 at *
      clear c0 c1 c2 hr t1
      obtain ⟨c0, c1, c2, -⟩ := hY.held
      go_wp2_with fail
      refine (mask_box _ _ _ _ hY.held hp hz).mono ?_
      rintro e w' ⟨rfl, hq⟩
      have hZ := Q.trans hY.1 hq
      go_wp2
      go_ret2
      exact ⟨rfl, hZ⟩
  · rw [open_no key (n, d, t) (show t ≠ tagB key n d from fun h => htr (Eq.trans h hr))]
    have t1 : (t.toList == r.toList) = false := by simpa using str_ne htr
    clear htr
    dsimp only
    go_enter Tryd.func22, Tryd.ntmps22
    go_wp2_with fail
    go_region_held3 (fun w' => w'.cell? ⟨w.heap.size, 0, none⟩ = some (.string n) ∧ w'.cell? ⟨w.heap.size, 1, none⟩ = some (.string d) ∧ w'.cell? ⟨w.heap.size, 2, none⟩ = some (.string t) ∧ BoxH w w' w.heap.size n d t)
      (first | exact (hX.q (Q.refl _).drew).held | exact BoxH.step (by assumption) hq)
      (first
        | (go_at_call 66; refine (tag_box _ _ _ _ (by assumption) hr hz).mono ?_; rintro e w' ⟨rfl, hq⟩))
    all_goals
      have hZ : Q w w' := by rename_i hh; exact hh.2.2.2.1
      generalize w' = W1 at *
      clear c0 c1 c2 hr hX
      go_wp2
      go_ret2
      exact ⟨rfl, hZ⟩
set_option maxHeartbeats 2000000 in
theorem ROpen_any (key n d t : ByteArray) (w : World) (hT : Tab w) (hz : key.size + n.size + d.size ≤ 140737488354000) :
    Calls Tryd.prog 23 #[.string key, .agg #[.string n, .string d, .string t]] w fun e w' => e = .returned (.tuple #[.string (openB key (n, d, t)).1, .bool (openB key (n, d, t)).2]) ∧ Q w w' := by
  have hX := BoxH.new w hT n d t
  obtain ⟨r, hr⟩ : ∃ r, tagB key n d = r := ⟨_, rfl⟩
  obtain ⟨c0, c1, c2, -⟩ := hX.held
  by_cases htr : t = r
  · rw [open_yes key (n, d, t) (show t = tagB key n d by rw [htr, ← hr])]
    have t1 : t.toList = r.toList := by rw [htr]
    clear htr
    dsimp only
    obtain ⟨p, hp⟩ : ∃ p, maskB key n d = p := ⟨_, rfl⟩
    rw [hp]
    go_enter Tryd.func23, Tryd.ntmps23
    go_wp2_with fail
    go_region_held3 (fun w' => w'.cell? ⟨w.heap.size, 0, none⟩ = some (.string n) ∧ w'.cell? ⟨w.heap.size, 1, none⟩ = some (.string d) ∧ w'.cell? ⟨w.heap.size, 2, none⟩ = some (.string t) ∧ BoxH w w' w.heap.size n d t)
      (first | exact (hX.q (Q.refl _).drew).held | exact BoxH.step (by assumption) hq)
      (first
        | (go_at_call 68; refine (Rtag_at _ _ _ _ _ hr (by omega)).mono ?_; rintro e w' ⟨rfl, hq⟩))
    all_goals
      have hY : BoxH w w' w.heap.size n d t := by rename_i hh; exact hh.2.2.2
      generalize w' = W1 at *
      clear c0 c1 c2 hr t1
      obtain ⟨c0, c1, c2, -⟩ := hY.held
      go_wp2_with fail
      refine (Rmix_at _ _ _ _ _ hp hz).mono ?_
      rintro e w' ⟨rfl, hq⟩
      have hZ := Q.trans hY.1 hq
      go_wp2
      go_ret2
      exact ⟨rfl, hZ⟩
  · rw [open_no key (n, d, t) (show t ≠ tagB key n d from fun h => htr (Eq.trans h hr))]
    have t1 : (t.toList == r.toList) = false := by simpa using str_ne htr
    clear htr
    dsimp only
    go_enter Tryd.func23, Tryd.ntmps23
    go_wp2_with fail
    go_region_held3 (fun w' => w'.cell? ⟨w.heap.size, 0, none⟩ = some (.string n) ∧ w'.cell? ⟨w.heap.size, 1, none⟩ = some (.string d) ∧ w'.cell? ⟨w.heap.size, 2, none⟩ = some (.string t) ∧ BoxH w w' w.heap.size n d t)
      (first | exact (hX.q (Q.refl _).drew).held | exact BoxH.step (by assumption) hq)
      (first
        | (go_at_call 68; refine (Rtag_at _ _ _ _ _ hr (by omega)).mono ?_; rintro e w' ⟨rfl, hq⟩))
    all_goals
      have hZ : Q w w' := by rename_i hh; exact hh.2.2.2.1
      generalize w' = W1 at *
      clear c0 c1 c2 hr hX
      go_wp2
      go_ret2
      exact ⟨rfl, hZ⟩
end Go.Proofs.YtppbplchdfhnkaaDoor.Seal
