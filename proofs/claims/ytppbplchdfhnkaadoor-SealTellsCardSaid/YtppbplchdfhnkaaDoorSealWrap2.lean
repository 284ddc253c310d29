/-
  The contract of package agoraref06's Wrap.
-/
import Derived.Test.YtppbplchdfhnkaaDoorSealWrap
import Derived.Deep.MidRow
set_option linter.unusedVariables false
set_option linter.unusedSimpArgs false
namespace Go.Proofs.YtppbplchdfhnkaaDoor.Seal
open Go.RowKit Grp Mem _root_.Go.Proofs.YtppbplchdfhnkaaDoor.Code Sha
open Sign (q_new Strs.of)

set_option maxHeartbeats 1000000 in
theorem RWrap_no (pub : Int) (seed plain : ByteArray) (w : World) (h : pub < 1 ∨ 2305843009213693951 ≤ pub) :
    Calls Tryd.prog 25 #[.int .i64 pub, .string seed, .string plain] w fun e w' => e = .returned (.tuple #[wrapV wrap0, .bool false]) ∧ Q w w' := by
  have hb0 := Blk.new w 25 (wrapCs wrap0)
  have hq0 := q_new w (wrapCs wrap0) 25
  have hc : pub < 1 ∨ (¬ pub < 1 ∧ 2305843009213693951 ≤ pub) := by omega
  clear h
  rcases hc with g1 | ⟨g1, g2⟩
  all_goals
    go_enter Tryd.func25, Tryd.ntmps25
    go_wp2_with (refine wpList_store_row rfl 25 _ _ rfl w.heap.size (wrapCs wrap0) rfl rfl 25 (wrapCs wrap0) hb0 (by kernel_rfl) (by kernel_rfl) (wrap_all _) ?_)
    all_goals exact bodyPost_ret (results_cell_row_tmp rfl _ _ w.heap.size 25 (wrapCs wrap0) (0, 0) _ _ rfl rfl (Blk.setRow hb0 _) Tryd.underlying25 rfl (by kernel_rfl)) rfl ⟨rfl, below_setRow hq0 (Nat.le_refl _) _⟩

def WrH (w0 w : World) (g1 : Nat) (c1 : Array Value) (g2 : Nat) (c2 : Array Value) : Prop := Q w0 w ∧ Blk w g1 25 c1 ∧ Blk w g2 25 c2
theorem WrH.q {w0 w w' : World} {g1 g2 : Nat} {c1 c2 : Array Value} (h : WrH w0 w g1 c1 g2 c2) (hq : Q w w') : WrH w0 w' g1 c1 g2 c2 := ⟨Q.trans h.1 hq, h.2.1.q hq, h.2.2.q hq⟩
theorem WrH.step {w0 w w' : World} {g1 g2 : Nat} {c1 c2 : Array Value} {v : Value} {i : Nat} (h : w.cell? ⟨g2, i, none⟩ = some v ∧ WrH w0 w g1 c1 g2 c2) (hq : Q w w') : w'.cell? ⟨g2, i, none⟩ = some v ∧ WrH w0 w' g1 c1 g2 c2 :=
  ⟨by rw [(h.2.q hq).2.2.cell, ← h.2.2.2.cell]; exact h.1, h.2.q hq⟩
theorem Rwk_at (a b c : Int) (r : ByteArray) (w : World) (hr : wkB a b c = r) (ha : a ≤ 9223372036854775807) (hb : b ≤ 9223372036854775807) (hc : c ≤ 9223372036854775807) :
    Calls Tryd.prog 77 #[.int .i64 a, .int .i64 b, .int .i64 c] w fun e w' => e = .returned (.string r) ∧ Q w w' := hr ▸ Rwk_any a b c w ha hb hc
theorem there_of {w : World} {g : Nat} {t : TypeId} {cs : Array Value} (h : Blk w g t cs) (o n : Nat) (hn : o + n ≤ cs.size) : w.there g o n := fun j hj =>
  ⟨by rw [h.cell, Array.getElem?_eq_getElem (by omega)]; rfl, h.frozen _⟩

set_option maxRecDepth 100000 in
set_option maxHeartbeats 4000000 in
theorem RWrap_yes (pub : Int) (seed plain : ByteArray) (w : World) (g1 : ¬ pub < 1) (g2 : ¬ 2305843009213693951 ≤ pub) (hs : seed.size ≤ 140737488353000) (hp : plain.size ≤ 140737488353000) :
    Calls Tryd.prog 25 #[.int .i64 pub, .string seed, .string plain] w fun e w' => e = .returned (.tuple #[wrapV (wrapB pub seed plain), .bool true]) ∧ Q w w' := by
  have hb := Blk.new w 25 (wrapCs wrap0)
  have hq0 := q_new w (wrapCs wrap0) 25
  have hk := Lib.hid (wrap_all (wrapB pub seed plain))
  have HE := Lib.hid (ephB_size seed pub (by omega))
  obtain ⟨E, hE⟩ : ∃ E, ephI seed pub = E := ⟨_, rfl⟩
  have hEb := hE ▸ ephI_bd seed pub
  obtain ⟨G, hG⟩ : ∃ G, gexp 37 E = G := ⟨_, rfl⟩
  have hGb := hG ▸ gexp_bd 37 E
  obtain ⟨Z, hZ⟩ : ∃ Z, gexp pub E = Z := ⟨_, rfl⟩
  have hZb := hZ ▸ gexp_bd pub E
  obtain ⟨K, hK⟩ : ∃ K, wkB pub G Z = K := ⟨_, rfl⟩
  have hKs : K.size = 32 := hK ▸ wkB_size pub G Z
  obtain ⟨N, hN⟩ : ∃ N, sealH [nonceT, K] = N := ⟨_, rfl⟩
  have hNs : N.size = 32 := hN ▸ sealH_size [nonceT, K]
  have HN := Lib.hid (nonceB_size K hKs)
  have hW : wrapB pub seed plain = (pub, G, sealB K N plain) := by unfold wrapB; rw [hE, hG, hZ, hK, hN]
  rw [hW] at hk ⊢
  clear hW
  obtain ⟨⟨b1, b2, b3⟩, hB⟩ : ∃ B, sealB K N plain = B := ⟨_, rfl⟩
  rw [hB] at hk ⊢
  have HH := Lib.hid hE
  go_enter Tryd.func25, Tryd.ntmps25
  go_wp2_with fail
  refine (RNum_any _ _ (by omega)).mono ?_
  rintro e w2 ⟨rfl, hq2⟩
  have hb := hb.q hq2
  have hq2 := Q.trans hq0 hq2
  go_wp2_with fail
  refine (RH_new [ephT, seed, numB pub] 3 _ _ _ rfl rfl (by decide) HE.out).mono ?_
  rintro e w3 ⟨rfl, hq3⟩
  have hb := hb.q hq3
  have hq3 := Q.trans hq2 hq3
  clear hq0 hq2
  have hsz := sealH_size [ephT, seed, numB pub]
  have hnb := numOf_bd (sealH [ephT, seed, numB pub])
  have hEE : 1 + numOf (sealH [ephT, seed, numB pub]) % 2305843009213693949 = E := HH.out
  generalize sealH [ephT, seed, numB pub] = H at *
  generalize hn : numOf H = n at *
  have f2 : n.tmod 2305843009213693949 = E - 1 := by rw [Int.tmod_eq_emod_of_nonneg (by omega)]; omega
  have f3 : IntKind.i64.wrap (E - 1) = E - 1 := IntWalk.i64_in _ ⟨by omega, by omega⟩
  have f4 : 1 + (E - 1) = E := by omega
  have f5 : IntKind.i64.wrap E = E := IntWalk.i64_in _ ⟨by omega, by omega⟩
  clear hEE
  go_wp2_with fail
  refine (RsumNum_any _ _ (by omega)).mono ?_
  rintro e w4 ⟨rfl, rfl⟩
  rw [hn]
  clear hsz hn
  go_wp2_with fail
  refine (RExp_at 37 E G _ hG (by omega) (by omega)).mono ?_
  rintro e w5 ⟨rfl, hq4⟩
  have hb := hb.q hq4
  have hq4 := Q.trans hq3 hq4
  clear hq3 hnb f2 f3 f4 f5
  have hX : WrH w (w5.alloc (.cells (wrapCs (pub, G, ⟨#[]⟩, ⟨#[]⟩, ⟨#[]⟩)) 25)) w.heap.size (wrapCs wrap0) w5.heap.size (wrapCs (pub, G, ⟨#[]⟩, ⟨#[]⟩, ⟨#[]⟩)) := ⟨Q.trans hq4 (q_new _ _ _), hb.q (q_new _ _ _), Blk.new _ _ _⟩
  have hg12 : w.heap.size < w5.heap.size := hb.lt
  go_wp2_with fail
  go_region_held3 (fun w' => w'.cell? ⟨w5.heap.size, 1, none⟩ = some (.int .i64 G) ∧ WrH w w' w.heap.size (wrapCs wrap0) w5.heap.size (wrapCs (pub, G, ⟨#[]⟩, ⟨#[]⟩, ⟨#[]⟩)))
    (first | exact ⟨(hX.q (Q.refl _).drew).2.2.cell 1, hX.q (Q.refl _).drew⟩ | exact WrH.step (by assumption) hq)
    (first
      | (go_at_call 76; refine (RExp_at _ _ _ _ hZ (by omega) (by omega)).mono ?_; rintro e w' ⟨rfl, hq⟩)
      | (go_at_call 77; refine (Rwk_at _ _ _ _ _ hK (by omega) (by omega) (by omega)).mono ?_; rintro e w' ⟨rfl, hq⟩))
  have hY : WrH w w' w.heap.size (wrapCs wrap0) w5.heap.size (wrapCs (pub, G, ⟨#[]⟩, ⟨#[]⟩, ⟨#[]⟩)) := by rename_i hh; exact hh.2
  generalize w' = W at *
  clear hX hb hq4
  go_wp2_with fail
  refine (RH_new [nonceT, K] 2 _ _ _ rfl rfl (by decide) HN.out).mono ?_
  rintro e w8 ⟨rfl, hq7⟩
  rw [hN]
  have hY := hY.q hq7
  go_wp2_with fail
  refine (RSeal_any K N plain _ (by omega)).mono ?_
  rintro e w9 ⟨rfl, hq8⟩
  rw [hB]
  have hY := hY.q hq8
  obtain ⟨hq9, hb, hb2⟩ := hY
  have hb3 : Blk (w9.setCells w5.heap.size 2 [.string b1, .string b2, .string b3]) w5.heap.size 25 (wrapCs (pub, G, b1, b2, b3)) := ((hb2.set_ 2 (.string b1)).set_ 3 (.string b2)).set_ 4 (.string b3)
  have hb4 : Blk (w9.setCells w5.heap.size 2 [.string b1, .string b2, .string b3]) w.heap.size 25 (wrapCs wrap0) := ((hb.far (by simp; omega) _).far (by simp; omega) _).far (by simp; omega) _
  have hq10 : Q w (w9.setCells w5.heap.size 2 [.string b1, .string b2, .string b3]) := ((Below.setCell hq9 (show w.heap.size ≤ w5.heap.size by omega) _).setCell (show w.heap.size ≤ w5.heap.size by omega) _).setCell (show w.heap.size ≤ w5.heap.size by omega) _
  unfold boxV boxCs
  go_wp2_with (first
    | (refine wpList_store_mid rfl 23 _ _ rfl w5.heap.size 2 #[.string b1, .string b2, .string b3] rfl rfl (there_of hb2 2 3 (Nat.le_refl 5)) (by kernel_rfl) (by simp [Value.oneCell']) ?_)
    | (refine wpList_load_row rfl 25 _ rfl w5.heap.size rfl 25 (wrapCs (pub, G, b1, b2, b3)) (0, 0) _ hb3 Tryd.underlying25 rfl (by kernel_rfl) ?_)
    | (refine wpList_store_row rfl 25 _ _ rfl w.heap.size (wrapCs (pub, G, b1, b2, b3)) rfl rfl 25 (wrapCs wrap0) hb4 (by kernel_rfl) (by kernel_rfl) hk.out ?_))
  exact bodyPost_ret (results_cell_row_tmp rfl _ _ w.heap.size 25 (wrapCs (pub, G, b1, b2, b3)) (0, 0) _ _ rfl rfl (Blk.setRow hb4 _) Tryd.underlying25 rfl (by kernel_rfl)) rfl ⟨rfl, below_setRow hq10 (Nat.le_refl _) _⟩
end Go.Proofs.YtppbplchdfhnkaaDoor.Seal
