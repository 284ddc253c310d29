/-
  The walk of agoralaw06.SealWraps.
-/
import Derived.Test.YtppbplchdfhnkaaDoorSealSmall
set_option linter.unusedVariables false
set_option linter.unusedSimpArgs false
namespace Go.Proofs.YtppbplchdfhnkaaDoor.Seal
open Go.RowKit Grp Mem _root_.Go.Proofs.YtppbplchdfhnkaaDoor.Code Sha
open Sign (q_new Strs.of)

theorem List_new (l : List ByteArray) (n : Nat) (cs : Array Value) (t : TypeId) (w : World) (b : ByteArray) (hb : listB l = b) (hn : l.length = n) (hcs : (l.map Value.string).toArray = cs) (h1 : n ≤ 100) (hs : (listL l).length ≤ 140737488355327) :
    Calls Tryd.prog 33 #[.slice (some ⟨w.heap.size, 0, none⟩) n n] (w.alloc (.cells cs t)) fun e w' => e = .returned (.string b) ∧ Q w w' := by
  subst hcs hn hb
  refine (List_any _ _ l _ (Strs.of (Blk.new w t _)) hs (by omega)).mono fun e w' ⟨h1, h2⟩ => ⟨h1, Q.trans (q_new w _ t) h2⟩
theorem List_al (l : List ByteArray) (n : Nat) (cs : Array Value) (t : TypeId) (w : World) (b : ByteArray) (hb : listB l = b) (hn : l.length = n) (hcs : (l.map Value.string).toArray = cs) (h1 : n ≤ 100) (hs : (listL l).length ≤ 140737488355327) :
    Calls Tryd.prog 33 #[.slice (some ⟨w.heap.size, 0, none⟩) n n] (w.alloc (.cells cs t)) fun e w' => e = .returned (.string b) ∧ Q (w.alloc (.cells cs t)) w' := by
  subst hcs hn hb
  exact List_any _ _ l _ (Strs.of (Blk.new w t _)) hs (by omega)
theorem Sha_at (b r : ByteArray) (w : World) (hr : sha b = r) (hT : Tab w) (hz : b.size ≤ 140737488355327) :
    Calls Tryd.prog 32 #[.string b] w fun e w' => e = .returned (.string r) ∧ Q w w' := hr ▸ Sha_any b w hT hz
theorem Sha_box {w0 w : World} {g : Nat} {a b : Int} {n d t : ByteArray} (x r : ByteArray) (h : w.cell? ⟨g, 0, none⟩ = some (.int .i64 a) ∧ w.cell? ⟨g, 1, none⟩ = some (.int .i64 b) ∧ w.cell? ⟨g, 2, none⟩ = some (.string n) ∧ w.cell? ⟨g, 3, none⟩ = some (.string d) ∧ w.cell? ⟨g, 4, none⟩ = some (.string t) ∧ UwH w0 w g a b n d t) (hr : sha x = r) (hz : x.size ≤ 140737488355327) :
    Calls Tryd.prog 32 #[.string x] w fun e w' => e = .returned (.string r) ∧ Q w w' := Sha_at x r w hr h.2.2.2.2.2.2.1 hz
theorem few2 (a b : ByteArray) (w : World) (r : Bool) (ha : a.size ≤ 281474976710656) (hb : b.size ≤ 281474976710656) (hr : decide (a.size + b.size ≤ 2000) = r) (t : TypeId) :
    Calls Tryd.prog 21 #[.slice (some ⟨w.heap.size, 0, none⟩) 2 2] (w.alloc (.cells #[.string a, .string b] t)) fun e w' => e = .returned (.bool r) ∧ Q w w' :=
  few_new [a, b] 2 _ t w r rfl rfl (by decide) (by simp; omega) (by rw [← hr]; simp)

set_option maxHeartbeats 2000000 in
theorem wraps_out (s : Int) (seed plain : ByteArray) (w : World) (hT : Tab w) (ha : seed.size ≤ 281474976710656) (hb : plain.size ≤ 281474976710656) (h : 2000 < seed.size + plain.size ∨ s < 1 ∨ 2305843009213693950 ≤ s) :
    Calls Tryd.prog 6 #[.int .i64 s, .string seed, .string plain] w fun e w' => e = .returned (.bool true) ∧ Q w w' := by
  obtain ⟨r, hr⟩ : ∃ r, decide (seed.size + plain.size ≤ 2000) = r := ⟨_, rfl⟩
  have hc : r = false ∨ (r = true ∧ s < 1) ∨ (r = true ∧ ¬ s < 1 ∧ 2305843009213693950 ≤ s) := by
    rw [← hr]
    by_cases h1 : seed.size + plain.size ≤ 2000
    · simp [h1]; omega
    · simp [h1]
  clear h
  rcases hc with rfl | ⟨rfl, g1⟩ | ⟨rfl, g1, g2⟩
  all_goals
    go_enter Tryd.func6, Tryd.ntmps6
    go_wp2_with fail
    refine (small_any _ hT).mono ?_
    rintro e w1 ⟨rfl, hq1⟩
    go_wp2_with fail
    refine (few2 _ _ _ _ ha hb hr _).mono ?_
    rintro e w2 ⟨rfl, hq2⟩
    go_wp2
    all_goals
      go_ret
      exact ⟨rfl, Q.trans hq1 hq2⟩

set_option maxRecDepth 100000 in
set_option maxHeartbeats 8000000 in
theorem wraps_in (s : Int) (seed plain : ByteArray) (w : World) (hT : Tab w) (hf : decide (seed.size + plain.size ≤ 2000) = true) (g1 : ¬ s < 1) (g2 : ¬ 2305843009213693950 ≤ s)
    (P G Z E : Int) (b1 b2 b3 K : ByteArray) (hP : gexp 37 s = P) (hP1 : P ≤ 9223372036854775807) (hW : wrapI P seed plain = ((P, G, b1, b2, b3), true)) (hU : unwrapI s (P, G, b1, b2, b3) = (plain, true))
    (hG : gexp 37 E = G) (hE : ephI seed P = E) (hE0 : 1 ≤ E) (hE1 : E ≤ 2305843009213693949) (g3 : ¬ G < 1) (g4 : ¬ 2305843009213693951 ≤ G) (hZ : gexp P E = Z) (hZ' : gexp G s = Z) (hZ1 : Z ≤ 9223372036854775807) (hK : wkB P G Z = K) (hKs : K.size = 32)
    (hO : openB K (b1, b2, b3) = (plain, true)) (hb : b1.size + b2.size ≤ 10000) :
    Calls Tryd.prog 6 #[.int .i64 s, .string seed, .string plain] w fun e w' => e = .returned (.bool true) ∧ Q w w' := by
  have hf' : seed.size + plain.size ≤ 2000 := by simpa using hf
  have HE := Lib.hid (ephB_size seed P (by omega))
  have hls : (listB [ephT, seed, numB P]).size ≤ 140737488355327 := by unfold listB; rw [ba_size]; exact Nat.le_trans HE.out (by decide)
  have HLS := Lib.hid hls
  have h4 := list4 wrapT (numB P) (numB G) (numB Z)
  have h5 : wrapT.size = 4 := rfl
  have k1 := numB_size P
  have k2 := numB_size G
  have k3 := numB_size Z
  have HL4 := Lib.hid (show (listL [wrapT, numB P, numB G, numB Z]).length ≤ 140737488355327 by omega)
  have hls4 : (listB [wrapT, numB P, numB G, numB Z]).size ≤ 140737488355327 := by unfold listB; rw [ba_size]; exact HL4.out
  have HL4S := Lib.hid hls4
  have HKK : sha (listB [wrapT, numB P, numB G, numB Z]) = K := hK
  have HKK := Lib.hid HKK
  clear hls hls4 h4 h5 k1 k2 k3
  have HH := Lib.hid hE
  go_enter Tryd.func6, Tryd.ntmps6
  go_wp2_with fail
  refine (small_any _ hT).mono ?_
  rintro e w1 ⟨rfl, hq1⟩
  go_wp2_with fail
  refine (few2 _ _ _ _ (by omega) (by omega) hf _).mono ?_
  rintro e w2 ⟨rfl, hq2⟩
  have hq2 := Q.trans hq1 hq2
  go_wp2_with fail
  refine (Exp_at _ _ _ _ hP (by omega) (by omega)).mono ?_
  rintro e w3 ⟨rfl, hq3⟩
  have hq3 := Q.trans hq2 hq3
  clear hq1 hq2
  go_wp2_with fail
  refine (Wrap_at _ _ _ _ _ _ _ _ _ _ hW (hT.q hq3) hP1 (by omega) (by omega)).mono ?_
  rintro e w4 ⟨rfl, hq4⟩
  have hq4 := Q.trans hq3 hq4
  have hY : UwH w (w4.alloc (.cells #[.int .i64 P, .int .i64 G, .string b1, .string b2, .string b3] 25)) w4.heap.size P G b1 b2 b3 := ⟨Q.trans hq4 (q_new _ _ _), (hT.q hq4).q (q_new _ _ _), Blk.new _ _ _⟩
  obtain ⟨d0, d1, d2, d3, d4, -⟩ := hY.held
  clear hq3 hq4
  go_wp2_with fail
  refine (Unwrap_any _ _ _ _ _ _ _ _ _ hY.2.1 hP1 (by omega) (by omega) hU).mono ?_
  rintro e w5 ⟨rfl, hq⟩
  have hY := hY.q hq
  clear d0 d1 d2 d3 d4 hq
  obtain ⟨d0, d1, d2, d3, d4, -⟩ := hY.held
  go_wp2_with fail
  refine (Num_any _ _ hP1).mono ?_
  rintro e w6 ⟨rfl, hq⟩
  have hY := hY.q hq
  clear d0 d1 d2 d3 d4 hq
  go_wp2_with fail
  refine (List_new [ephT, seed, numB P] 3 _ _ _ _ rfl rfl rfl (by decide) (Nat.le_trans HE.out (by decide))).mono ?_
  rintro e w7 ⟨rfl, hq⟩
  have hY := hY.q hq
  clear hq
  go_wp2_with fail
  refine (Sha_at _ _ _ rfl hY.2.1 HLS.out).mono ?_
  rintro e w8 ⟨rfl, hq⟩
  have hY := hY.q hq
  clear hq
  have hsz := sealH_size [ephT, seed, numB P]
  have hnb := numOf_bd (sealH [ephT, seed, numB P])
  have hEE : 1 + numOf (sealH [ephT, seed, numB P]) % 2305843009213693949 = E := HH.out
  change (sha (listB [ephT, seed, numB P])).size = 32 at hsz
  change 0 ≤ numOf (sha (listB [ephT, seed, numB P])) ∧ _ at hnb
  change 1 + numOf (sha (listB [ephT, seed, numB P])) % 2305843009213693949 = E at hEE
  generalize sha (listB [ephT, seed, numB P]) = H at *
  generalize hn : numOf H = n at *
  have f2 : n.tmod 2305843009213693949 = E - 1 := by rw [Int.tmod_eq_emod_of_nonneg (by omega)]; omega
  have f3 : IntKind.i64.wrap (E - 1) = E - 1 := IntWalk.i64_in _ ⟨by omega, by omega⟩
  have f4 : 1 + (E - 1) = E := by omega
  have f5 : IntKind.i64.wrap E = E := IntWalk.i64_in _ ⟨by omega, by omega⟩
  clear hEE
  go_wp2_with fail
  refine (sumNum_any _ _ (by omega)).mono ?_
  rintro e w9 ⟨rfl, rfl⟩
  rw [hn]
  clear hsz hn
  go_wp2_with fail
  refine (Exp_at P E Z _ hZ (by omega) (by omega)).mono ?_
  rintro e w10 ⟨rfl, hq⟩
  have hY := hY.q hq
  clear hq f2 f3 f4 f5 hnb
  obtain ⟨d0, d1, d2, d3, d4, -⟩ := hY.held
  go_wp2_with fail
  refine (Exp_at G s Z _ hZ' (by omega) (by omega)).mono ?_
  rintro e w11 ⟨rfl, hq⟩
  have hY := hY.q hq
  clear d0 d1 d2 d3 d4 hq
  obtain ⟨d0, d1, d2, d3, d4, -⟩ := hY.held
  go_wp2_with fail
  go_region_held3 (fun w' => w'.cell? ⟨w4.heap.size, 0, none⟩ = some (.int .i64 P) ∧ w'.cell? ⟨w4.heap.size, 1, none⟩ = some (.int .i64 G) ∧ w'.cell? ⟨w4.heap.size, 2, none⟩ = some (.string b1) ∧ w'.cell? ⟨w4.heap.size, 3, none⟩ = some (.string b2) ∧ w'.cell? ⟨w4.heap.size, 4, none⟩ = some (.string b3) ∧ UwH w w' w4.heap.size P G b1 b2 b3)
    (first | exact (hY.q (Q.refl _).drew).held | exact UwH.step (by assumption) hq)
    (first
      | (go_at_call 30; refine (Exp_at _ _ _ _ hG (by omega) (by omega)).mono ?_; rintro e w' ⟨rfl, hq⟩))
  have hY2 : UwH w w' w4.heap.size P G b1 b2 b3 := by rename_i hh; exact hh.2.2.2.2.2
  generalize w' = W at *
  clear d0 d1 d2 d3 d4 hY
  obtain ⟨d0, d1, d2, d3, d4, -⟩ := hY2.held
  go_wp2_with fail
  go_region_held3 (fun w' => w'.cell? ⟨w4.heap.size, 0, none⟩ = some (.int .i64 P) ∧ w'.cell? ⟨w4.heap.size, 1, none⟩ = some (.int .i64 G) ∧ w'.cell? ⟨w4.heap.size, 2, none⟩ = some (.string b1) ∧ w'.cell? ⟨w4.heap.size, 3, none⟩ = some (.string b2) ∧ w'.cell? ⟨w4.heap.size, 4, none⟩ = some (.string b3) ∧ UwH w w' w4.heap.size P G b1 b2 b3)
    (first | exact (hY2.q (Q.refl _).drew).held | (with_reducible assumption) | exact UwH.step (by assumption) hq | exact UwH.step (by assumption) (q_new _ _ _))
    (first
      | (go_at_call 34; refine (Num_any _ _ (by first | exact hP1 | exact hZ1 | omega)).mono ?_; rintro e w' ⟨rfl, hq⟩)
      | (go_at_call 33; refine (List_al [wrapT, numB P, numB G, numB Z] 4 _ _ _ _ rfl rfl rfl (by decide) HL4.out).mono ?_; rintro e w' ⟨rfl, hq⟩)
      | (go_at_call 32; refine (Sha_box _ _ (by assumption) HKK.out HL4S.out).mono ?_; rintro e w' ⟨rfl, hq⟩))
  all_goals
    have hY3 : UwH w w' w4.heap.size P G b1 b2 b3 := by rename_i hh; exact hh.2.2.2.2.2
    generalize w' = W2 at *
    clear d0 d1 d2 d3 d4 hY2
    obtain ⟨d0, d1, d2, d3, d4, -⟩ := hY3.held
    go_wp2_with fail
    refine (Open_at _ _ _ _ _ _ _ hO hY3.2.1 (by omega)).mono ?_
    rintro e w12 ⟨rfl, hq⟩
    go_wp2
    go_ret
    exact ⟨rfl, Q.trans hY3.1 hq⟩

theorem wraps_any (s : Int) (seed plain : ByteArray) (w : World) (hT : Tab w) (ha : seed.size ≤ 281474976710656) (hb : plain.size ≤ 281474976710656) :
    Calls Tryd.prog 6 #[.int .i64 s, .string seed, .string plain] w fun e w' => e = .returned (.bool true) ∧ Q w w' := by
  by_cases h : 2000 < seed.size + plain.size ∨ s < 1 ∨ 2305843009213693950 ≤ s
  · exact wraps_out s seed plain w hT ha hb h
  · have hsec : isSecI s = true := by simp [isSecI]; omega
    have hpub := gexp_pub s (by omega) (by omega)
    have hPb := gexp_bd 37 s
    have hEb := ephI_bd seed (gexp 37 s)
    have hGp := gexp_pub (ephI seed (gexp 37 s)) (by omega) (by omega)
    have hGb : 1 ≤ gexp 37 (ephI seed (gexp 37 s)) ∧ gexp 37 (ephI seed (gexp 37 s)) ≤ 2305843009213693950 := by simpa [isPubI] using hGp
    have hsh := shared_eq s (ephI seed (gexp 37 s)) (by omega) (by omega)
    have hZb := gexp_bd (gexp 37 s) (ephI seed (gexp 37 s))
    have hU := unwrap_wrap s seed plain hsec
    refine wraps_in s seed plain w hT (by simp; omega) (by omega) (by omega) _ _ _ _ _ _ _ _ rfl (by omega) (wrap_ok _ _ _ hpub) hU rfl rfl hEb.1 hEb.2 (by omega) (by omega) rfl hsh.symm (by omega) rfl (wkB_size _ _ _) (open_seal _ _ _) ?_
    rw [sealH_size, maskB_size]
    omega
end Go.Proofs.YtppbplchdfhnkaaDoor.Seal
