/-
  The contracts of package agoraref07's Value, Join and Fits.
-/
import Derived.Test.YtppbplchdfhnkaaDoorShareRef2
import Derived.Test.YtppbplchdfhnkaaDoorShareLaw
set_option linter.unusedVariables false
set_option linter.unusedSimpArgs false
namespace Go.Proofs.YtppbplchdfhnkaaDoor.Share
open Go.RowKit Grp Mem _root_.Go.Proofs.YtppbplchdfhnkaaDoor.Code Sha

/-- Two fields of shares are kept. -/
theorem two_step {w0 w w' : World} {g i j : Nat} {u v : Value} (h : w.cell? ⟨g, i, none⟩ = some u ∧ w.cell? ⟨g, j, none⟩ = some v ∧ g < w.heap.size ∧ Q w0 w) (hq : Q w w') :
    w'.cell? ⟨g, i, none⟩ = some u ∧ w'.cell? ⟨g, j, none⟩ = some v ∧ g < w'.heap.size ∧ Q w0 w' :=
  ⟨(hq.cell (p := ⟨g, i, none⟩) h.2.2.1).trans h.1, (hq.cell (p := ⟨g, j, none⟩) h.2.2.1).trans h.2.1, Nat.lt_of_lt_of_le h.2.2.1 hq.size, Q.trans h.2.2.2 hq⟩
theorem shares_in {w : World} {A : Option Addr} {l : List (Int × Int)} (h : Shares w A l) (k : Nat) (hk : k < l.length) : ∃ b o, A = some ⟨b, o, none⟩ ∧ b < w.heap.size ∧ w.cell? ⟨b, o + k * 2, none⟩ = some (.int .i64 (pt l k).1) ∧ w.cell? ⟨b, o + k * 2 + 1, none⟩ = some (.int .i64 (pt l k).2) := by
  obtain ⟨b, o, e, hb, hc⟩ := h (by omega)
  rw [pt_get l k hk]
  exact ⟨b, o, e, hb, (hc k hk).1, (hc k hk).2⟩

set_option maxRecDepth 100000 in
set_option maxHeartbeats 4000000 in
theorem RValue_any (A : Option Addr) (c : Nat) (l : List (Int × Int)) (x : Int) (w : World) (hS : Shares w A l) (hn : l.length ≤ 1000000) (hd : Dist l) :
    Calls Tryd.prog 92 #[.slice A l.length c, .int .i64 x] w fun e w' => e = .returned (.int .i64 (val (interp l) x)) ∧ Q w w' := by
  have hlag := lag_val l hd x
  have HLAG := Lib.hid hlag
  clear hlag
  go_enter Tryd.func92, Tryd.ntmps92
  go_wp2_with fail
  go_loopw [5, 6] (fun s i wr => ∃ k : Nat, i = .int .i64 k ∧ k ≤ l.length ∧ s = .int .i64 (lagTo l x k) ∧ Q w wr) (fun _ i _ => l.length - (intOf i).toNat)
  case atStart => exact ⟨0, rfl, Nat.zero_le _, rfl, Q.refl _⟩
  case round =>
    obtain ⟨k, rfl, hk, rfl, hq⟩ := hrel
    by_cases hlt : k < l.length
    · obtain ⟨b, o, rfl, hb, c0, c1⟩ := shares_in (hS.q hq) k hlt
      have hk0 : (0 : Int) ≤ (k : Int) := by omega
      have hkl : (k : Int) < (l.length : Int) := by omega
      have hinv := lag_inv l hd k hlt
      have hst : lagTo l x (k + 1) = gadd (lagTo l x k) (gmul (overTo l k x l.length) (ginv (underTo l k l.length))) := rfl
      have HST := Lib.hid hst
      clear hst
      generalize lagTo l x k = LK at *
      have ho0 : overTo l k x 0 = (pt l k).2 := rfl
      have hu0 : underTo l k 0 = 1 := rfl
      have HO0 := Lib.hid ho0
      have HU0 := Lib.hid hu0
      have hus : ∀ j, j ≠ k → underTo l k (j + 1) = gmul (underTo l k j) (gsub (pt l k).1 (pt l j).1) := fun j h => by rw [underTo, if_neg h]
      have HUS := Lib.hid hus
      clear ho0 hu0 hus
      generalize hX : (pt l k).1 = X at *
      generalize (pt l k).2 = Y at *
      clear hX
      obtain ⟨wo, rfl⟩ : ∃ wo : World, wo = wr := ⟨_, rfl⟩
      go_wp2_with fail
      go_loopw [7, 8, 9] (fun ov un i wr2 => ∃ j : Nat, i = .int .i64 j ∧ j ≤ l.length ∧ ov = .int .i64 (overTo l k x j) ∧ un = .int .i64 (underTo l k j) ∧ Q wo wr2) (fun _ _ i _ => l.length - (intOf i).toNat)
      case atStart => exact ⟨0, rfl, Nat.zero_le _, by rw [HO0.out], by rw [HU0.out], Q.refl _⟩
      case round =>
        obtain ⟨j, rfl, hj, rfl, rfl, hq2⟩ := hrel
        by_cases hlt2 : j < l.length
        · by_cases he : j = k
          · have hne : ((j : Int) != (k : Int)) = false := by simp [he]
            have h1 : overTo l k x (j + 1) = overTo l k x j := by rw [overTo, if_pos he]
            have h2 : underTo l k (j + 1) = underTo l k j := by rw [underTo, if_pos he]
            have H1 := Lib.hid h1
            have H2 := Lib.hid h2
            clear h1 h2 he
            generalize overTo l k x j = OV at *
            generalize underTo l k j = UN at *
            go_wp2
            exact ⟨⟨j + 1, by go_num, by omega, by rw [H1.out], by rw [H2.out], hq2⟩, by simp only [intOf]; omega⟩
          · have hne : ((j : Int) != (k : Int)) = true := by simp; omega
            obtain ⟨b', o', e, hb', d0, -⟩ := shares_in (hS.q (Q.trans hq hq2)) j hlt2
            cases e
            have cc0 := (hq2.cell (p := ⟨b, o + k * 2, none⟩) hb).trans c0
            have hj0 : (0 : Int) ≤ (j : Int) := by omega
            have hjl : (j : Int) < (l.length : Int) := by omega
            have h1 : overTo l k x (j + 1) = gmul (overTo l k x j) (gsub x (pt l j).1) := by rw [overTo, if_neg he]
            have h2 := HUS.out j he
            have H1 := Lib.hid h1
            have H2 := Lib.hid h2
            clear h1 h2 he
            generalize overTo l k x j = OV at *
            generalize underTo l k j = UN at *
            generalize (pt l j).1 = U at *
            go_wp2_with fail
            refine (RSub_any _ _ _).mono ?_
            rintro e w4 ⟨rfl, rfl⟩
            go_wp2_with fail
            refine (RMul_any _ _ _).mono ?_
            rintro e w5 ⟨rfl, hq5⟩
            have hA := two_step ⟨cc0, d0, hb', hq2⟩ hq5
            clear cc0 d0 hq5
            obtain ⟨s0, s1, s2, s3⟩ := hA
            go_wp2_with fail
            go_region_held3 (fun w' => w'.cell? ⟨b, o + k * 2, none⟩ = some (.int .i64 X) ∧ w'.cell? ⟨b, o + j * 2, none⟩ = some (.int .i64 U) ∧ b < w'.heap.size ∧ Q wo w')
              (first | exact ⟨s0, s1, s2, s3.drew⟩ | (with_reducible assumption) | exact two_step (by assumption) hqz)
              (first
                | (go_at_call 113; refine (RSub_any _ _ _).mono ?_; rintro e w' ⟨rfl, rfl⟩)
                | (go_at_call 88; refine (RMul_any _ _ _).mono ?_; rintro e w' ⟨rfl, hqz⟩))
            all_goals
              go_wp2
              exact ⟨⟨j + 1, by go_num, by omega, by rw [H1.out], by rw [H2.out], by rename_i hh; exact hh.2.2.2⟩, by simp only [intOf]; omega⟩
        · obtain rfl : j = l.length := by omega
          have hst := HST.out
          generalize overTo l k x l.length = OV at *
          generalize underTo l k l.length = UN at *
          have HST := Lib.hid hst
          clear hst
          go_wp2_with fail
          refine (RInv_yes _ _ hinv).mono ?_
          rintro e w4 ⟨rfl, hq4⟩
          go_wp2_with fail
          refine (RMul_any _ _ _).mono ?_
          rintro e w5 ⟨rfl, hq5⟩
          go_wp2_with fail
          refine (RAdd_any _ _ _).mono ?_
          rintro e w6 ⟨rfl, rfl⟩
          go_wp2
          exact ⟨⟨k + 1, by go_num, by omega, by rw [HST.out], Q.trans hq (Q.trans hq2 (Q.trans hq4 hq5))⟩, by simp only [intOf]; omega⟩
    · have hkl : k = l.length := by omega
      have hv : lagTo l x k = val (interp l) x := by rw [hkl, HLAG.out]
      have HV := Lib.hid hv
      clear hkl hv
      go_wp2
      go_ret
      exact ⟨by rw [HV.out]; rfl, hq⟩
theorem RValue_at (A : Option Addr) (n c : Nat) (l : List (Int × Int)) (x v : Int) (w : World) (hn' : l.length = n) (hv : val (interp l) x = v) (hS : Shares w A l) (hn : n ≤ 1000000) (hd : Dist l) :
    Calls Tryd.prog 92 #[.slice A n c, .int .i64 x] w fun e w' => e = .returned (.int .i64 v) ∧ Q w w' := by
  subst hn' hv
  exact RValue_any A c l x w hS hn hd

set_option maxRecDepth 100000 in
set_option maxHeartbeats 2000000 in
theorem RJoin_any (A : Option Addr) (c : Nat) (l : List (Int × Int)) (t : Int) (w : World) (hS : Shares w A l) (hlc : l.length ≤ c) (hcm : c ≤ maxLen) (hn : l.length ≤ 1000000) :
    Calls Tryd.prog 40 #[.slice A l.length c, .int .i64 t] w fun e w' => e = .returned (.tuple #[.int .i64 (joinI l t).1, .bool (joinI l t).2]) ∧ Q w w' := by
  unfold joinI
  by_cases h1 : t < 1
  · rw [if_pos (.inl h1)]
    have e1 : decide (t < 1) = true := by simp [h1]
    go_enter Tryd.func40, Tryd.ntmps40
    go_wp2
    go_ret2
    exact ⟨rfl, Q.refl _⟩
  · by_cases h2 : (l.length : Int) < t
    · rw [if_pos (.inr (.inl h2))]
      have e1 : decide (t < 1) = false := by simp; omega
      have e2 : decide ((l.length : Int) < t) = true := by simp [h2]
      go_enter Tryd.func40, Tryd.ntmps40
      go_wp2
      go_ret2
      exact ⟨rfl, Q.refl _⟩
    · obtain ⟨m, rfl⟩ := Int.eq_ofNat_of_zero_le (show 0 ≤ t by omega)
      have hm0 : 0 < m := by omega
      have hml : m ≤ l.length := by omega
      have hlen : (l.take m).length = m := by rw [List.length_take]; omega
      have htn : ((m : Int)).toNat = m := rfl
      rw [htn]
      have hSt := hS.take m
      obtain ⟨b, o, rfl, hb, -⟩ := hS (by omega)
      have e1 : decide ((m : Int) < 1) = false := by simp; omega
      have e2 : decide ((l.length : Int) < (m : Int)) = false := by simp; omega
      have b1 : (m : Int) ≤ (c : Int) := by omega
      have b2 : (0 : Int) ≤ (m : Int) := by omega
      cases hv : validI (l.take m) with
      | false =>
        rw [if_pos (.inr (.inr rfl))]
        go_enter Tryd.func40, Tryd.ntmps40
        go_wp2_with fail
        refine (RValid_at _ _ _ (l.take m) false _ hlen hv hSt (by omega)).mono ?_
        rintro e w1 ⟨rfl, hq1⟩
        go_wp2
        go_ret2
        exact ⟨rfl, hq1⟩
      | true =>
        rw [if_neg (by simp; omega)]
        have hd := valid_dist hv
        go_enter Tryd.func40, Tryd.ntmps40
        go_wp2_with fail
        refine (RValid_at _ _ _ (l.take m) true _ hlen hv hSt (by omega)).mono ?_
        rintro e w1 ⟨rfl, hq1⟩
        go_wp2_with fail
        refine (RValue_at _ _ _ (l.take m) 0 _ _ hlen rfl (hSt.q hq1) (by omega) hd).mono ?_
        rintro e w3 ⟨rfl, hq3⟩
        go_wp2
        go_ret2
        exact ⟨rfl, Q.trans hq1 hq3⟩

set_option maxRecDepth 100000 in
set_option maxHeartbeats 4000000 in
theorem RFits_any (A : Option Addr) (c : Nat) (l : List (Int × Int)) (t : Int) (w : World) (hS : Shares w A l) (hlc : l.length ≤ c) (hcm : c ≤ maxLen) (hn : l.length ≤ 1000000) (ht : t ≤ 9223372036854775807) :
    Calls Tryd.prog 42 #[.slice A l.length c, .int .i64 t] w fun e w' => e = .returned (.bool (fitsI l t)) ∧ Q w w' := by
  by_cases h1 : t < 1
  · unfold fitsI
    rw [if_pos (.inl h1)]
    have e1 : decide (t < 1) = true := by simp [h1]
    go_enter Tryd.func42, Tryd.ntmps42
    go_wp2
    go_ret
    exact ⟨rfl, Q.refl _⟩
  · have e1 : decide (t < 1) = false := by simp; omega
    cases hv : validI l with
    | false =>
      unfold fitsI
      rw [if_pos (.inr hv)]
      go_enter Tryd.func42, Tryd.ntmps42
      go_wp2_with fail
      refine (RValid_at _ _ _ l false _ rfl hv hS (by omega)).mono ?_
      rintro e w1 ⟨rfl, hq1⟩
      go_wp2
      go_ret
      exact ⟨rfl, hq1⟩
    | true =>
      obtain ⟨m, rfl⟩ := Int.eq_ofNat_of_zero_le (show 0 ≤ t by omega)
      have hF : fitsI l (m : Int) = fitsFrom (interp (l.take m)) (l.drop m) := by
        unfold fitsI
        rw [if_neg (by rw [hv]; simp; omega)]
        by_cases h2 : (l.length : Int) ≤ (m : Int)
        · rw [if_pos h2, List.drop_of_length_le (by omega)]
          rfl
        · rw [if_neg h2]
          rfl
      rw [hF]
      clear hF
      have hd := valid_dist (show validI (l.take m) = true from valid_take l [] m hv)
      have hSt := hS.take m
      have hz : m ≤ l.length → (l.take m).length = m := fun h => by rw [List.length_take]; omega
      generalize hT : l.take m = T at *
      generalize hI : interp T = M at *
      have HT := Lib.hid hT
      have HI := Lib.hid hI
      have HZ := Lib.hid hz
      clear hT hI hz
      go_enter Tryd.func42, Tryd.ntmps42
      go_wp2_with fail
      refine (RValid_at _ _ _ l true _ rfl hv hS (by omega)).mono ?_
      rintro e w1 ⟨rfl, hq1⟩
      go_wp2_with fail
      go_loopw [5] (fun i wr => ∃ k : Nat, i = .int .i64 k ∧ m ≤ k ∧ (k : Int) ≤ 9223372036854775807 ∧ Hid (fitsFrom M (l.drop m) = fitsFrom M (l.drop k)) ∧ Q w wr) (fun i _ => l.length - (intOf i).toNat)
      case atStart => exact ⟨m, rfl, Nat.le_refl _, ht, Lib.hid rfl, hq1⟩
      case round =>
        obtain ⟨k, rfl, hmk, hk9, hfit, hq⟩ := hrel
        by_cases hlt : k < l.length
        · obtain ⟨b, o, rfl, hb, c0, c1⟩ := shares_in (hS.q hq) k hlt
          have hfit2 := hfit.out
          rw [List.drop_eq_getElem_cons hlt, fitsFrom, ← pt_get l k hlt] at hfit2
          have hb0 : b < w.heap.size := by
            obtain ⟨b', o', e, hb', -⟩ := hS (by omega)
            cases e
            exact hb'
          generalize (pt l k).1 = X at *
          generalize (pt l k).2 = Y at *
          have HFIT := Lib.hid hfit2
          clear hfit hfit2
          have b1 : (m : Int) ≤ (c : Int) := by omega
          have b2 : (0 : Int) ≤ (m : Int) := by omega
          have b3 : (0 : Int) ≤ (k : Int) := by omega
          have b4 : (k : Int) < (l.length : Int) := by omega
          have hS2 : Shares wr.drew (some ⟨b, o, none⟩) T := hSt.q hq.drew
          go_wp2_with fail
          go_region_with (first
            | (go_at_call 92; refine (RValue_at _ _ _ T _ (val M X) _ (HZ.out (by omega)) (by rw [HI.out]) hS2 (by omega) hd).mono ?_; rintro e w' ⟨rfl, hqz⟩; have hX := two_step ⟨c0, c1, hb, hq⟩ (Q.trans (Q.refl _).drew hqz); obtain ⟨hcx, hcy, hbz, hqy⟩ := hX))
          all_goals
            by_cases hval : val M X = Y
            · have hb1 : (val M X != Y) = false := by simpa using hval
              have hfit2 := HFIT.out
              rw [if_pos hval] at hfit2
              have HF2 := Lib.hid hfit2
              clear hfit2 hval
              go_wp2
              exact ⟨⟨k + 1, by go_num, by omega, by omega, HF2, hqy⟩, by simp only [intOf]; omega⟩
            · have hb1 : (val M X != Y) = true := by simpa using hval
              have hfit2 := HFIT.out
              rw [if_neg hval] at hfit2
              have HF2 := Lib.hid hfit2
              clear hfit2 hval
              go_wp2
              go_ret
              exact ⟨by rw [HF2.out]; rfl, hqy⟩
        · have hend : fitsFrom M (l.drop m) = true := by rw [hfit.out, List.drop_of_length_le (by omega)]; rfl
          have HEND := Lib.hid hend
          clear hend hfit
          have b4 : ¬ (k : Int) < (l.length : Int) := by omega
          go_wp2
          go_ret
          exact ⟨by rw [HEND.out]; rfl, hq⟩
end Go.Proofs.YtppbplchdfhnkaaDoor.Share
