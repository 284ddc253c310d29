/-
  The contracts of package share's Join and Fits.
-/
import Derived.Test.YtppbplchdfhnkaaDoorShareInterp
import Derived.Test.YtppbplchdfhnkaaDoorShareValid
set_option linter.unusedVariables false
set_option linter.unusedSimpArgs false
namespace Go.Proofs.YtppbplchdfhnkaaDoor.Share
open Go.RowKit Grp Mem
open Sign (q_new)

theorem valid_all : ∀ (l : List (Int × Int)) (seen : List Int), validFrom seen l = true → (∀ s ∈ l, 1 ≤ s.1 ∧ s.1 < 2305843009213693951 ∧ 0 ≤ s.2 ∧ s.2 < 2305843009213693951 ∧ s.1 ∉ seen) ∧ l.Pairwise (fun a b => a.1 ≠ b.1) := by
  intro l
  induction l with
  | nil => intro seen _; exact ⟨by simp, List.Pairwise.nil⟩
  | cons s r ih =>
    intro seen h
    rw [validFrom] at h
    split at h
    · cases h
    · rename_i hc
      obtain ⟨h1, h2⟩ := ih _ h
      refine ⟨fun t ht => ?_, List.pairwise_cons.2 ⟨fun t ht he => (h1 t ht).2.2.2.2 (by rw [← he]; simp), h2⟩⟩
      rcases List.mem_cons.1 ht with rfl | ht
      · exact ⟨by omega, by omega, by omega, by omega, fun hs => hc (by simp [hs])⟩
      · obtain ⟨k1, k2, k3, k4, k5⟩ := h1 t ht
        exact ⟨k1, k2, k3, k4, fun hs => k5 (by simp [hs])⟩
theorem valid_bd {l : List (Int × Int)} (h : validI l = true) : ∀ s ∈ l, 1 ≤ s.1 ∧ s.1 < 2305843009213693951 ∧ 0 ≤ s.2 ∧ s.2 < 2305843009213693951 := fun s hs => by
  obtain ⟨k1, k2, k3, k4, _⟩ := (valid_all l [] h).1 s hs
  exact ⟨k1, k2, k3, k4⟩
theorem valid_dist {l : List (Int × Int)} (h : validI l = true) : Dist l := by
  have h1 := (valid_all l [] h).2
  have h2 := valid_bd h
  unfold Dist
  refine List.Pairwise.imp_of_mem (fun ha hb hne he => hne ?_) h1
  have ka := h2 _ ha
  have kb := h2 _ hb
  exact eqv_eq he (by omega) (by omega) (by omega) (by omega)
theorem Shares.take {w : World} {A : Option Addr} {l : List (Int × Int)} (h : Shares w A l) (k : Nat) : Shares w A (l.take k) := fun h0 => by
  rw [List.length_take] at h0
  obtain ⟨b, o, e, hb, hc⟩ := h (by omega)
  refine ⟨b, o, e, hb, fun j hj => ?_⟩
  rw [List.length_take] at hj
  rw [List.getElem_take]
  exact hc j (by omega)

/-- What Join computes. -/
def joinI (l : List (Int × Int)) (t : Int) : Int × Bool := if t < 1 ∨ (l.length : Int) < t ∨ validI (l.take t.toNat) = false then (0, false) else (val (interp (l.take t.toNat)) 0, true)

theorem valid_at (A : Option Addr) (n c : Nat) (l : List (Int × Int)) (r : Bool) (w : World) (hn' : l.length = n) (hr : validI l = r) (hS : Shares w A l) (hn : n ≤ 140737488355328) :
    Calls Tryd.prog 89 #[.slice A n c] w fun e w' => e = .returned (.bool r) ∧ Q w w' := by
  subst hn' hr
  exact valid_any A c l w hS hn
theorem interpolate_at (b o n c : Nat) (l : List (Int × Int)) (w : World) (hn' : l.length = n) (hS : Shares w (some ⟨b, o, none⟩) l) (h0 : 0 < n) (hn : n ≤ 1000000) (hd : Dist l) :
    Calls Tryd.prog 91 #[.slice (some ⟨b, o, none⟩) n c] w fun e w' => ∃ g, e = .returned (.slice (some ⟨g, 0, none⟩) n n) ∧ Blk w' g 61 (cells2 (interp l)).toArray ∧ Q w w' := by
  subst hn'
  exact interpolate_any b o c l w hS h0 hn hd

set_option maxRecDepth 100000 in
set_option maxHeartbeats 2000000 in
theorem Join_any (A : Option Addr) (c : Nat) (l : List (Int × Int)) (t : Int) (w : World) (hS : Shares w A l) (hlc : l.length ≤ c) (hcm : c ≤ maxLen) (hn : l.length ≤ 1000000) :
    Calls Tryd.prog 39 #[.slice A l.length c, .int .i64 t] w fun e w' => e = .returned (.tuple #[.int .i64 (joinI l t).1, .bool (joinI l t).2]) ∧ Q w w' := by
  unfold joinI
  by_cases h1 : t < 1
  · rw [if_pos (.inl h1)]
    have e1 : decide (t < 1) = true := by simp [h1]
    go_enter Tryd.func39, Tryd.ntmps39
    go_wp2
    go_ret2
    exact ⟨rfl, Q.refl _⟩
  · by_cases h2 : (l.length : Int) < t
    · rw [if_pos (.inr (.inl h2))]
      have e1 : decide (t < 1) = false := by simp; omega
      have e2 : decide ((l.length : Int) < t) = true := by simp [h2]
      go_enter Tryd.func39, Tryd.ntmps39
      go_wp2
      go_ret2
      exact ⟨rfl, Q.refl _⟩
    · obtain ⟨m, rfl⟩ := Int.eq_ofNat_of_zero_le (show 0 ≤ t by omega)
      have hm0 : 0 < m := by omega
      have hml : m ≤ l.length := by omega
      have hlen : (l.take m).length = m := by rw [List.length_take]; omega
      have htn : ((m : Int)).toNat = m := rfl
      rw [htn]
      have hSt := hS.take m
      obtain ⟨b, o, rfl, hb, -⟩ := hS (by omega)
      have e1 : decide ((m : Int) < 1) = false := by simp; omega
      have e2 : decide ((l.length : Int) < (m : Int)) = false := by simp; omega
      have b1 : (m : Int) ≤ (c : Int) := by omega
      have b2 : (0 : Int) ≤ (m : Int) := by omega
      cases hv : validI (l.take m) with
      | false =>
        rw [if_pos (.inr (.inr rfl))]
        go_enter Tryd.func39, Tryd.ntmps39
        go_wp2_with fail
        refine (valid_at _ _ _ (l.take m) false _ hlen hv hSt (by omega)).mono ?_
        rintro e w1 ⟨rfl, hq1⟩
        go_wp2
        go_ret2
        exact ⟨rfl, hq1⟩
      | true =>
        rw [if_neg (by simp; omega)]
        have hd := valid_dist hv
        go_enter Tryd.func39, Tryd.ntmps39
        go_wp2_with fail
        refine (valid_at _ _ _ (l.take m) true _ hlen hv hSt (by omega)).mono ?_
        rintro e w1 ⟨rfl, hq1⟩
        go_wp2_with fail
        refine (interpolate_at b o m _ (l.take m) _ hlen (hSt.q hq1) hm0 (by omega) hd).mono ?_
        rintro e w2 ⟨g, rfl, hblk, hq2⟩
        have hSf : Shares w2 (some ⟨g, 0, none⟩) (interp (l.take m)) := Shares.of (m := []) (by rw [List.append_nil]; exact hblk)
        go_wp2_with fail
        refine (value_at _ _ _ (interp (l.take m)) 0 _ (by rw [interp_len', hlen]) hSf (by omega)).mono ?_
        rintro e w3 ⟨rfl, hq3⟩
        go_wp2
        go_ret2
        exact ⟨rfl, Q.trans hq1 (Q.trans hq2 hq3)⟩

/-- What Fits computes. -/
def fitsFrom (form : List (Int × Int)) : List (Int × Int) → Bool
  | [] => true
  | s :: r => if val form s.1 = s.2 then fitsFrom form r else false
def fitsI (l : List (Int × Int)) (t : Int) : Bool := if t < 1 ∨ validI l = false then false else if (l.length : Int) ≤ t then true else fitsFrom (interp (l.take t.toNat)) (l.drop t.toNat)
theorem valid_take : ∀ (l : List (Int × Int)) (seen : List Int) (m : Nat), validFrom seen l = true → validFrom seen (l.take m) = true := by
  intro l
  induction l with
  | nil => intro seen m h; simpa using h
  | cons s r ih =>
    intro seen m h
    cases m with
    | zero => rfl
    | succ m =>
      rw [List.take_succ_cons, validFrom]
      rw [validFrom] at h
      split at h
      · cases h
      · rename_i hc
        rw [if_neg hc]
        exact ih _ m h

set_option maxRecDepth 100000 in
set_option maxHeartbeats 4000000 in
theorem Fits_any (A : Option Addr) (c : Nat) (l : List (Int × Int)) (t : Int) (w : World) (hS : Shares w A l) (hlc : l.length ≤ c) (hcm : c ≤ maxLen) (hn : l.length ≤ 1000000) :
    Calls Tryd.prog 41 #[.slice A l.length c, .int .i64 t] w fun e w' => e = .returned (.bool (fitsI l t)) ∧ Q w w' := by
  unfold fitsI
  by_cases h1 : t < 1
  · rw [if_pos (.inl h1)]
    have e1 : decide (t < 1) = true := by simp [h1]
    go_enter Tryd.func41, Tryd.ntmps41
    go_wp2
    go_ret
    exact ⟨rfl, Q.refl _⟩
  · have e1 : decide (t < 1) = false := by simp; omega
    cases hv : validI l with
    | false =>
      rw [if_pos (.inr rfl)]
      go_enter Tryd.func41, Tryd.ntmps41
      go_wp2_with fail
      refine (valid_at _ _ _ l false _ rfl hv hS (by omega)).mono ?_
      rintro e w1 ⟨rfl, hq1⟩
      go_wp2
      go_ret
      exact ⟨rfl, hq1⟩
    | true =>
      rw [if_neg (by simp; omega)]
      by_cases h2 : (l.length : Int) ≤ t
      · rw [if_pos h2]
        have e2 : decide ((l.length : Int) ≤ t) = true := by simp [h2]
        go_enter Tryd.func41, Tryd.ntmps41
        go_wp2_with fail
        refine (valid_at _ _ _ l true _ rfl hv hS (by omega)).mono ?_
        rintro e w1 ⟨rfl, hq1⟩
        go_wp2
        go_ret
        exact ⟨rfl, hq1⟩
      · rw [if_neg h2]
        obtain ⟨m, rfl⟩ := Int.eq_ofNat_of_zero_le (show 0 ≤ t by omega)
        have hm0 : 0 < m := by omega
        have hml : m < l.length := by omega
        have hlen : (l.take m).length = m := by rw [List.length_take]; omega
        have htn : ((m : Int)).toNat = m := rfl
        rw [htn]
        have hSt := hS.take m
        have hd := valid_dist (show validI (l.take m) = true from valid_take l [] m hv)
        obtain ⟨b, o, rfl, hb, hcells⟩ := hS (by omega)
        have e2 : decide ((l.length : Int) ≤ (m : Int)) = false := by simp; omega
        have b1 : (m : Int) ≤ (c : Int) := by omega
        have b2 : (0 : Int) ≤ (m : Int) := by omega
        have b3 : (m : Int) ≤ (l.length : Int) := by omega
        have hfl : (interp (l.take m)).length = m := by rw [interp_len', hlen]
        generalize hI : interp (l.take m) = M at *
        go_enter Tryd.func41, Tryd.ntmps41
        go_wp2_with fail
        refine (valid_at _ _ _ l true _ rfl hv hS (by omega)).mono ?_
        rintro e w1 ⟨rfl, hq1⟩
        go_wp2_with fail
        refine (interpolate_at b o m _ (l.take m) _ hlen (hSt.q hq1) hm0 (by omega) hd).mono ?_
        rintro e w2 ⟨g, rfl, hblk, hq2⟩
        rw [hI] at hblk
        have hq2 := Q.trans hq1 hq2
        clear hq1
        go_wp2_with fail
        go_loopw [27] (fun i wr => ∃ k : Nat, i = .int .i64 k ∧ k ≤ l.length - m ∧ fitsFrom M (l.drop m) = fitsFrom M (l.drop (m + k)) ∧ Blk wr g 61 (cells2 M).toArray ∧ Q w wr) (fun i _ => l.length - m - (intOf i).toNat)
        case atStart => exact ⟨0, rfl, Nat.zero_le _, rfl, hblk, hq2⟩
        case round =>
          obtain ⟨k, rfl, hk, hfit, hblk, hq⟩ := hrel
          by_cases hlt : k < l.length - m
          · have hj : m + k < l.length := by omega
            obtain ⟨b', o', e, hbb, hc⟩ := (hS.q hq) (by omega)
            cases e
            obtain ⟨c0, c1⟩ := hc (m + k) hj
            rw [show o + (m + k) * 2 = o + m * 2 + k * 2 by omega] at c0 c1
            rw [List.drop_eq_getElem_cons hj, fitsFrom, show m + k + 1 = m + (k + 1) by omega] at hfit
            generalize l[m + k].1 = X at *
            generalize l[m + k].2 = Y at *
            have hF : Frm w (wr.alloc (.cells #[.int .i64 X, .int .i64 Y] 61)) g wr.heap.size (cells2 M).toArray X Y := ⟨Below.alloc hq hq.size _, hblk.alloc _, Blk.new wr _ _⟩
            have hFd := hF.q (Q.refl _).drew
            obtain ⟨s0, s1⟩ := hF.held
            have hSh : ∀ W, Blk W g 61 (cells2 M).toArray → Shares W (some ⟨g, 0, none⟩) M := fun W hW => Shares.of (m := []) (by rw [List.append_nil]; exact hW)
            have HSH := Lib.hid hSh
            have HFIT := Lib.hid hfit
            clear hSh hfit hc hcells
            have hlk : (k : Int) < ((l.length - m : Nat) : Int) := by omega
            go_wp2_with fail
            go_region_with (first
              | (go_at_call 90; refine (value_at _ _ _ M _ _ hfl (HSH.out _ hFd.2.1) (by omega)).mono ?_; rintro e w' ⟨rfl, hq⟩; have hX2 := Frm.q hFd hq; obtain ⟨hcx, hcy⟩ := hX2.held))
            all_goals
              by_cases hval : val M X = Y
              · have hb1 : (val M X != Y) = false := by simpa using hval
                have hfit2 := HFIT.out
                rw [if_pos hval] at hfit2
                go_wp2
                exact ⟨⟨k + 1, by go_num, by omega, hfit2, hX2.2.1, hX2.1⟩, by simp only [intOf]; omega⟩
              · have hb1 : (val M X != Y) = true := by simpa using hval
                have hfit2 := HFIT.out
                rw [if_neg hval] at hfit2
                go_wp2
                go_ret
                exact ⟨by rw [hfit2]; rfl, hX2.1⟩
          · have hend : fitsFrom M (l.drop m) = true := by rw [hfit, List.drop_of_length_le (by omega)]; rfl
            have HEND := Lib.hid hend
            clear hend hfit
            go_wp2
            go_ret
            exact ⟨by rw [HEND.out]; rfl, hq⟩
end Go.Proofs.YtppbplchdfhnkaaDoor.Share
