/-
  The walk of agoralaw07.ShareJoins.
-/
import Derived.Test.YtppbplchdfhnkaaDoorShareSrc
import Derived.Test.YtppbplchdfhnkaaDoorShareLaw2
set_option linter.unusedVariables false
set_option linter.unusedSimpArgs false
namespace Go.Proofs.YtppbplchdfhnkaaDoor.Share
open Go.RowKit Grp Mem _root_.Go.Proofs.YtppbplchdfhnkaaDoor.Code Sha
open Sign (q_new)

theorem Shares.app {w : World} {base n c : Nat} {A : Option Addr} {L : List (Int × Int)} (h : Owns w base 61 2 (.slice A n c) n (cells2 L)) (hn : L.length = n) : Shares w A L := Shares.owns h hn

set_option maxHeartbeats 1000000 in
theorem joins_big (s t n : Int) (seed : ByteArray) (B : Option Addr) (d q : Nat) (A : Option Addr) (c k : Nat) (w : World) (hT : Tab w) (h : (decide ((1000 : Int) < (seed.size : Int)) || decide ((24 : Int) < (k : Int))) = true) :
    Calls Tryd.prog 9 #[.int .i64 s, .int .i64 t, .int .i64 n, .string seed, .slice B q d, .slice A k c] w fun e w' => e = .returned (.bool true) ∧ Q w w' := by
  go_enter Tryd.func9, Tryd.ntmps9
  go_wp2_with fail
  refine (small_any _ hT).mono ?_
  rintro e w1 ⟨rfl, hq1⟩
  go_wp2
  all_goals
    go_ret
    exact ⟨rfl, hq1⟩
set_option maxHeartbeats 1000000 in
theorem joins_no (s t n : Int) (seed : ByteArray) (B : Option Addr) (d q : Nat) (A : Option Addr) (c k : Nat) (w : World) (hT : Tab w) (hs : seed.size ≤ 1000) (hk : k ≤ 24) (h : splitOk s t n = false) :
    Calls Tryd.prog 9 #[.int .i64 s, .int .i64 t, .int .i64 n, .string seed, .slice B q d, .slice A k c] w fun e w' => e = .returned (.bool true) ∧ Q w w' := by
  have hno := splitOk_false h
  have hc : ¬ 1 ≤ t ∨ (1 ≤ t ∧ ¬ t ≤ n) ∨ (1 ≤ t ∧ t ≤ n ∧ ¬ n ≤ 64) ∨ (1 ≤ t ∧ t ≤ n ∧ n ≤ 64 ∧ ¬ 0 ≤ s) ∨ (1 ≤ t ∧ t ≤ n ∧ n ≤ 64 ∧ 0 ≤ s ∧ ¬ s < 2305843009213693951) := by
    have h2 := hno
    simp at h2
    omega
  have HNO := Lib.hid hno
  clear hno h
  rcases hc with g1 | ⟨g1, g2⟩ | ⟨g1, g2, g3⟩ | ⟨g1, g2, g3, g4⟩ | ⟨g1, g2, g3, g4, g5⟩
  all_goals
    go_enter Tryd.func9, Tryd.ntmps9
    go_wp2_with fail
    refine (small_any _ hT).mono ?_
    rintro e w1 ⟨rfl, hq1⟩
    go_wp2_with fail
    refine (Split_no s t n seed _ HNO.out).mono ?_
    rintro e w2 ⟨rfl, hq2⟩
    go_wp2
    go_ret
    exact ⟨rfl, Q.trans hq1 hq2⟩

set_option maxRecDepth 100000 in
set_option maxHeartbeats 4000000 in
theorem joins_yes (s t n : Int) (seed : ByteArray) (B : Option Addr) (d : Nat) (os : List Int) (A : Option Addr) (c : Nat) (l : List (Int × Int)) (w : World) (hT : Tab w) (hO : Ints w B os) (hos : os.length ≤ maxLen) (hS : Shares w A l) (hs : seed.size ≤ 1000) (hk : l.length ≤ 24) (h : splitOk s t n = true) :
    Calls Tryd.prog 9 #[.int .i64 s, .int .i64 t, .int .i64 n, .string seed, .slice B os.length d, .slice A l.length c] w fun e w' => e = .returned (.bool true) ∧ Q w w' := by
  obtain ⟨h1, h2, h3, h4, h5⟩ := splitOk_true h
  have hLen := splitL_length s seed t.toNat n.toNat
  have hch := fun m (hp : Picked (splitL s seed t.toNat n.toNat) m) => (⟨hp.sub, hp.dist⟩ : Chosen s seed t.toNat n.toNat m)
  have HSP := Lib.hid fun W hW => Split_yes s t n seed W hW h1 h2 h3 h4 h5 (by omega)
  have hn0 : (n.toNat : Int) = n := by omega
  have HN := Lib.hid hn0
  clear hn0
  obtain ⟨nn, hnn⟩ : ∃ nn, n.toNat = nn := ⟨_, rfl⟩
  rw [hnn] at HSP HN hLen hch
  clear hnn
  have hn64 : nn ≤ 64 := by have := HN.out; omega
  generalize hL : splitL s seed t.toNat nn = L at *
  have hch2 : ∀ m, Picked L m → Chosen s seed t.toNat nn m := hch
  have HCH := Lib.hid hch2
  clear hch hch2
  go_enter Tryd.func9, Tryd.ntmps9
  go_wp2_with fail
  refine (small_any _ hT).mono ?_
  rintro e w1 ⟨rfl, hq1⟩
  go_wp2_with fail
  refine (HSP.out _ (hT.q hq1)).mono ?_
  rintro e w2 ⟨A1, c1, rfl, hown1, hq2⟩
  have hS1 := Shares.owns hown1 hLen
  have hnb : ((nn : Int) != n) = false := by have := HN.out; simp; omega
  have hq := Q.trans hq1 hq2
  clear hown1 hq1 hq2
  subst hLen
  go_wp2_with fail
  refine (chosen_any A1 c1 L B d os _ hS1 (hO.q hq) (by omega) hos).mono ?_
  rintro e w3 ⟨C, cap, m, rfl, hmc, hcm, hSm, hpick, hm24, hq3⟩
  have hC := HCH.out m hpick
  have hq := Q.trans hq hq3
  clear hq3
  go_wp2_with fail
  refine (Fits_at _ _ _ m _ true _ rfl (hC.fits hn64 h1) hSm hmc hcm (by omega)).mono ?_
  rintro e w4 ⟨rfl, hq4⟩
  have hq := Q.trans hq hq4
  have hSm := hSm.q hq4
  clear hq4
  by_cases hlt : (m.length : Int) < t
  · have hj := join_no m t (.inr (.inl hlt))
    have hd : decide ((m.length : Int) < t) = true := by simp [hlt]
    go_wp2_with fail
    refine (Join_at _ _ _ m _ 0 false _ rfl hj hSm hmc hcm (by omega)).mono ?_
    rintro e w5 ⟨rfl, hq5⟩
    have hq := Q.trans hq hq5
    clear hj
    go_wp2
    go_ret
    exact ⟨rfl, hq⟩
  · have hj := (hC.take t.toNat).join hn64 h1 (show t ≤ (m.length : Int) by omega) h4 h5
    have hd : decide ((m.length : Int) < t) = false := by simp; omega
    have HJ := Lib.hid hj
    clear hj
    go_wp2_with fail
    refine (Join_at _ _ _ m _ s true _ rfl HJ.out hSm hmc hcm (by omega)).mono ?_
    rintro e w5 ⟨rfl, hq5⟩
    have hq := Q.trans hq hq5
    have hSm := hSm.q hq5
    clear hq5
    have b0 : 0 ≤ t := by omega
    have b1 : t ≤ (cap : Int) := by omega
    have htl : (m.take t.toNat).length = t.toNat := by rw [List.length_take]; omega
    have hfin : joinI (m.take t.toNat ++ l) t = (s, true) := by
      have ht : (m.take t.toNat ++ l).take t.toNat = m.take t.toNat := by
        rw [← htl]
        simp
      refine Chosen.join (seed := seed) (n := L.length) (by rw [ht]; exact hC.take t.toNat) hn64 h1 ?_ h4 h5
      rw [List.length_append, htl]
      omega
    have hfl : (m.take t.toNat ++ l).length = t.toNat + l.length := by rw [List.length_append, htl]
    have HF := Lib.hid hfin
    have HFL := Lib.hid hfl
    have HTL := Lib.hid htl
    have hSt := hSm.take t.toNat
    generalize m.take t.toNat = T at *
    obtain ⟨bm, om, rfl, -, -⟩ := hSm (by omega)
    clear hfin hfl htl HJ hC hpick hd
    go_wp2_with (at_builtin; go_loud (refine wpList_append_shares rfl (.tmp 99) (.tmp 102) rfl w5.heap.size _ 0 [] rfl (owns_empty w5) (some ⟨bm, om, none⟩) t.toNat _ T rfl (hSt.q (q_new _ _ _)) HTL.out (by omega) (by simp) ?_))
    intro A6 c6 w6 hc6 hm6 hown6 hg6
    have hq6 : Q w5 w6 := q_append0 (q_new w5 #[] 61) (owns_empty w5) hg6
    have hS6 := hS.q (Q.trans hq hq6)
    go_wp2_with (at_builtin; go_loud (refine wpList_append_shares rfl (.tmp 103) (.tmp 104) rfl w5.heap.size _ t.toNat T rfl hown6 A l.length c l rfl hS6 rfl (by omega) hq6.size ?_))
    intro A7 c7 w7 hc7 hm7 hown7 hg7
    have hq7 : Q w5 w7 := q_append0 hq6 hown6 hg7
    have hS7 := Shares.owns hown7 (by rw [HFL.out])
    go_wp2_with fail
    refine (Join_at _ _ _ (T ++ l) _ s true _ (by rw [HFL.out]) HF.out hS7 hc7 hm7 (by omega)).mono ?_
    rintro e w8 ⟨rfl, hq8⟩
    go_wp2
    go_ret
    exact ⟨by first | rfl | simp, Q.trans hq (Q.trans hq7 hq8)⟩
theorem joins_any (s t n : Int) (seed : ByteArray) (B : Option Addr) (d : Nat) (os : List Int) (A : Option Addr) (c : Nat) (l : List (Int × Int)) (w : World) (hT : Tab w) (hO : Ints w B os) (hos : os.length ≤ maxLen) (hS : Shares w A l) :
    Calls Tryd.prog 9 #[.int .i64 s, .int .i64 t, .int .i64 n, .string seed, .slice B os.length d, .slice A l.length c] w fun e w' => e = .returned (.bool true) ∧ Q w w' := by
  by_cases hb : 1000 < seed.size ∨ 24 < l.length
  · exact joins_big s t n seed B d os.length A c l.length w hT (by simp; omega)
  · cases h : splitOk s t n with
    | false => exact joins_no s t n seed B d os.length A c l.length w hT (by omega) (by omega) h
    | true => exact joins_yes s t n seed B d os A c l w hT hO hos hS (by omega) (by omega) h
end Go.Proofs.YtppbplchdfhnkaaDoor.Share
