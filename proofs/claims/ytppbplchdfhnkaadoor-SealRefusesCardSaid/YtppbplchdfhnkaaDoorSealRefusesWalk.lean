/-
  The walk of agoralaw06.SealRefuses.
-/
import Derived.Test.YtppbplchdfhnkaaDoorSealSmall
set_option linter.unusedVariables false
set_option linter.unusedSimpArgs false
namespace Go.Proofs.YtppbplchdfhnkaaDoor.Seal
open Go.RowKit Grp Mem _root_.Go.Proofs.YtppbplchdfhnkaaDoor.Code Sha
open Sign (q_new Strs.of)

theorem few5 (a b c d e : ByteArray) (w : World) (r : Bool) (ha : a.size ≤ 281474976710656) (hb : b.size ≤ 281474976710656) (hc : c.size ≤ 281474976710656) (hd : d.size ≤ 281474976710656) (he : e.size ≤ 281474976710656) (hr : decide (a.size + b.size + c.size + d.size + e.size ≤ 2000) = r) (t : TypeId) :
    Calls Tryd.prog 21 #[.slice (some ⟨w.heap.size, 0, none⟩) 5 5] (w.alloc (.cells #[.string a, .string b, .string c, .string d, .string e] t)) fun e w' => e = .returned (.bool r) ∧ Q w w' :=
  few_new [a, b, c, d, e] 5 _ t w r rfl rfl (by decide) (by simp; omega) (by rw [← hr]; simp [Nat.add_assoc])

set_option maxHeartbeats 2000000 in
theorem refuses_out (k : Int) (seed plain : ByteArray) (a b : Int) (n d t : ByteArray) (w : World) (hT : Tab w) (ha : seed.size ≤ 281474976710656) (hb : plain.size ≤ 281474976710656) (hd : n.size ≤ 281474976710656) (he : d.size ≤ 281474976710656) (hf : t.size ≤ 281474976710656) (hr : decide (seed.size + plain.size + n.size + d.size + t.size ≤ 2000) = false) :
    Calls Tryd.prog 7 #[.int .i64 k, .string seed, .string plain, .agg #[.int .i64 a, .int .i64 b, .string n, .string d, .string t]] w fun e w' => e = .returned (.bool true) ∧ Q w w' := by
  have hX := UwH.new w hT a b n d t
  go_enter Tryd.func7, Tryd.ntmps7
  go_wp2_with fail
  refine (small_any _ hX.2.1).mono ?_
  rintro e w1 ⟨rfl, hq⟩
  have hX := hX.q hq
  obtain ⟨c0, c1, c2, c3, c4, -⟩ := hX.held
  go_wp2_with fail
  refine (few5 _ _ _ _ _ _ _ ha hb hd he hf hr _).mono ?_
  rintro e w2 ⟨rfl, hq2⟩
  go_wp2
  go_ret
  exact ⟨rfl, Q.trans hX.1 hq2⟩

set_option maxRecDepth 100000 in
set_option maxHeartbeats 8000000 in
theorem refuses_in (k : Int) (seed plain : ByteArray) (a b : Int) (n d t : ByteArray) (w : World) (hT : Tab w) (hf : decide (seed.size + plain.size + n.size + d.size + t.size ≤ 2000) = true) (hk : k ≤ 9223372036854775807) (ha : a ≤ 9223372036854775807) (hb : b ≤ 9223372036854775807)
    (a' b' : Int) (n' d' t' p : ByteArray) (ok any : Bool) (hW : wrapI k seed plain = ((a', b', n', d', t'), ok)) (hU : unwrapI k (a, b, n, d, t) = (p, any))
    (hc : (ok = false ∧ k < 1 ∧ any = false ∧ p = ⟨#[]⟩) ∨ (ok = false ∧ ¬ k < 1 ∧ ¬ k < 2305843009213693951 ∧ any = false ∧ p = ⟨#[]⟩) ∨ (ok = true ∧ ¬ k < 1 ∧ k < 2305843009213693951 ∧ any = false ∧ p = ⟨#[]⟩) ∨
      (ok = true ∧ ¬ k < 1 ∧ k < 2305843009213693951 ∧ any = true ∧ k < 2305843009213693950 ∧ gexp 37 k = a ∧ 1 ≤ b ∧ b < 2305843009213693951)) :
    Calls Tryd.prog 7 #[.int .i64 k, .string seed, .string plain, .agg #[.int .i64 a, .int .i64 b, .string n, .string d, .string t]] w fun e w' => e = .returned (.bool true) ∧ Q w w' := by
  have hf' : seed.size + plain.size + n.size + d.size + t.size ≤ 2000 := by simpa using hf
  have hX := UwH.new w hT a b n d t
  rcases hc with ⟨rfl, g1, rfl, rfl⟩ | ⟨rfl, g1, g2, rfl, rfl⟩ | ⟨rfl, g1, g2, rfl, rfl⟩ | ⟨rfl, g1, g2, rfl, g3, hG, g4, g5⟩
  all_goals
    go_enter Tryd.func7, Tryd.ntmps7
    go_wp2_with fail
    refine (small_any _ hX.2.1).mono ?_
    rintro e w1 ⟨rfl, hq⟩
    have hX := hX.q hq
    obtain ⟨c0, c1, c2, c3, c4, -⟩ := hX.held
    go_wp2_with fail
    refine (few5 _ _ _ _ _ _ _ (by omega) (by omega) (by omega) (by omega) (by omega) hf _).mono ?_
    rintro e w2 ⟨rfl, hq2⟩
    have hX := hX.q hq2
    clear c0 c1 c2 c3 c4
    go_wp2_with fail
    refine (Wrap_at _ _ _ _ _ _ _ _ _ _ hW hX.2.1 hk (by omega) (by omega)).mono ?_
    rintro e w3 ⟨rfl, hq3⟩
    have hX := (hX.q hq3).q (q_new w3 #[.int .i64 a', .int .i64 b', .string n', .string d', .string t'] 25)
    obtain ⟨c0, c1, c2, c3, c4, -⟩ := hX.held
    clear hq hq2 hq3
    go_wp2_with fail
    refine (Unwrap_any _ _ _ _ _ _ _ _ _ hX.2.1 ha hb (by omega) hU).mono ?_
    rintro e w4 ⟨rfl, hq⟩
    have hX := hX.q hq
    clear c0 c1 c2 c3 c4 hq
    obtain ⟨c0, c1, c2, c3, c4, -⟩ := hX.held
  · go_wp2
    go_ret
    exact ⟨rfl, hX.1⟩
  · go_wp2
    go_ret
    exact ⟨rfl, hX.1⟩
  · go_wp2
    go_ret
    exact ⟨rfl, hX.1⟩
  · go_wp2_with fail
    go_region_held3 (fun w' => w'.cell? ⟨w.heap.size, 0, none⟩ = some (.int .i64 a) ∧ w'.cell? ⟨w.heap.size, 1, none⟩ = some (.int .i64 b) ∧ w'.cell? ⟨w.heap.size, 2, none⟩ = some (.string n) ∧ w'.cell? ⟨w.heap.size, 3, none⟩ = some (.string d) ∧ w'.cell? ⟨w.heap.size, 4, none⟩ = some (.string t) ∧ UwH w w' w.heap.size a b n d t)
      (first | exact (hX.q (Q.refl _).drew).held | exact UwH.step (by assumption) hq)
      (first
        | (go_at_call 30; refine (Exp_at _ _ _ _ hG (by omega) (by omega)).mono ?_; rintro e w' ⟨rfl, hq⟩))
    all_goals
      have hZ : Q w w' := by rename_i hh; exact hh.2.2.2.2.2.1
      go_wp2
      go_ret
      exact ⟨by first | rfl | simp, hZ⟩

theorem refuses_any (k : Int) (seed plain : ByteArray) (a b : Int) (n d t : ByteArray) (w : World) (hT : Tab w) (hk : k ≤ 9223372036854775807) (ha : a ≤ 9223372036854775807) (hb : b ≤ 9223372036854775807) (h1 : seed.size ≤ 281474976710656) (h2 : plain.size ≤ 281474976710656) (h3 : n.size ≤ 281474976710656) (h4 : d.size ≤ 281474976710656) (h5 : t.size ≤ 281474976710656) :
    Calls Tryd.prog 7 #[.int .i64 k, .string seed, .string plain, .agg #[.int .i64 a, .int .i64 b, .string n, .string d, .string t]] w fun e w' => e = .returned (.bool true) ∧ Q w w' := by
  by_cases h : seed.size + plain.size + n.size + d.size + t.size ≤ 2000
  · have hno : ∀ p, unwrapI k (a, b, n, d, t) = (p, false) → p = ⟨#[]⟩ := by
      intro p hp
      by_cases hu : unwrapOk k (a, b, n, d, t) = true
      · rw [unwrap_yes _ _ hu] at hp
        by_cases e : t = tagB (wkB a b (gexp b k)) n d
        · rw [open_yes (wkB a b (gexp b k)) (n, d, t) e] at hp
          cases hp
        · rw [open_no (wkB a b (gexp b k)) (n, d, t) e] at hp
          cases hp
          rfl
      · rw [unwrap_no _ _ (by simpa using hu)] at hp
        cases hp
        rfl
    have hyes : ∀ p, unwrapI k (a, b, n, d, t) = (p, true) → unwrapOk k (a, b, n, d, t) = true := by
      intro p hp
      by_cases hu : unwrapOk k (a, b, n, d, t) = true
      · exact hu
      · rw [unwrap_no _ _ (by simpa using hu)] at hp
        cases hp
    have hout : isPubI k = false → unwrapOk k (a, b, n, d, t) = false := by
      intro hp
      simp [isPubI] at hp
      simp [unwrapOk, isSecI]
      omega
    obtain ⟨p, any, hU⟩ : ∃ p any, unwrapI k (a, b, n, d, t) = (p, any) := ⟨_, _, rfl⟩
    by_cases hp : isPubI k = true
    · have hkb : 1 ≤ k ∧ k ≤ 2305843009213693950 := by simpa [isPubI] using hp
      cases any with
      | false => exact refuses_in k seed plain a b n d t w hT (by simpa using h) hk ha hb _ _ _ _ _ p true false (wrap_ok _ _ _ hp) hU (.inr (.inr (.inl ⟨rfl, by omega, by omega, rfl, hno p hU⟩)))
      | true =>
        have hu := hyes p hU
        simp [unwrapOk, isSecI, isPubI] at hu
        exact refuses_in k seed plain a b n d t w hT (by simpa using h) hk ha hb _ _ _ _ _ p true true (wrap_ok _ _ _ hp) hU (.inr (.inr (.inr ⟨rfl, by omega, by omega, rfl, by omega, by omega, by omega, by omega⟩)))
    · have hp' : isPubI k = false := by simpa using hp
      have hu := hout hp'
      have hkb : k < 1 ∨ (¬ k < 1 ∧ ¬ k < 2305843009213693951) := by
        simp [isPubI] at hp'
        omega
      have hf : any = false := by
        rw [unwrap_no _ _ hu] at hU
        cases hU
        rfl
      subst hf
      rcases hkb with g | ⟨g, g'⟩
      · exact refuses_in k seed plain a b n d t w hT (by simpa using h) hk ha hb _ _ _ _ _ p false false (wrap_no _ _ _ hp') hU (.inl ⟨rfl, g, rfl, hno p hU⟩)
      · exact refuses_in k seed plain a b n d t w hT (by simpa using h) hk ha hb _ _ _ _ _ p false false (wrap_no _ _ _ hp') hU (.inr (.inl ⟨rfl, g, g', rfl, hno p hU⟩))
  · exact refuses_out k seed plain a b n d t w hT h1 h2 h3 h4 h5 (by simpa using h)
end Go.Proofs.YtppbplchdfhnkaaDoor.Seal
