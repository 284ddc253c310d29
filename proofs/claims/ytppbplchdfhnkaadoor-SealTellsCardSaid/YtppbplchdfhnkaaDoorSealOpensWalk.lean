/-
  The walk of agoralaw06.SealOpens.
-/
import Derived.Test.YtppbplchdfhnkaaDoorSealSmall
set_option linter.unusedVariables false
set_option linter.unusedSimpArgs false
namespace Go.Proofs.YtppbplchdfhnkaaDoor.Seal
open Go.RowKit Grp Mem _root_.Go.Proofs.YtppbplchdfhnkaaDoor.Code Sha
open Sign (q_new Strs.of)

theorem str_iff (a b : ByteArray) : (a.toList = b.toList) = (a = b) := propext ⟨fun h => Decidable.byContradiction fun hn => str_ne hn h, fun h => congrArg _ h⟩
open Go.Op Go.Instr in
theorem boxEq (x y z x' y' z' : ByteArray) (w : World) : (binOp .eql 23 (.agg #[.string x, .string y, .string z]) (.agg #[.string x', .string y', .string z'])).run Tryd.prog w = .ok (.bool (decide (x = x') && (decide (y = y') && decide (z = z')))) w := by
  have u3 := Tryd.underlying9
  have a3 := Tryd.isAgg9
  have z3 := Tryd.sizeOf9
  have hS : Tryd.prog.underlying 23 = some (.struct (Tryd.prog.fieldsOf 23)) := by kernel_rfl
  have hp : Tryd.prog.stoodInHeld 23 = false := by kernel_rfl
  rw [run_eql_struct, show (10000 : Nat) = 9999 + 1 from rfl, run_equalIn_agg w 9999 23 _ _ hS hp]
  simp only [Program.fieldsOf, Tryd.underlying23]
  go_simp
  simp only [str_iff]
  by_cases h1 : x = x' <;> by_cases h2 : y = y' <;> by_cases h3 : z = z' <;> simp [h1, h2, h3]
theorem few6 (a b c d e f : ByteArray) (w : World) (r : Bool) (ha : a.size ≤ 281474976710656) (hb : b.size ≤ 281474976710656) (hc : c.size ≤ 281474976710656) (hd : d.size ≤ 281474976710656) (he : e.size ≤ 281474976710656) (hf : f.size ≤ 281474976710656) (hr : decide (a.size + b.size + c.size + d.size + e.size + f.size ≤ 2000) = r) (t : TypeId) :
    Calls Tryd.prog 21 #[.slice (some ⟨w.heap.size, 0, none⟩) 6 6] (w.alloc (.cells #[.string a, .string b, .string c, .string d, .string e, .string f] t)) fun e w' => e = .returned (.bool r) ∧ Q w w' :=
  few_new [a, b, c, d, e, f] 6 _ t w r rfl rfl (by decide) (by simp; omega) (by rw [← hr]; simp [Nat.add_assoc])

theorem Seal_box {w0 w : World} {g : Nat} {n d t : ByteArray} (key nonce plain x y z : ByteArray) (h : w.cell? ⟨g, 0, none⟩ = some (.string n) ∧ w.cell? ⟨g, 1, none⟩ = some (.string d) ∧ w.cell? ⟨g, 2, none⟩ = some (.string t) ∧ BoxH w0 w g n d t) (hr : sealB key nonce plain = (x, y, z)) (hz : key.size + nonce.size + plain.size ≤ 140737488355000) :
    Calls Tryd.prog 28 #[.string key, .string nonce, .string plain] w fun e w' => e = .returned (.agg #[.string x, .string y, .string z]) ∧ Q w w' := Seal_at key nonce plain x y z w hr h.2.2.2.2.1 hz

set_option maxHeartbeats 2000000 in
theorem opens_out (key nonce plain n d t : ByteArray) (w : World) (hT : Tab w) (ha : key.size ≤ 281474976710656) (hb : nonce.size ≤ 281474976710656) (hc : plain.size ≤ 281474976710656) (hd : n.size ≤ 281474976710656) (he : d.size ≤ 281474976710656) (hf : t.size ≤ 281474976710656) (hr : decide (key.size + nonce.size + plain.size + n.size + d.size + t.size ≤ 2000) = false) :
    Calls Tryd.prog 4 #[.string key, .string nonce, .string plain, .agg #[.string n, .string d, .string t]] w fun e w' => e = .returned (.bool true) ∧ Q w w' := by
  have hX := BoxH.new w hT n d t
  go_enter Tryd.func4, Tryd.ntmps4
  go_wp2_with fail
  refine (small_any _ hX.2.1).mono ?_
  rintro e w1 ⟨rfl, hq⟩
  have hX := hX.q hq
  obtain ⟨c0, c1, c2, -⟩ := hX.held
  go_wp2_with fail
  refine (few6 _ _ _ _ _ _ _ _ ha hb hc hd he hf hr _).mono ?_
  rintro e w2 ⟨rfl, hq2⟩
  go_wp2
  go_ret
  exact ⟨rfl, Q.trans hX.1 hq2⟩

set_option maxRecDepth 100000 in
set_option maxHeartbeats 8000000 in
theorem opens_in (key nonce plain n d t : ByteArray) (w : World) (hT : Tab w) (hf : decide (key.size + nonce.size + plain.size + n.size + d.size + t.size ≤ 2000) = true) (D T p3 p : ByteArray) (is3 any : Bool)
    (hS : sealB key nonce plain = (nonce, D, T)) (hO : openB key (nonce, D, T) = (plain, true)) (hD : (D.size : Int) = (plain.size : Int)) (hT16 : (T.size : Int) = 16) (hO3 : openB key (nonce, D, t) = (p3, is3)) (ht : (t.toList == T.toList) = is3)
    (hO4 : openB key (n, d, t) = (p, any)) (hp : p.size ≤ 2000) (hany : (any = false ∧ p = ⟨#[]⟩) ∨ (any = true ∧ sealB key n p = (n, d, t))) :
    Calls Tryd.prog 4 #[.string key, .string nonce, .string plain, .agg #[.string n, .string d, .string t]] w fun e w' => e = .returned (.bool true) ∧ Q w w' := by
  have hf' : key.size + nonce.size + plain.size + n.size + d.size + t.size ≤ 2000 := by simpa using hf
  have hEq := boxEq
  have hX := BoxH.new w hT n d t
  go_enter Tryd.func4, Tryd.ntmps4
  go_wp2_with fail
  refine (small_any _ hX.2.1).mono ?_
  rintro e w1 ⟨rfl, hq⟩
  have hX := hX.q hq
  obtain ⟨c0, c1, c2, -⟩ := hX.held
  go_wp2_with fail
  refine (few6 _ _ _ _ _ _ _ _ (by omega) (by omega) (by omega) (by omega) (by omega) (by omega) hf _).mono ?_
  rintro e w2 ⟨rfl, hq2⟩
  have hX := hX.q hq2
  clear c0 c1 c2
  go_wp2_with fail
  refine (Seal_at _ _ _ _ _ _ _ hS hX.2.1 (by omega)).mono ?_
  rintro e w3 ⟨rfl, hq3⟩
  have hX := hX.q hq3
  have hY : BoxH w (w3.alloc (.cells #[.string nonce, .string D, .string T] 23)) w3.heap.size nonce D T := ⟨Q.trans hX.1 (q_new _ _ _), hX.2.1.q (q_new _ _ _), Blk.new _ _ _⟩
  have hX := hX.q (q_new w3 #[.string nonce, .string D, .string T] 23)
  clear hq hq2 hq3
  obtain ⟨e0, e1, e2, -⟩ := hY.held
  go_wp2_with fail
  refine (Open_at _ _ _ _ _ _ _ hO hX.2.1 (by omega)).mono ?_
  rintro e w4 ⟨rfl, hq⟩
  have hX := hX.q hq
  have hY := hY.q hq
  clear e0 e1 e2 hq
  obtain ⟨e0, e1, e2, -⟩ := hY.held
  obtain ⟨c0, c1, c2, -⟩ := hX.held
  go_wp2_with fail
  refine (Open_at _ _ _ _ _ _ _ hO3 hX.2.1 (by omega)).mono ?_
  rintro e w5 ⟨rfl, hq⟩
  have hX := hX.q hq
  have hY := hY.q hq
  clear e0 e1 e2 c0 c1 c2 hq
  obtain ⟨e0, e1, e2, -⟩ := hY.held
  obtain ⟨c0, c1, c2, -⟩ := hX.held
  have hBoth : ∀ b : Bool, (!(b == b)) = false := by decide
  go_wp2_with fail
  refine (Open_at _ _ _ _ _ _ _ hO4 hX.2.1 (by omega)).mono ?_
  rintro e w6 ⟨rfl, hq⟩
  have hX := hX.q hq
  clear e0 e1 e2 c0 c1 c2 hq hY
  obtain ⟨c0, c1, c2, -⟩ := hX.held
  rcases hany with ⟨rfl, rfl⟩ | ⟨rfl, hs⟩
  · go_wp2
    go_ret
    exact ⟨rfl, hX.1⟩
  · go_wp2_with fail
    go_region_held3 (fun w' => w'.cell? ⟨w.heap.size, 0, none⟩ = some (.string n) ∧ w'.cell? ⟨w.heap.size, 1, none⟩ = some (.string d) ∧ w'.cell? ⟨w.heap.size, 2, none⟩ = some (.string t) ∧ BoxH w w' w.heap.size n d t)
      (first | exact (hX.q (Q.refl _).drew).held | exact BoxH.step (by assumption) hq)
      (first
        | (go_at_call 28; refine (Seal_box _ _ _ _ _ _ (by assumption) hs (by omega)).mono ?_; rintro e w' ⟨rfl, hq⟩))
    all_goals
      have hZ : Q w w' := by rename_i hh; exact hh.2.2.2.1
      go_wp2
      go_ret
      exact ⟨by first | rfl | simp, hZ⟩

theorem opens_any (key nonce plain n d t : ByteArray) (w : World) (hT : Tab w) (ha : key.size ≤ 281474976710656) (hb : nonce.size ≤ 281474976710656) (hc : plain.size ≤ 281474976710656) (hd : n.size ≤ 281474976710656) (he : d.size ≤ 281474976710656) (hf : t.size ≤ 281474976710656) :
    Calls Tryd.prog 4 #[.string key, .string nonce, .string plain, .agg #[.string n, .string d, .string t]] w fun e w' => e = .returned (.bool true) ∧ Q w w' := by
  by_cases h : key.size + nonce.size + plain.size + n.size + d.size + t.size ≤ 2000
  · have hms := maskB_size key nonce plain
    have hts := tagB_size key nonce (maskB key nonce plain)
    have hO := open_seal key nonce plain
    have hm4 := maskB_size key n d
    obtain ⟨p3, is3, h3⟩ : ∃ p3 is3, openB key (nonce, maskB key nonce plain, t) = (p3, is3) := ⟨_, _, rfl⟩
    have h3' := open_tag key nonce (maskB key nonce plain) t
    rw [h3] at h3'
    have ht : (t.toList == (tagB key nonce (maskB key nonce plain)).toList) = is3 := by
      rw [show is3 = decide (t = tagB key nonce (maskB key nonce plain)) from h3']
      by_cases e : t = tagB key nonce (maskB key nonce plain)
      · simp [e]
      · have := str_ne e
        simp [e, this]
    by_cases e : t = tagB key n d
    · exact opens_in key nonce plain n d t w hT (by simpa using h) _ _ p3 (maskB key n d) is3 true rfl hO (by rw [hms]) (by rw [hts]; rfl) h3 ht (open_yes key (n, d, t) e) (by rw [hm4]; omega) (.inr ⟨rfl, seal_open key (n, d, t) e⟩)
    · exact opens_in key nonce plain n d t w hT (by simpa using h) _ _ p3 ⟨#[]⟩ is3 false rfl hO (by rw [hms]) (by rw [hts]; rfl) h3 ht (open_no key (n, d, t) e) (by decide) (.inl ⟨rfl, rfl⟩)
  · exact opens_out key nonce plain n d t w hT ha hb hc hd he hf (by simpa using h)
end Go.Proofs.YtppbplchdfhnkaaDoor.Seal
