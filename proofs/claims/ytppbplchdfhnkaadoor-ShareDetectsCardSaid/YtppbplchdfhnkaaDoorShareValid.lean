/-
  The contract of package share's valid.
-/
import Derived.Test.YtppbplchdfhnkaaDoorShareWalk
import Derived.Maps.Own
import Derived.Maps.Views
set_option linter.unusedVariables false
set_option linter.unusedSimpArgs false
namespace Go.Proofs.YtppbplchdfhnkaaDoor.Share
open Go.RowKit Grp Mem

/-- What valid computes. -/
def validFrom : List Int → List (Int × Int) → Bool
  | _, [] => true
  | seen, s :: r => if s.1 < 1 ∨ 2305843009213693951 ≤ s.1 ∨ s.2 < 0 ∨ 2305843009213693951 ≤ s.2 ∨ s.1 ∈ seen then false else validFrom (s.1 :: seen) r
def validI (l : List (Int × Int)) : Bool := validFrom [] l

set_option maxRecDepth 100000 in
theorem wf_of {x : Int} (h0 : -9223372036854775808 ≤ x) (h1 : x ≤ 9223372036854775807) : (Lit.int .i64 x).wf = true := by
  simp [Lit.wf, IntKind.min, IntKind.max, IntKind.signed, IntKind.bits]
  omega
/-- The call's own map holds just the numbers seen. -/
def Seen (w : World) (b n : Nat) (seen : List Int) : Prop :=
  ∃ D : DataW Unit, w.ownsMap Tryd.prog 3 (plainElem Tryd.prog 4) b n D ∧ Maps.IsMap D ∧ ∀ x, D.atKey (.int .i64 x) (.lit (.bool false)) = .lit (.bool (decide (x ∈ seen)))
theorem Seen.made (w : World) : Seen (w.alloc (.map #[] 0)) w.heap.size 0 [] :=
  ⟨.map [], World.ownsMap_made w _ _ _, ⟨[], rfl⟩, fun x => rfl⟩
theorem Seen.drew {w : World} {b n : Nat} {seen : List Int} (h : Seen w b n seen) : Seen w.drew b n seen := by
  obtain ⟨D, h1, h2⟩ := h; exact ⟨D, h1.drew, h2⟩
theorem Seen.alloc {w : World} {b n : Nat} {seen : List Int} (h : Seen w b n seen) (o : Obj) : Seen (w.alloc o) b n seen := by
  obtain ⟨D, h1, h2⟩ := h; exact ⟨D, h1.alloc o, h2⟩
theorem plainBool_inv {H : Type} {P : Program} {t : TypeId} (he : P.underlying t = some .bool) {v : Value} {z : DataW H × List MemPlace} (h : plainElem P t v = some z) : ∃ x, v = .bool x ∧ z.1 = .lit (.bool x) := by
  unfold plainElem at h
  rw [he] at h
  cases v <;> simp at h
  subst h
  exact ⟨_, rfl, rfl⟩
set_option maxRecDepth 100000 in
theorem Seen.look {w : World} {b n : Nat} {seen : List Int} (h : Seen w b n seen) (x : Int) (h0 : -9223372036854775808 ≤ x) (h1 : x ≤ 9223372036854775807) :
    (Instr.lookup 111 (.map (some b)) (.int .i64 x) false).run Tryd.prog w = .ok (.bool (decide (x ∈ seen))) w := by
  obtain ⟨D, hown, hm, hat⟩ := h
  obtain ⟨v, ps, hrun, hv⟩ := hown.lookup (t := 111) (e := 4) (z := .bool false) (Maps.int_keyed Tryd.underlying3) Tryd.underlying111 (by kernel_rfl) (plainElem_bool Tryd.underlying4 false) (Maps.keyOf_int_mk Tryd.underlying3 (wf_of h0 h1))
  obtain ⟨y, rfl, hy⟩ := plainBool_inv Tryd.underlying4 hv
  dsimp only at hy
  rw [hat x] at hy
  have : decide (x ∈ seen) = y := by injection hy with h; injection h
  rw [hrun, this]
theorem Seen.put {w' : World} {b n : Nat} {seen : List Int} {D : DataW Unit} {x : Int} (hm : Maps.IsMap D) (hat : ∀ y, D.atKey (.int .i64 y) (.lit (.bool false)) = .lit (.bool (decide (y ∈ seen))))
    (hown : w'.ownsMap Tryd.prog 3 (plainElem Tryd.prog 4) b n (D.put (.int .i64 x) (.lit (.bool true)))) : Seen w' b n (x :: seen) := by
  refine ⟨_, hown, ?_, fun y => ?_⟩
  · obtain ⟨es, rfl⟩ := hm
    exact ⟨_, rfl⟩
  · by_cases e : y = x
    · subst e
      rw [Maps.atKey_put_same hm (show WideAt.IsKeyLit (.int .i64 y) from trivial)]
      simp
    · rw [Maps.atKey_put_other (by intro h; injection h with _ h; exact e h), hat y]
      simp [e]

set_option maxRecDepth 100000 in
set_option maxHeartbeats 4000000 in
theorem valid_any (A : Option Addr) (c : Nat) (l : List (Int × Int)) (w : World) (hS : Shares w A l) (hn : l.length ≤ 140737488355328) :
    Calls Tryd.prog 89 #[.slice A l.length c] w fun e w' => e = .returned (.bool (validI l)) ∧ Q w w' := by
  have hmm := @run_makeMap Tryd.prog
  go_enter Tryd.func89, Tryd.ntmps89
  go_wp2_with fail
  go_loopw [9] (fun i wr => ∃ (k n : Nat) (seen : List Int), i = .int .i64 k ∧ k ≤ l.length ∧ n ≤ k ∧ validI l = validFrom seen (l.drop k) ∧ Seen wr w.heap.size n seen ∧ Q w wr) (fun i _ => l.length - (intOf i).toNat)
  case atStart => exact ⟨0, 0, [], rfl, Nat.zero_le _, Nat.le_refl _, rfl, Seen.made w, Below.alloc (Q.refl w) (Nat.le_refl _) _⟩
  case round =>
    obtain ⟨k, n, seen, rfl, hk, hnk, hv, hseen, hq⟩ := hrel
    by_cases hlt : k < l.length
    · obtain ⟨b, o, rfl, hb, hc⟩ := (hS.q hq) (by omega)
      obtain ⟨c0, c1⟩ := hc k hlt
      rw [List.drop_eq_getElem_cons hlt] at hv
      rw [validFrom] at hv
      clear hc
      generalize l[k].1 = X at *
      generalize l[k].2 = Y at *
      have HV := Lib.hid hv
      clear hv
      have hseen2 := hseen.alloc (.cells #[.int .i64 X, .int .i64 Y] 61)
      by_cases h1 : X < 1 ∨ 2305843009213693951 ≤ X ∨ Y < 0 ∨ 2305843009213693951 ≤ Y
      · have hf : validI l = false := by rw [HV.out, if_pos (by omega)]
        have HF := Lib.hid hf
        clear HV hf
        have hcond : (decide (X < 1) || decide (2305843009213693951 ≤ X) || decide (Y < 0) || decide (2305843009213693951 ≤ Y)) = true := by simp; omega
        go_wp2
        all_goals
          go_ret
          exact ⟨by rw [HF.out]; rfl, Below.alloc hq hq.size _⟩
      · have g1 : ¬ X < 1 := by omega
        have g2 : ¬ 2305843009213693951 ≤ X := by omega
        have g3 : ¬ Y < 0 := by omega
        have g4 : ¬ 2305843009213693951 ≤ Y := by omega
        have hlk := hseen2.look X (by omega) (by omega)
        by_cases h5 : X ∈ seen
        · have hf : validI l = false := by rw [HV.out, if_pos (by simp [h5])]
          have HF := Lib.hid hf
          have hd : decide (X ∈ seen) = true := by simp [h5]
          rw [hd] at hlk
          clear HV hf
          go_wp2
          all_goals
            go_ret
            exact ⟨by rw [HF.out]; rfl, Below.alloc hq hq.size _⟩
        · have hf : validI l = validFrom (X :: seen) (l.drop (k + 1)) := by rw [HV.out, if_neg (by simp only [h5, or_false]; omega)]
          have HF := Lib.hid hf
          have hd : decide (X ∈ seen) = false := by simp [h5]
          rw [hd] at hlk
          clear HV hf
          obtain ⟨D, hown, hm, hat⟩ := hseen2
          have hkey := Maps.keyOf_int_mk (P := Tryd.prog) Tryd.underlying3 (wf_of (x := X) (by omega) (by omega))
          go_wp2_with (at_mapUpdate; refine wpList_mapUpdate_own _ rfl _ _ _ 111 rfl 3 4 (Maps.int_keyed Tryd.underlying3) Tryd.underlying111 _ w.heap.size n _ rfl hown (by simp only [maxLen]; omega) _ _ _ rfl rfl hkey _ [] (plainElem_bool Tryd.underlying4 true) ?_)
          intro w1 hown1 hgrow1
          have hseen1 : Seen w1 w.heap.size (n + 1) (X :: seen) := Seen.put hm hat hown1
          have hq1 : Q w w1 := Below.trans (Below.alloc hq hq.size _) (below_grown hgrow1 (by have := hq.size; simp; omega) (fun k e => by cases e; exact Nat.le_refl _))
          go_wp2
          exact ⟨⟨k + 1, n + 1, X :: seen, by go_num, by omega, by omega, HF.out, hseen1, hq1⟩, by simp only [intOf]; omega⟩
    · have hkl : k = l.length := by omega
      have hf : validI l = true := by rw [hv, hkl, List.drop_length]; rfl
      have HF := Lib.hid hf
      clear hv hf
      go_wp2
      go_ret
      exact ⟨by rw [HF.out]; rfl, hq⟩
end Go.Proofs.YtppbplchdfhnkaaDoor.Share
