/-
  The contracts of package agoraref07's Same and Valid.
-/
import Derived.Test.YtppbplchdfhnkaaDoorShareJoin
import Derived.BigQuiet
import Derived.Deep.RegionHeld3
import Derived.Laws.StructEq
set_option linter.unusedVariables false
set_option linter.unusedSimpArgs false
namespace Go.Proofs.YtppbplchdfhnkaaDoor.Share
open Go.RowKit Grp Mem

open Go.Op Go.Instr in
theorem shareNe (x y x' y' : Int) (w : World) : (binOp .neq 61 (.agg #[.int .i64 x, .int .i64 y]) (.agg #[.int .i64 x', .int .i64 y'])).run Tryd.prog w = .ok (.bool (!(decide (x = x') && decide (y = y')))) w := by
  have u3 := Tryd.underlying3
  have a3 := Tryd.isAgg3
  have z3 := Tryd.sizeOf3
  have hS : Tryd.prog.underlying 61 = some (.struct (Tryd.prog.fieldsOf 61)) := by kernel_rfl
  have hp : Tryd.prog.stoodInHeld 61 = false := by kernel_rfl
  rw [run_neq_struct, show (10000 : Nat) = 9999 + 1 from rfl, run_equalIn_agg w 9999 61 _ _ hS hp]
  simp only [Program.fieldsOf, Tryd.underlying61]
  go_simp
  by_cases h1 : x = x' <;> by_cases h2 : y = y' <;> simp [h1, h2]
theorem shareGuard (op : BinOp) (a b : Operand) (xs ys : Array Value) (w : World) : (eqGuard op 61 a b (.agg xs) (.agg ys)).run Tryd.prog w = .ok () w := run_eqGuard_agg w op _ _ _ _ _ (by kernel_rfl)

theorem shares_at {w : World} {A : Option Addr} {l : List (Int × Int)} (h : Shares w A l) (k : Nat) (hk : k < l.length) : ∃ b o, A = some ⟨b, o, none⟩ ∧ w.cell? ⟨b, o + k * 2, none⟩ = some (.int .i64 l[k].1) ∧ w.cell? ⟨b, o + k * 2 + 1, none⟩ = some (.int .i64 l[k].2) := by
  obtain ⟨b, o, e, hb, hc⟩ := h (by omega)
  exact ⟨b, o, e, (hc k hk).1, (hc k hk).2⟩

set_option maxRecDepth 100000 in
set_option maxHeartbeats 2000000 in
theorem Same_any (A B : Option Addr) (c d : Nat) (l m : List (Int × Int)) (w : World) (hl : Shares w A l) (hm : Shares w B m) (hln : l.length ≤ 140737488355328) (hmn : m.length ≤ 140737488355328) :
    Calls Tryd.prog 38 #[.slice A l.length c, .slice B m.length d] w fun e w' => e = .returned (.bool (decide (l = m))) ∧ Q w w' := by
  have hNe := shareNe
  have hG := shareGuard
  by_cases hlen : l.length = m.length
  · have hnb : ((l.length : Int) != (m.length : Int)) = false := by simp [hlen]
    go_enter Tryd.func38, Tryd.ntmps38
    go_wp2_with fail
    go_loopw [5] (fun i wr => ∃ k q : Nat, i = .int .i64 k ∧ k ≤ l.length ∧ l.take k = m.take k ∧ wr = w.drewN q) (fun i _ => l.length - (intOf i).toNat)
    case atStart => exact ⟨0, 0, rfl, Nat.zero_le _, rfl, rfl⟩
    case round =>
      obtain ⟨k, q, rfl, hk, htk, rfl⟩ := hrel
      by_cases hlt : k < l.length
      · obtain ⟨b, o, rfl, c0, c1⟩ := shares_at (hl.q (below_drewN (Q.refl w) q)) k hlt
        obtain ⟨b', o', rfl, d0, d1⟩ := shares_at (hm.q (below_drewN (Q.refl w) q)) k (by omega)
        have hkm : (k : Int) < (m.length : Int) := by omega
        have hk0 : (0 : Int) ≤ (k : Int) := by omega
        by_cases he : l[k] = m[k]'(by omega)
        · have hst : l.take (k + 1) = m.take (k + 1) := by
            rw [List.take_succ_eq_append_getElem hlt, List.take_succ_eq_append_getElem (show k < m.length by omega), htk, he]
          rw [← he] at d0 d1
          have HST := Lib.hid hst
          clear hst he htk
          generalize l[k].1 = X at *
          generalize l[k].2 = Y at *
          go_wp2_with fail
          go_region_held3 (fun w' => w'.cell? ⟨b, o + k * 2, none⟩ = some (.int .i64 X) ∧ w'.cell? ⟨b, o + k * 2 + 1, none⟩ = some (.int .i64 Y) ∧ w'.cell? ⟨b', o' + k * 2, none⟩ = some (.int .i64 X) ∧ w'.cell? ⟨b', o' + k * 2 + 1, none⟩ = some (.int .i64 Y)) (first | exact ⟨c0, c1, d0, d1⟩ | (with_reducible assumption)) (fail)
          go_wp2
          exact ⟨⟨k + 1, q + 1, by go_num, by omega, HST.out, rfl⟩, by simp only [intOf]; omega⟩
        · have hf : decide (l = m) = false := by
            simp only [decide_eq_false_iff_not]
            intro h
            subst h
            exact he rfl
          have HF := Lib.hid hf
          have hne : (!(decide (l[k].1 = (m[k]'(by omega)).1) && decide (l[k].2 = (m[k]'(by omega)).2))) = true := by
            simp only [Bool.not_eq_true', Bool.and_eq_false_iff, decide_eq_false_iff_not]
            by_cases e1 : l[k].1 = (m[k]'(by omega)).1
            · right; intro e2; exact he (Prod.ext e1 e2)
            · left; exact e1
          have hNe2 := fun W => hNe l[k].1 l[k].2 (m[k]'(by omega)).1 (m[k]'(by omega)).2 W
          simp only [hne] at hNe2
          clear hf he htk hNe hne
          generalize l[k].1 = X at *
          generalize l[k].2 = Y at *
          generalize (m[k]'(by omega)).1 = X' at *
          generalize (m[k]'(by omega)).2 = Y' at *
          go_wp2_with fail
          go_region_held3 (fun w' => w'.cell? ⟨b, o + k * 2, none⟩ = some (.int .i64 X) ∧ w'.cell? ⟨b, o + k * 2 + 1, none⟩ = some (.int .i64 Y) ∧ w'.cell? ⟨b', o' + k * 2, none⟩ = some (.int .i64 X') ∧ w'.cell? ⟨b', o' + k * 2 + 1, none⟩ = some (.int .i64 Y')) (first | exact ⟨c0, c1, d0, d1⟩ | (with_reducible assumption)) (fail)
          go_wp2
          go_ret
          exact ⟨by rw [HF.out]; rfl, (below_drewN (Q.refl w) q).drew⟩
      · have ht : decide (l = m) = true := by
          rw [show k = l.length by omega, List.take_length, hlen, List.take_length] at htk
          simp [htk]
        have HT := Lib.hid ht
        clear ht htk
        go_wp2
        go_ret
        exact ⟨by rw [HT.out]; rfl, below_drewN (Q.refl w) _⟩
  · have hnb : ((l.length : Int) != (m.length : Int)) = true := by rw [bne_iff_ne]; omega
    have hf : decide (l = m) = false := by
      simp only [decide_eq_false_iff_not]
      intro h
      exact hlen (by rw [h])
    rw [hf]
    go_enter Tryd.func38, Tryd.ntmps38
    go_wp2
    go_ret
    exact ⟨rfl, Q.refl _⟩
end Go.Proofs.YtppbplchdfhnkaaDoor.Share
