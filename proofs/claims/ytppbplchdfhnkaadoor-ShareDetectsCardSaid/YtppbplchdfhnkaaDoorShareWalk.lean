/-
  The contracts of package share's value.
-/
import Derived.Test.YtppbplchdfhnkaaDoorShareNum
import Derived.Test.YtppbplchdfhnkaaDoorRow
import Derived.Deep.RegionHeld3
set_option linter.unusedVariables false
set_option linter.unusedSimpArgs false
namespace Go.Proofs.YtppbplchdfhnkaaDoor.Share
open Go.RowKit Grp Mem

/-- A slice of shares, in memory. -/
def Shares (w : World) (A : Option Addr) (l : List (Int × Int)) : Prop := 0 < l.length → ∃ b o, A = some ⟨b, o, none⟩ ∧ b < w.heap.size ∧ ∀ j (h : j < l.length), w.cell? ⟨b, o + j * 2, none⟩ = some (.int .i64 l[j].1) ∧ w.cell? ⟨b, o + j * 2 + 1, none⟩ = some (.int .i64 l[j].2)
theorem Shares.q {w w' : World} {A : Option Addr} {l : List (Int × Int)} (h : Shares w A l) (hq : Q w w') : Shares w' A l := fun h0 => by
  obtain ⟨b, o, e, hb, hc⟩ := h h0
  exact ⟨b, o, e, Nat.lt_of_lt_of_le hb hq.size, fun j hj => ⟨(hq.cell (p := ⟨b, o + j * 2, none⟩) hb).trans (hc j hj).1, (hq.cell (p := ⟨b, o + j * 2 + 1, none⟩) hb).trans (hc j hj).2⟩⟩

theorem val_step (l : List (Int × Int)) (j : Nat) (h : j < l.length) (x : Int) : val (l.drop j) x = gadd (gmul (val (l.drop (j + 1)) x) (gsub x l[j].1)) l[j].2 := by
  rw [List.drop_eq_getElem_cons h]
  rfl

/-- Two cells are kept. -/
def Pr (w0 w : World) (b i j : Nat) (u v : Int) : Prop := b < w.heap.size ∧ Q w0 w ∧ w.cell? ⟨b, i, none⟩ = some (.int .i64 u) ∧ w.cell? ⟨b, j, none⟩ = some (.int .i64 v)
theorem Pr.q {w0 w w' : World} {b i j : Nat} {u v : Int} (h : Pr w0 w b i j u v) (hq : Q w w') : Pr w0 w' b i j u v := ⟨Nat.lt_of_lt_of_le h.1 hq.size, Q.trans h.2.1 hq, (hq.cell (p := ⟨b, i, none⟩) h.1).trans h.2.2.1, (hq.cell (p := ⟨b, j, none⟩) h.1).trans h.2.2.2⟩
theorem Pr.held {w0 w : World} {b i j : Nat} {u v : Int} (h : Pr w0 w b i j u v) : w.cell? ⟨b, i, none⟩ = some (.int .i64 u) ∧ w.cell? ⟨b, j, none⟩ = some (.int .i64 v) ∧ Pr w0 w b i j u v := ⟨h.2.2.1, h.2.2.2, h⟩
theorem Pr.step {w0 w w' : World} {b i j : Nat} {u v : Int} (h : w.cell? ⟨b, i, none⟩ = some (.int .i64 u) ∧ w.cell? ⟨b, j, none⟩ = some (.int .i64 v) ∧ Pr w0 w b i j u v) (hq : Q w w') : w'.cell? ⟨b, i, none⟩ = some (.int .i64 u) ∧ w'.cell? ⟨b, j, none⟩ = some (.int .i64 v) ∧ Pr w0 w' b i j u v := (h.2.2.q hq).held

set_option maxRecDepth 100000 in
set_option maxHeartbeats 2000000 in
theorem value_any (A : Option Addr) (c : Nat) (l : List (Int × Int)) (x : Int) (w : World) (hS : Shares w A l) (hn : l.length ≤ 140737488355328) :
    Calls Tryd.prog 90 #[.slice A l.length c, .int .i64 x] w fun e w' => e = .returned (.int .i64 (val l x)) ∧ Q w w' := by
  go_enter Tryd.func90, Tryd.ntmps90
  go_wp2_with fail
  go_loopw [5, 6] (fun y i wr => ∃ (k : Int), i = .int .i64 k ∧ -1 ≤ k ∧ k < l.length ∧ y = .int .i64 (val (l.drop (k + 1).toNat) x) ∧ Q w wr) (fun _ i _ => (intOf i + 1).toNat)
  case atStart =>
    refine ⟨(l.length : Int) - 1, rfl, by omega, by omega, ?_, Q.refl _⟩
    have : ((l.length : Int) - 1 + 1).toNat = l.length := by omega
    rw [this, List.drop_length]
    rfl
  case round =>
    obtain ⟨k, rfl, hk0, hk, rfl, hq⟩ := hrel
    by_cases h0 : 0 ≤ k
    · have hj : k.toNat < l.length := by omega
      obtain ⟨b, o, rfl, hb, hc⟩ := (hS.q hq) (by omega)
      obtain ⟨c0, c1⟩ := hc k.toNat hj
      have hv := val_step l k.toNat hj x
      have e1 : (k + 1).toNat = k.toNat + 1 := by omega
      have e2 : (k - 1 + 1).toNat = k.toNat := by omega
      have hP : Pr w wr b (o + k.toNat * 2) (o + k.toNat * 2 + 1) l[k.toNat].1 l[k.toNat].2 := ⟨hb, hq, c0, c1⟩
      have hv' : val (l.drop (k - 1 + 1).toNat) x = gadd (gmul (val (l.drop (k + 1).toNat) x) (gsub x l[k.toNat].1)) l[k.toNat].2 := by rw [e2, e1]; exact hv
      have HV := Lib.hid hv'
      clear hv hv' e1 e2 hc
      generalize l[k.toNat].1 = X at *
      generalize l[k.toNat].2 = Y at *
      generalize val (l.drop (k + 1).toNat) x = V at *
      go_wp2_with fail
      go_region_held3 (fun w' => w'.cell? ⟨b, o + k.toNat * 2, none⟩ = some (.int .i64 X) ∧ w'.cell? ⟨b, o + k.toNat * 2 + 1, none⟩ = some (.int .i64 Y) ∧ Pr w w' b (o + k.toNat * 2) (o + k.toNat * 2 + 1) X Y)
        (first | exact (hP.q (Q.refl _).drew).held | (with_reducible assumption) | exact Pr.step (by assumption) hq)
        (first
          | (go_at_call 47; refine (Sub_any _ _ _).mono ?_; rintro e w' ⟨rfl, rfl⟩)
          | (go_at_call 48; refine (Mul_any _ _ _).mono ?_; rintro e w' ⟨rfl, hq⟩)
          | (go_at_call 49; refine (Add_any _ _ _).mono ?_; rintro e w' ⟨rfl, rfl⟩))
      all_goals
        go_wp2
        exact ⟨⟨k - 1, rfl, by omega, by omega, by rw [HV.out], by rename_i hh; exact hh.2.2.2.1⟩, by simp only [intOf]; omega⟩
    · obtain rfl : k = -1 := by omega
      go_wp2
      go_ret
      exact ⟨rfl, hq⟩
end Go.Proofs.YtppbplchdfhnkaaDoor.Share
