/-
  What an argument's type gives: a slice of shares; a slice of integers.
-/
import Derived.Test.YtppbplchdfhnkaaDoorShareWalk
import Derived.Deep.SlicePairs
import Derived.ChangeSlices
import Derived.Test.YtppbplchdfhnkaaDoorOpen
set_option linter.unusedVariables false
set_option linter.unusedSimpArgs false
namespace Go.Proofs.YtppbplchdfhnkaaDoor.Share
open Go.RowKit Go.ChangeShapes Go.WideShapes Go.Deep Grp Mem

theorem okWide_slice {P : Program} {W : World} {r : Reach} {base : Nat} {t e : TypeId} {v : Value} (ht : P.underlying t = some (.slice e)) (h : Value.okWide P W r base t v) : ∃ A n c, v = .slice A n c := by
  simp only [Value.okWide, ht, Cell.okWide] at h
  cases v <;> simp_all [Cell.ok]
theorem spot_none {w : World} {a : Addr} {v : Value} (h : w.cell? a = some v) : ∃ b o, a = ⟨b, o, none⟩ ∧ b < w.heap.size := by
  obtain ⟨b, o, s⟩ := a
  unfold World.cell? at h
  dsimp only at h
  split at h
  · rename_i hh
    cases s with
    | none => exact ⟨b, o, rfl, (Array.getElem?_eq_some_iff.1 hh).1⟩
    | some x => simp at h
  · cases h
theorem add_lit0 (b o j : Nat) : (⟨b, o, none⟩ : Addr).add j = ⟨b, o + j, none⟩ := by unfold Addr.add; split <;> simp_all
theorem wf_bd {x : Int} (h : (Lit.int .i64 x).wf = true) : -9223372036854775808 ≤ x ∧ x ≤ 9223372036854775807 := by
  simp [Lit.wf, IntKind.min, IntKind.max, IntKind.signed, IntKind.bits] at h
  omega

/-- A slice of integers, in memory. -/
def Ints (w : World) (A : Option Addr) (l : List Int) : Prop := 0 < l.length → ∃ b o, A = some ⟨b, o, none⟩ ∧ b < w.heap.size ∧ ∀ j (h : j < l.length), w.cell? ⟨b, o + j, none⟩ = some (.int .i64 l[j])
theorem Ints.q {w w' : World} {A : Option Addr} {l : List Int} (h : Ints w A l) (hq : Q w w') : Ints w' A l := fun h0 => by
  obtain ⟨b, o, e, hb, hc⟩ := h h0
  exact ⟨b, o, e, Nat.lt_of_lt_of_le hb hq.size, fun j hj => (hq.cell (p := ⟨b, o + j, none⟩) hb).trans (hc j hj)⟩

theorem open_ints_arg {H : Type} {enc : TypeId × Value → H} {P : Program} {W : World} {r : Reach} {b0 base : Nat} {held : Bool} {t e : TypeId} {v : Value} {d : DataW H} {p : List MemPlace}
    (ht : P.underlying t = some (.slice e)) (he : P.underlying e = some (.int .i64)) (ce : P.cellsOf e = 1) (hval : Value.okWide P W r b0 t v) (h : DataW.Trod enc P W base (fun _ => true) held t v d p) :
    ∃ (A : Option Addr) (c : Nat) (l : List Int), v = .slice A l.length c ∧ l.length ≤ c ∧ c ≤ maxLen ∧ Ints W A l ∧ ∀ x ∈ l, -9223372036854775808 ≤ x ∧ x ≤ 9223372036854775807 := by
  obtain ⟨A, n, c, rfl⟩ := okWide_slice ht hval
  obtain ⟨fuel, hf⟩ := h
  rcases open_ints ht he ce hf with ⟨hc, -⟩ | ⟨a, len, cap, zs, hc, -, hl, hm, hz, -, hcell, hwf⟩
  · simp [Value.cells] at hc
    obtain ⟨rfl, rfl, rfl⟩ := hc
    exact ⟨none, 0, [], rfl, Nat.le_refl _, Nat.zero_le _, fun h => by simp at h, by simp⟩
  · simp [Value.cells] at hc
    obtain ⟨rfl, rfl, rfl⟩ := hc
    have hz' : zs.length = c := by simpa using hz
    have hlen : (zs.take n).length = n := by rw [List.length_take]; omega
    refine ⟨some a, c, zs.take n, by rw [hlen], by omega, hm, fun h0 => ?_, fun x hx => wf_bd (hwf x (List.mem_of_mem_take hx))⟩
    obtain ⟨b, o, rfl, hb⟩ := spot_none (hcell 0 (by omega))
    · refine ⟨b, o, rfl, hb, fun j hj => ?_⟩
      have := hcell j (by omega)
      rw [add_lit0, List.getD_eq_getElem?_getD, List.getElem?_eq_getElem (show j < zs.length by omega)] at this
      rw [this, List.getElem_take]
      rfl
theorem open_shares {H : Type} {enc : TypeId × Value → H} {P : Program} {W : World} {r : Reach} {b0 base : Nat} {held : Bool} {t e : TypeId} {f0 f1 : Field} {v : Value} {d : DataW H} {p : List MemPlace}
    (ht : P.underlying t = some (.slice e)) (he : P.underlying e = some (.struct #[f0, f1])) (ce : P.cellsOf e = 2) (o0 : f0.offset = 0) (o1 : f1.offset = 1) (c0 : P.cellsOf f0.type = 1) (c1 : P.cellsOf f1.type = 1)
    (t0 : P.underlying f0.type = some (.int .i64)) (t1 : P.underlying f1.type = some (.int .i64)) (hval : Value.okWide P W r b0 t v) (h : DataW.Trod enc P W base (fun _ => true) held t v d p) :
    ∃ (A : Option Addr) (c : Nat) (l : List (Int × Int)), v = .slice A l.length c ∧ l.length ≤ c ∧ c ≤ maxLen ∧ Shares W A l ∧ ∀ s ∈ l, (-9223372036854775808 ≤ s.1 ∧ s.1 ≤ 9223372036854775807) ∧ -9223372036854775808 ≤ s.2 ∧ s.2 ≤ 9223372036854775807 := by
  obtain ⟨A, n, c, rfl⟩ := okWide_slice ht hval
  obtain ⟨fuel, hf⟩ := h
  rcases open_slice_pairs ht he ce o0 o1 c0 c1 hf with ⟨hc, -⟩ | ⟨a, len, cap, m, k, V0, V1, D0, D1, P0, P1, hc, -, hl, hcm, hm, -, hi⟩
  · simp [Value.cells] at hc
    obtain ⟨rfl, rfl, rfl⟩ := hc
    exact ⟨none, 0, [], rfl, Nat.le_refl _, Nat.zero_le _, fun h => by simp at h, by simp⟩
  · simp [Value.cells] at hc
    obtain ⟨rfl, rfl, rfl⟩ := hc
    have hm' : m = c := by simpa using hm
    have each : ∀ i, i < n → ∃ q : Int × Int, W.cell? (a.add (i * 2)) = some (.int .i64 q.1) ∧ W.cell? (a.add (i * 2 + 1)) = some (.int .i64 q.2) ∧ (-9223372036854775808 ≤ q.1 ∧ q.1 ≤ 9223372036854775807) ∧ -9223372036854775808 ≤ q.2 ∧ q.2 ≤ 9223372036854775807 := by
      intro i hin
      obtain ⟨h0, h1, h2, h3⟩ := hi i (by omega)
      obtain ⟨x, hx, -, wx⟩ := DataW.trod_int t0 h2
      obtain ⟨y, hy, -, wy⟩ := DataW.trod_int t1 h3
      simp only [List.cons.injEq, and_true] at hx hy
      rw [hx] at h0
      rw [hy] at h1
      exact ⟨(x, y), h0, h1, wf_bd wx, wf_bd wy⟩
    obtain ⟨f, hfq⟩ := choose_lt each
    have hlen : ((List.range n).map f).length = n := by simp
    refine ⟨some a, c, (List.range n).map f, by rw [hlen], by omega, hcm, fun h0 => ?_, fun s hs => ?_⟩
    · have hn0 : 0 < n := by omega
      obtain ⟨b, o, rfl, hb⟩ := spot_none (by have := (hfq 0 hn0).1; simpa [Addr.add] using this)
      refine ⟨b, o, rfl, hb, fun j hj => ?_⟩
      obtain ⟨h1, h2, -⟩ := hfq j (by omega)
      rw [add_lit0] at h1 h2
      simp only [List.getElem_map, List.getElem_range]
      exact ⟨h1, by rw [Nat.add_assoc]; exact h2⟩
    · obtain ⟨j, hj, rfl⟩ := List.mem_map.1 hs
      exact (hfq j (List.mem_range.1 hj)).2.2
end Go.Proofs.YtppbplchdfhnkaaDoor.Share
