/-
  What an argument's type gives: a struct of two integers and a struct of three strings (api.Wrap).
-/
import Derived.Test.YtppbplchdfhnkaaDoorSealArgs
set_option linter.unusedVariables false
set_option linter.unusedSimpArgs false
namespace Go.Proofs.YtppbplchdfhnkaaDoor.Seal
open Go.ChangeMaps (open_string)
open _root_.Go.Proofs.YtppbplchdfhnkaaDoor.Code (ba_length)

theorem open_wrap {H : Type} {enc : TypeId × Value → H} {P : Program} {W : World} {r : Reach} {b0 base : Nat} {held : Bool} {sp : Nat → Bool} {t : TypeId} {f0 f1 f2 g0 g1 g2 : Field} {v : Value} {d : DataW H} {p : List MemPlace}
    (ht : P.underlying t = some (.struct #[g0, g1, g2])) (ct : P.cellsOf t = 5) (p0 : g0.offset = 0) (p1 : g1.offset = 1) (p2 : g2.offset = 2) (k0 : P.cellsOf g0.type = 1) (k1 : P.cellsOf g1.type = 1) (k2 : P.cellsOf g2.type = 3)
    (i0 : P.underlying g0.type = some (.int .i64)) (i1 : P.underlying g1.type = some (.int .i64)) (hu : P.underlying g2.type = some (.struct #[f0, f1, f2])) (o0 : f0.offset = 0) (o1 : f1.offset = 1) (o2 : f2.offset = 2) (c0 : P.cellsOf f0.type = 1) (c1 : P.cellsOf f1.type = 1) (c2 : P.cellsOf f2.type = 1)
    (t0 : P.underlying f0.type = some .string) (t1 : P.underlying f1.type = some .string) (t2 : P.underlying f2.type = some .string) (hval : Value.okWide P W r b0 t v) (h : DataW.Trod enc P W base sp held t v d p) :
    ∃ (x y : Int) (a b c : ByteArray), v = .agg #[.int .i64 x, .int .i64 y, .string a, .string b, .string c] ∧ d = .agg [.lit (.int .i64 x), .lit (.int .i64 y), .agg [.lit (.string a.data.toList), .lit (.string b.data.toList), .lit (.string c.data.toList)]] ∧ (-9223372036854775808 ≤ x ∧ x ≤ 9223372036854775807) ∧ -9223372036854775808 ≤ y ∧ y ≤ 9223372036854775807 := by
  simp only [Value.okWide, ht] at hval
  obtain ⟨cs, rfl, hsz, -⟩ := hval
  obtain ⟨fuel, hf⟩ := h
  obtain ⟨xs, n, -, hx, hl, hlen, hi⟩ := DataW.trod_struct ht hf
  rw [ct] at hsz
  obtain ⟨l⟩ := cs
  match l, hsz, xs, hlen with
  | [w0, w1, u0, u1, u2], _, [z0, z1, z2], _ =>
    have j0 := hi 0 g0 rfl
    have j1 := hi 1 g1 rfl
    have j2 := hi 2 g2 rfl
    rw [p0, k0] at j0
    rw [p1, k1] at j1
    rw [p2, k2] at j2
    obtain ⟨x, hx0, hzx, wx⟩ := DataW.trod_int i0 j0
    obtain ⟨y, hy0, hzy, wy⟩ := DataW.trod_int i1 j1
    obtain ⟨ys, m, -, hy, -, hlen2, hi2⟩ := DataW.trod_struct hu j2
    match ys, hlen2 with
    | [y0, y1, y2], _ =>
      have h0 := hi2 0 f0 rfl
      have h1 := hi2 1 f1 rfl
      have h2 := hi2 2 f2 rfl
      rw [o0, c0] at h0
      rw [o1, c1] at h1
      rw [o2, c2] at h2
      obtain ⟨a, ha, hya, -⟩ := DataW.trod_string t0 h0
      obtain ⟨b, hb, hyb, -⟩ := DataW.trod_string t1 h1
      obtain ⟨c, hc, hyc, -⟩ := DataW.trod_string t2 h2
      simp [Value.cells] at hx0 hy0 ha hb hc
      subst hx0 hy0 ha hb hc
      have q1 := congrArg Prod.fst hx
      have q2 := congrArg Prod.fst hy
      simp only [List.map_cons, List.map_nil] at q1 q2
      refine ⟨x, y, a, b, c, rfl, ?_,
      by have q : IntKind.i64.min ≤ x ∧ x ≤ 9223372036854775807 := by simpa [Lit.wf, IntKind.has] using wx
         exact ⟨q.1, q.2⟩,
      by have q : IntKind.i64.min ≤ y ∧ y ≤ 9223372036854775807 := by simpa [Lit.wf, IntKind.has] using wy
         exact ⟨q.1, q.2⟩⟩
      rw [q1, hzx, hzy, q2, hya, hyb, hyc]
theorem sized_wrap {H : Type} {P : Program} {ts : List TypeId} {ds : List (DataW H)} {f0 f1 f2 g0 g1 g2 : Field} (h : (DataW.weightsEach P ts ds).all (· ≤ reachBytes) = true) {j : Nat} {t : TypeId} {x y : Int} {a b c : ByteArray} (hu : P.underlying t = some (.struct #[g0, g1, g2])) (hu2 : P.underlying g2.type = some (.struct #[f0, f1, f2])) (ht : ts[j]? = some t)
    (hd : ds[j]? = some (.agg [.lit (.int .i64 x), .lit (.int .i64 y), .agg [.lit (.string a.data.toList), .lit (.string b.data.toList), .lit (.string c.data.toList)]])) : a.size ≤ 281474976710656 ∧ b.size ≤ 281474976710656 ∧ c.size ≤ 281474976710656 := by
  have hr := reachBytes_lt
  have h1 := List.all_eq_true.1 h _ (DataW.weights_mem_each ht hd a.data.toList.length (by simp [DataW.weights, hu, hu2, DataW.weightsEach]))
  have h2 := List.all_eq_true.1 h _ (DataW.weights_mem_each ht hd b.data.toList.length (by simp [DataW.weights, hu, hu2, DataW.weightsEach]))
  have h3 := List.all_eq_true.1 h _ (DataW.weights_mem_each ht hd c.data.toList.length (by simp [DataW.weights, hu, hu2, DataW.weightsEach]))
  rw [ba_length] at h1 h2 h3
  simp only [decide_eq_true_eq] at h1 h2 h3
  refine ⟨?_, ?_, ?_⟩ <;> omega
end Go.Proofs.YtppbplchdfhnkaaDoor.Seal
