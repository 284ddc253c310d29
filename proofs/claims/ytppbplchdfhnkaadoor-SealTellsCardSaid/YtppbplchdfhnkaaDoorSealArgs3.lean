/-
  What an argument's type gives: agoralaw06.Case (three strings, a box, two integers, a wrap).
-/
import Derived.Test.YtppbplchdfhnkaaDoorSealArgs2
set_option linter.unusedVariables false
set_option linter.unusedSimpArgs false
namespace Go.Proofs.YtppbplchdfhnkaaDoor.Seal
open Go.ChangeMaps (open_string)
open _root_.Go.Proofs.YtppbplchdfhnkaaDoor.Code (ba_length)

theorem lit_bd {x : Int} (wx : (Lit.int .i64 x).wf = true) : -9223372036854775808 ≤ x ∧ x ≤ 9223372036854775807 := by
  have q : IntKind.i64.min ≤ x ∧ x ≤ 9223372036854775807 := by simpa [Lit.wf, IntKind.has] using wx
  exact ⟨q.1, q.2⟩
theorem trod_box {H : Type} {enc : TypeId × Value → H} {P : Program} {W : World} {base fuel : Nat} {held : Bool} {sp : Nat → Bool} {t : TypeId} {f0 f1 f2 : Field} {cs : List Value} {x : DataW H × List MemPlace}
    (ht : P.underlying t = some (.struct #[f0, f1, f2])) (ct : P.cellsOf t = 3) (o0 : f0.offset = 0) (o1 : f1.offset = 1) (o2 : f2.offset = 2) (c0 : P.cellsOf f0.type = 1) (c1 : P.cellsOf f1.type = 1) (c2 : P.cellsOf f2.type = 1)
    (t0 : P.underlying f0.type = some .string) (t1 : P.underlying f1.type = some .string) (t2 : P.underlying f2.type = some .string) (hf : DataW.trod enc P W base sp held fuel t cs = some x) :
    ∃ a b c : ByteArray, cs = [.string a, .string b, .string c] ∧ x.1 = .agg [.lit (.string a.data.toList), .lit (.string b.data.toList), .lit (.string c.data.toList)] := by
  obtain ⟨xs, n, -, hx, hl, hlen, hi⟩ := DataW.trod_struct ht hf
  rw [ct] at hl
  match cs, hl, xs, hlen with
  | [u0, u1, u2], _, [y0, y1, y2], _ =>
    have h0 := hi 0 f0 rfl
    have h1 := hi 1 f1 rfl
    have h2 := hi 2 f2 rfl
    rw [o0, c0] at h0
    rw [o1, c1] at h1
    rw [o2, c2] at h2
    obtain ⟨a, ha, hya, -⟩ := DataW.trod_string t0 h0
    obtain ⟨b, hb, hyb, -⟩ := DataW.trod_string t1 h1
    obtain ⟨c, hc, hyc, -⟩ := DataW.trod_string t2 h2
    simp at ha hb hc
    subst ha hb hc
    refine ⟨a, b, c, rfl, ?_⟩
    have := congrArg Prod.fst hx
    simp only [List.map_cons, List.map_nil] at this
    rw [this, hya, hyb, hyc]
theorem trod_wrap {H : Type} {enc : TypeId × Value → H} {P : Program} {W : World} {base fuel : Nat} {held : Bool} {sp : Nat → Bool} {t : TypeId} {f0 f1 f2 g0 g1 g2 : Field} {cs : List Value} {x : DataW H × List MemPlace}
    (ht : P.underlying t = some (.struct #[g0, g1, g2])) (ct : P.cellsOf t = 5) (p0 : g0.offset = 0) (p1 : g1.offset = 1) (p2 : g2.offset = 2) (k0 : P.cellsOf g0.type = 1) (k1 : P.cellsOf g1.type = 1) (k2 : P.cellsOf g2.type = 3)
    (i0 : P.underlying g0.type = some (.int .i64)) (i1 : P.underlying g1.type = some (.int .i64)) (hu : P.underlying g2.type = some (.struct #[f0, f1, f2])) (o0 : f0.offset = 0) (o1 : f1.offset = 1) (o2 : f2.offset = 2) (c0 : P.cellsOf f0.type = 1) (c1 : P.cellsOf f1.type = 1) (c2 : P.cellsOf f2.type = 1)
    (t0 : P.underlying f0.type = some .string) (t1 : P.underlying f1.type = some .string) (t2 : P.underlying f2.type = some .string) (hf : DataW.trod enc P W base sp held fuel t cs = some x) :
    ∃ (i j : Int) (a b c : ByteArray), cs = [.int .i64 i, .int .i64 j, .string a, .string b, .string c] ∧ x.1 = .agg [.lit (.int .i64 i), .lit (.int .i64 j), .agg [.lit (.string a.data.toList), .lit (.string b.data.toList), .lit (.string c.data.toList)]] ∧ (-9223372036854775808 ≤ i ∧ i ≤ 9223372036854775807) ∧ -9223372036854775808 ≤ j ∧ j ≤ 9223372036854775807 := by
  obtain ⟨xs, n, -, hx, hl, hlen, hi⟩ := DataW.trod_struct ht hf
  rw [ct] at hl
  match cs, hl, xs, hlen with
  | [w0, w1, u0, u1, u2], _, [z0, z1, z2], _ =>
    have j0 := hi 0 g0 rfl
    have j1 := hi 1 g1 rfl
    have j2 := hi 2 g2 rfl
    rw [p0, k0] at j0
    rw [p1, k1] at j1
    rw [p2, k2] at j2
    obtain ⟨i, hx0, hzx, wx⟩ := DataW.trod_int i0 j0
    obtain ⟨j, hy0, hzy, wy⟩ := DataW.trod_int i1 j1
    obtain ⟨a, b, c, h3, hz⟩ := trod_box hu k2 o0 o1 o2 c0 c1 c2 t0 t1 t2 j2
    simp at hx0 hy0 h3
    obtain ⟨rfl, rfl, rfl⟩ := h3
    subst hx0 hy0
    have q1 := congrArg Prod.fst hx
    simp only [List.map_cons, List.map_nil] at q1
    exact ⟨i, j, a, b, c, rfl, by rw [q1, hzx, hzy, hz], lit_bd wx, lit_bd wy⟩
theorem open_case {H : Type} {enc : TypeId × Value → H} {P : Program} {W : World} {r : Reach} {b0 base : Nat} {held : Bool} {sp : Nat → Bool} {t bt wt : TypeId} {f0 f1 f2 g0 g1 g2 e0 e1 e2 e3 e4 e5 e6 : Field} {v : Value} {d : DataW H} {p : List MemPlace}
    (ht : P.underlying t = some (.struct #[e0, e1, e2, e3, e4, e5, e6])) (ct : P.cellsOf t = 13) (q0 : e0.offset = 0) (q1 : e1.offset = 1) (q2 : e2.offset = 2) (q3 : e3.offset = 3) (q4 : e4.offset = 6) (q5 : e5.offset = 7) (q6 : e6.offset = 8)
    (l0 : P.cellsOf e0.type = 1) (l1 : P.cellsOf e1.type = 1) (l2 : P.cellsOf e2.type = 1) (l3 : e3.type = bt) (l4 : P.cellsOf e4.type = 1) (l5 : P.cellsOf e5.type = 1) (l6 : e6.type = wt)
    (s0 : P.underlying e0.type = some .string) (s1 : P.underlying e1.type = some .string) (s2 : P.underlying e2.type = some .string) (s4 : P.underlying e4.type = some (.int .i64)) (s5 : P.underlying e5.type = some (.int .i64))
    (hw : P.underlying wt = some (.struct #[g0, g1, g2])) (cw : P.cellsOf wt = 5) (p0 : g0.offset = 0) (p1 : g1.offset = 1) (p2 : g2.offset = 2) (k0 : P.cellsOf g0.type = 1) (k1 : P.cellsOf g1.type = 1) (k2 : g2.type = bt)
    (i0 : P.underlying g0.type = some (.int .i64)) (i1 : P.underlying g1.type = some (.int .i64)) (hu : P.underlying bt = some (.struct #[f0, f1, f2])) (cb : P.cellsOf bt = 3) (o0 : f0.offset = 0) (o1 : f1.offset = 1) (o2 : f2.offset = 2) (c0 : P.cellsOf f0.type = 1) (c1 : P.cellsOf f1.type = 1) (c2 : P.cellsOf f2.type = 1)
    (t0 : P.underlying f0.type = some .string) (t1 : P.underlying f1.type = some .string) (t2 : P.underlying f2.type = some .string) (hval : Value.okWide P W r b0 t v) (h : DataW.Trod enc P W base sp held t v d p) :
    ∃ (k o n x y z : ByteArray) (u s i j : Int) (a b c : ByteArray), v = .agg #[.string k, .string o, .string n, .string x, .string y, .string z, .int .i64 u, .int .i64 s, .int .i64 i, .int .i64 j, .string a, .string b, .string c] ∧
      d = .agg [.lit (.string k.data.toList), .lit (.string o.data.toList), .lit (.string n.data.toList), .agg [.lit (.string x.data.toList), .lit (.string y.data.toList), .lit (.string z.data.toList)], .lit (.int .i64 u), .lit (.int .i64 s), .agg [.lit (.int .i64 i), .lit (.int .i64 j), .agg [.lit (.string a.data.toList), .lit (.string b.data.toList), .lit (.string c.data.toList)]]] ∧
      u ≤ 9223372036854775807 ∧ s ≤ 9223372036854775807 ∧ i ≤ 9223372036854775807 ∧ j ≤ 9223372036854775807 := by
  simp only [Value.okWide, ht] at hval
  obtain ⟨cs, rfl, hsz, -⟩ := hval
  obtain ⟨fuel, hf⟩ := h
  obtain ⟨xs, n, -, hx, hl, hlen, hi⟩ := DataW.trod_struct ht hf
  rw [ct] at hsz
  obtain ⟨l⟩ := cs
  match l, hsz, xs, hlen with
  | [w0, w1, w2, w3, w4, w5, w6, w7, w8, w9, w10, w11, w12], _, [z0, z1, z2, z3, z4, z5, z6], _ =>
    have j0 := hi 0 e0 rfl
    have j1 := hi 1 e1 rfl
    have j2 := hi 2 e2 rfl
    have j3 := hi 3 e3 rfl
    have j4 := hi 4 e4 rfl
    have j5 := hi 5 e5 rfl
    have j6 := hi 6 e6 rfl
    rw [q0, l0] at j0
    rw [q1, l1] at j1
    rw [q2, l2] at j2
    rw [q3, l3, cb] at j3
    rw [q4, l4] at j4
    rw [q5, l5] at j5
    rw [q6, l6, cw] at j6
    obtain ⟨k, h0, d0, -⟩ := DataW.trod_string s0 j0
    obtain ⟨o, h1, d1, -⟩ := DataW.trod_string s1 j1
    obtain ⟨m, h2, d2, -⟩ := DataW.trod_string s2 j2
    obtain ⟨x, y, z, h3, d3⟩ := trod_box hu cb o0 o1 o2 c0 c1 c2 t0 t1 t2 j3
    obtain ⟨u, h4, d4, b4⟩ := DataW.trod_int s4 j4
    obtain ⟨s, h5, d5, b5⟩ := DataW.trod_int s5 j5
    obtain ⟨i, j, a, b, c, h6, d6, bi, bj⟩ := trod_wrap hw cw p0 p1 p2 k0 k1 (by rw [k2]; exact cb) i0 i1 (by rw [k2]; exact hu) o0 o1 o2 c0 c1 c2 t0 t1 t2 j6
    simp [Value.cells] at h0 h1 h2 h3 h4 h5 h6
    obtain ⟨rfl, rfl, rfl⟩ := h3
    obtain ⟨rfl, rfl, rfl, rfl, rfl⟩ := h6
    subst h0 h1 h2 h4 h5
    have q1 := congrArg Prod.fst hx
    simp only [List.map_cons, List.map_nil] at q1
    exact ⟨k, o, m, x, y, z, u, s, i, j, a, b, c, rfl, by rw [q1, d0, d1, d2, d3, d4, d5, d6], (lit_bd b4).2, (lit_bd b5).2, bi.2, bj.2⟩
theorem sized_case {H : Type} {P : Program} {ts : List TypeId} {ds : List (DataW H)} {f0 f1 f2 g0 g1 g2 e0 e1 e2 e3 e4 e5 e6 : Field} {bt wt : TypeId} (h : (DataW.weightsEach P ts ds).all (· ≤ reachBytes) = true) {j : Nat} {t : TypeId} {k o n x y z a b c : ByteArray} {u s i i' : Int}
    (ht : P.underlying t = some (.struct #[e0, e1, e2, e3, e4, e5, e6])) (l3 : e3.type = bt) (l6 : e6.type = wt) (hw : P.underlying wt = some (.struct #[g0, g1, g2])) (k2 : g2.type = bt) (hu : P.underlying bt = some (.struct #[f0, f1, f2])) (hj : ts[j]? = some t)
    (hd : ds[j]? = some (.agg [.lit (.string k.data.toList), .lit (.string o.data.toList), .lit (.string n.data.toList), .agg [.lit (.string x.data.toList), .lit (.string y.data.toList), .lit (.string z.data.toList)], .lit (.int .i64 u), .lit (.int .i64 s), .agg [.lit (.int .i64 i), .lit (.int .i64 i'), .agg [.lit (.string a.data.toList), .lit (.string b.data.toList), .lit (.string c.data.toList)]]])) :
    (k.size ≤ 281474976710656 ∧ o.size ≤ 281474976710656 ∧ n.size ≤ 281474976710656) ∧ (x.size ≤ 281474976710656 ∧ y.size ≤ 281474976710656 ∧ z.size ≤ 281474976710656) ∧ a.size ≤ 281474976710656 ∧ b.size ≤ 281474976710656 ∧ c.size ≤ 281474976710656 := by
  have hr := reachBytes_lt
  have each : ∀ q : ByteArray, q.data.toList.length ∈ DataW.weights P t (.agg [.lit (.string k.data.toList), .lit (.string o.data.toList), .lit (.string n.data.toList), .agg [.lit (.string x.data.toList), .lit (.string y.data.toList), .lit (.string z.data.toList)], .lit (.int .i64 u), .lit (.int .i64 s), .agg [.lit (.int .i64 i), .lit (.int .i64 i'), .agg [.lit (.string a.data.toList), .lit (.string b.data.toList), .lit (.string c.data.toList)]]] : DataW H) → q.size ≤ 281474976710656 := by
    intro q hs
    have h1 := List.all_eq_true.1 h _ (DataW.weights_mem_each hj hd q.data.toList.length hs)
    rw [ba_length] at h1
    simp only [decide_eq_true_eq] at h1
    omega
  refine ⟨⟨each k ?_, each o ?_, each n ?_⟩, ⟨each x ?_, each y ?_, each z ?_⟩, each a ?_, each b ?_, each c ?_⟩ <;> simp [DataW.weights, ht, hu, hw, l3, l6, k2, DataW.weightsEach]
end Go.Proofs.YtppbplchdfhnkaaDoor.Seal
