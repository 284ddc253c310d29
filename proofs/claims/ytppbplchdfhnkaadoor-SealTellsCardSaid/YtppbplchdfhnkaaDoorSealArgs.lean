/-
  What an argument's type gives: a struct of three strings (api.Box).
-/
import Derived.Test.YtppbplchdfhnkaaDoorOpen
import Derived.Test.YtppbplchdfhnkaaDoorCodeSpec
import Derived.ChangeMaps5
import Derived.SizedLaws
set_option linter.unusedVariables false
set_option linter.unusedSimpArgs false
namespace Go.Proofs.YtppbplchdfhnkaaDoor.Seal
open Go.ChangeMaps (open_string)
open _root_.Go.Proofs.YtppbplchdfhnkaaDoor.Code (ba_length)

theorem open_box {H : Type} {enc : TypeId × Value → H} {P : Program} {W : World} {r : Reach} {b0 base : Nat} {held : Bool} {sp : Nat → Bool} {t : TypeId} {f0 f1 f2 : Field} {v : Value} {d : DataW H} {p : List MemPlace}
    (ht : P.underlying t = some (.struct #[f0, f1, f2])) (ct : P.cellsOf t = 3) (o0 : f0.offset = 0) (o1 : f1.offset = 1) (o2 : f2.offset = 2) (c0 : P.cellsOf f0.type = 1) (c1 : P.cellsOf f1.type = 1) (c2 : P.cellsOf f2.type = 1)
    (t0 : P.underlying f0.type = some .string) (t1 : P.underlying f1.type = some .string) (t2 : P.underlying f2.type = some .string) (hval : Value.okWide P W r b0 t v) (h : DataW.Trod enc P W base sp held t v d p) :
    ∃ a b c : ByteArray, v = .agg #[.string a, .string b, .string c] ∧ d = .agg [.lit (.string a.data.toList), .lit (.string b.data.toList), .lit (.string c.data.toList)] := by
  simp only [Value.okWide, ht] at hval
  obtain ⟨cs, rfl, hsz, -⟩ := hval
  obtain ⟨fuel, hf⟩ := h
  obtain ⟨xs, n, -, hx, hl, hlen, hi⟩ := DataW.trod_struct ht hf
  rw [ct] at hsz
  obtain ⟨l⟩ := cs
  match l, hsz, xs, hlen with
  | [u0, u1, u2], _, [y0, y1, y2], _ =>
    have h0 := hi 0 f0 rfl
    have h1 := hi 1 f1 rfl
    have h2 := hi 2 f2 rfl
    rw [o0, c0] at h0
    rw [o1, c1] at h1
    rw [o2, c2] at h2
    obtain ⟨a, ha, hya, -⟩ := DataW.trod_string t0 h0
    obtain ⟨b, hb, hyb, -⟩ := DataW.trod_string t1 h1
    obtain ⟨c, hc, hyc, -⟩ := DataW.trod_string t2 h2
    simp [Value.cells] at ha hb hc
    subst ha hb hc
    refine ⟨a, b, c, rfl, ?_⟩
    have := congrArg Prod.fst hx
    simp only [List.map_cons, List.map_nil] at this
    rw [this, hya, hyb, hyc]
theorem sized_box {H : Type} {P : Program} {ts : List TypeId} {ds : List (DataW H)} {f0 f1 f2 : Field} (h : (DataW.weightsEach P ts ds).all (· ≤ reachBytes) = true) {j : Nat} {t : TypeId} {a b c : ByteArray} (hu : P.underlying t = some (.struct #[f0, f1, f2])) (ht : ts[j]? = some t)
    (hd : ds[j]? = some (.agg [.lit (.string a.data.toList), .lit (.string b.data.toList), .lit (.string c.data.toList)])) : a.size ≤ 281474976710656 ∧ b.size ≤ 281474976710656 ∧ c.size ≤ 281474976710656 := by
  have hr := reachBytes_lt
  have h1 := List.all_eq_true.1 h _ (DataW.weights_mem_each ht hd a.data.toList.length (by simp [DataW.weights, hu, DataW.weightsEach]))
  have h2 := List.all_eq_true.1 h _ (DataW.weights_mem_each ht hd b.data.toList.length (by simp [DataW.weights, hu, DataW.weightsEach]))
  have h3 := List.all_eq_true.1 h _ (DataW.weights_mem_each ht hd c.data.toList.length (by simp [DataW.weights, hu, DataW.weightsEach]))
  rw [ba_length] at h1 h2 h3
  simp only [decide_eq_true_eq] at h1 h2 h3
  refine ⟨?_, ?_, ?_⟩ <;> omega
end Go.Proofs.YtppbplchdfhnkaaDoor.Seal
