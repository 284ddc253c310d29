/-
  Maps with integers or strings as keys that a call has made: what they hold, as a list; insert, update and lookup.
-/
import Derived.Test.YtjfcllanochhmaaGreatDoorWd
set_option linter.unusedVariables false
set_option linter.unusedSimpArgs false
namespace Go.Proofs.YtjfcllanochhmaaGreatDoor.Mem
open Go.RowKit Grp

/-- A key: an integer or a string. -/
def KeyLike (kd : TypeDesc) (v : Value) : Prop := (kd = .int .i64 ∧ ∃ n, v = .int .i64 n) ∨ (kd = .string ∧ ∃ s, v = .string s)
def keyEq : Value → Value → Bool
  | .int _ a, .int _ b => a == b
  | .string a, .string b => a == b
  | _, _ => false
/-- Block b is a map that holds the pairs of L, in the order in which they came. -/
def AMap (kd : TypeDesc) (w : World) (b : Nat) (L : List (Value × Value)) : Prop :=
  (∀ p ∈ L, KeyLike kd p.1) ∧ ∃ es clock, w.heap[b]? = some (.map es clock) ∧ es.toList.map (fun e => (e.key, e.val)) = L
def assoc (k : Value) (L : List (Value × Value)) : Option Value := (L.find? fun p => keyEq k p.1).map (·.2)

theorem AMap.lt {kd : TypeDesc} {w : World} {b : Nat} {L : List (Value × Value)} (h : AMap kd w b L) : b < w.heap.size := by
  obtain ⟨_, es, clock, hb, _⟩ := h
  exact (Array.getElem?_eq_some_iff.1 hb).1
theorem AMap.q {kd : TypeDesc} {w w' : World} {b : Nat} {L : List (Value × Value)} (h : AMap kd w b L) (hq : Q w w') : AMap kd w' b L := by
  have hl := h.lt
  obtain ⟨h0, es, clock, hb, h1⟩ := h
  exact ⟨h0, es, clock, (hq.block b hl).trans hb, h1⟩
theorem AMap.made (kd : TypeDesc) (w : World) : AMap kd (w.alloc (.map #[] 0)) w.heap.size [] := ⟨by simp, #[], 0, heap_alloc_new w _, rfl⟩

theorem sameNow_eq {kd : TypeDesc} {k v : Value} (hk : KeyLike kd k) (hv : KeyLike kd v) : Instr.sameNow kd k v = some (keyEq k v) := by
  rcases hk with ⟨rfl, n, rfl⟩ | ⟨rfl, s, rfl⟩ <;> rcases hv with ⟨h, m, rfl⟩ | ⟨h, t, rfl⟩ <;> first | (simp [Instr.sameNow, keyEq]; done) | cases h
theorem findNow_eq {kd : TypeDesc} {k : Value} (hk : KeyLike kd k) : ∀ (es : List MapEntry) (L : List (Value × Value)) (i : Nat), (∀ p ∈ L, KeyLike kd p.1) → es.map (fun e => (e.key, e.val)) = L →
    ∃ r, Instr.findNow kd k es i = some r ∧ r.map (·.2) = assoc k L ∧ ∀ j v, r = some (j, v) → i ≤ j ∧ ∃ e, es[j - i]? = some e ∧ keyEq k e.key = true ∧ e.val = v := by
  intro es
  induction es with
  | nil =>
    intro L i hL h
    subst h
    exact ⟨none, rfl, rfl, fun _ _ h => by cases h⟩
  | cons e es ih =>
    intro L i hL h
    subst h
    have he := hL (e.key, e.val) (by simp)
    have hs := sameNow_eq hk he
    unfold Instr.findNow
    rw [hs]
    cases hq : keyEq k e.key with
    | true => exact ⟨some (i, e.val), rfl, by simp [assoc, hq], fun j v hj => by cases hj; exact ⟨Nat.le_refl _, e, by simp, hq, rfl⟩⟩
    | false =>
      obtain ⟨r, h1, h2, h3⟩ := ih _ (i + 1) (fun p hp => hL p (by simp at hp ⊢; exact .inr hp)) rfl
      refine ⟨r, h1, by rw [h2]; simp [assoc, hq], fun j v hj => ?_⟩
      obtain ⟨h4, e', h5, h6⟩ := h3 j v hj
      refine ⟨by omega, e', ?_, h6⟩
      rw [show j - i = (j - (i + 1)) + 1 by omega]
      exact h5
theorem findKey_eq {P : Program} {kt : TypeId} {kd : TypeDesc} {k : Value} (hu : P.underlying kt = some kd) {w : World} {es : List MapEntry} {r : Option (Nat × Value)} (h : Instr.findNow kd k es 0 = some r) : (Instr.findKey kt k es).run P w = .ok r w := by
  unfold Instr.findKey
  simp only [Sem.run_bind, run_underlying hu w, Result.andThen_ok, h, Sem.run_pure]
theorem checkKey_eq {P : Program} {kt : TypeId} {kd : TypeDesc} {k : Value} (hu : P.underlying kt = some kd) (hk : KeyLike kd k) {w : World} (b : Bool) : (Instr.checkKey b 10000 kt k).run P w = .ok () w := by
  rw [show (10000 : Nat) = 9999 + 1 from rfl]
  unfold Instr.checkKey
  rcases hk with ⟨rfl, n, rfl⟩ | ⟨rfl, s, rfl⟩ <;> simp only [Sem.run_bind, run_underlying hu w, Result.andThen_ok, Sem.run_pure]

/-- A key that is not there yet. -/
theorem AMap.insert {P : Program} {t kt et : TypeId} {kd : TypeDesc} {w : World} {b : Nat} {L : List (Value × Value)} (h : AMap kd w b L) (ht : P.underlying t = some (.map kt et)) (hu : P.underlying kt = some kd) {k v : Value} (hk : KeyLike kd k) (hn : assoc k L = none) :
    ∃ w', (Instr.mapUpdate t (.map (some b)) k v).run P w = .ok () w' ∧ AMap kd w' b (L ++ [(k, v)]) ∧ w'.heap.size = w.heap.size ∧ (∀ B, B ≤ b → Below B w w') ∧ ∀ g, g ≠ b → w'.heap[g]? = w.heap[g]? := by
  have hlt := h.lt
  obtain ⟨h0, es, clock, hb, h1⟩ := h
  obtain ⟨r, h2, h3, -⟩ := findNow_eq hk es.toList L 0 h0 h1
  have hr : r = none := by
    rw [hn] at h3
    cases r with
    | none => rfl
    | some x => cases h3
  subst hr
  have hA : AMap kd { w with heap := w.heap.setIfInBounds b (.map (es.push { key := k, val := v, born := clock }) (clock + 1)) } b (L ++ [(k, v)]) := by
    refine And.intro (fun p hp => ?_) ⟨es.push { key := k, val := v, born := clock }, clock + 1, ?_, ?_⟩
    · rcases List.mem_append.1 hp with hp | hp
      · exact h0 p hp
      · rw [List.mem_singleton] at hp
        subst hp
        exact hk
    · simp [Array.getElem?_setIfInBounds, hlt]
    · simp [h1]
  refine ⟨{ w with heap := w.heap.setIfInBounds b (.map (es.push { key := k, val := v, born := clock }) (clock + 1)) }, ?_, hA, by simp, ?_, ?_⟩
  · unfold Instr.mapUpdate
    simp only [Sem.run_bind, run_underlying ht w, Result.andThen_ok, getObj, setObj, Sem.run, hb, checkKey_eq hu hk, findKey_eq hu h2]
  · intro B hB
    refine ⟨rfl, rfl, rfl, by simp, fun g hg => ?_⟩
    simp [Array.getElem?_setIfInBounds]
    omega
  · intro g hg
    simp [Array.getElem?_setIfInBounds, Ne.symm hg]
theorem AMap.lookup {P : Program} {t kt et : TypeId} {kd : TypeDesc} {w : World} {b : Nat} {L : List (Value × Value)} (h : AMap kd w b L) (ht : P.underlying t = some (.map kt et)) (hu : P.underlying kt = some kd) {k v : Value} (hk : KeyLike kd k) (hv : assoc k L = some v) (ok : Bool) :
    (Instr.lookup t (.map (some b)) k ok).run P w = .ok (if ok then .tuple #[v, .bool true] else v) w := by
  obtain ⟨h0, es, clock, hb, h1⟩ := h
  obtain ⟨r, h2, h3, -⟩ := findNow_eq hk es.toList L 0 h0 h1
  rw [hv] at h3
  obtain ⟨⟨j, v'⟩, rfl, rfl⟩ := Option.map_eq_some_iff.1 h3
  unfold Instr.lookup
  simp only [Sem.run_bind, run_underlying ht w, Result.andThen_ok, getObj, Sem.run_pure, Sem.run, hb, checkKey_eq hu hk, findKey_eq hu h2, Sem.run_pure]
theorem AMap.miss {P : Program} {t kt et : TypeId} {kd : TypeDesc} {w : World} {b : Nat} {L : List (Value × Value)} (h : AMap kd w b L) (ht : P.underlying t = some (.map kt et)) (hu : P.underlying kt = some kd) {k z : Value} (hk : KeyLike kd k) (hv : assoc k L = none)
    (hz : ∀ w, (zeroValue et).run P w = .ok z w) (ok : Bool) : (Instr.lookup t (.map (some b)) k ok).run P w = .ok (if ok then .tuple #[z, .bool false] else z) w := by
  obtain ⟨h0, es, clock, hb, h1⟩ := h
  obtain ⟨r, h2, h3, -⟩ := findNow_eq hk es.toList L 0 h0 h1
  rw [hv] at h3
  have hr : r = none := by
    cases r with
    | none => rfl
    | some x => cases h3
  subst hr
  unfold Instr.lookup
  simp only [Sem.run_bind, run_underlying ht w, Result.andThen_ok, getObj, Sem.run_pure, Sem.run, hb, checkKey_eq hu hk, findKey_eq hu h2, hz, Sem.run_pure]
end Go.Proofs.YtjfcllanochhmaaGreatDoor.Mem
