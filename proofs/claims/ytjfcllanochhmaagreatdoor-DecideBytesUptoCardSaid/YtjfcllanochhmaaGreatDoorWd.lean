/-
  The worlds that keep what a first world holds, as a type: facts on memory are laid once, for all of them; and a region that draws its order, walked once over that class.
-/
import Derived.Test.YtjfcllanochhmaaGreatDoorMem
import Derived.Test.YtjfcllanochhmaaGreatDoorRow
import Derived.Test.YtjfcllanochhmaaGreatDoorCode
import Derived.Deep.QuietTactic
import Derived.BigQuiet
import Derived.Deep.MidRow
set_option linter.unusedVariables false
set_option linter.unusedSimpArgs false
namespace Go.Proofs.YtjfcllanochhmaaGreatDoor.Mem
open Go.RowKit Grp

structure Wd (w0 : World) where
  w : World
  q : Q w0 w
instance (w0 : World) : Nonempty (Wd w0) := ⟨⟨w0, Q.refl w0⟩⟩
section
variable {w0 : World}
theorem Wd.next (x : Wd w0) {w' : World} (hq : Q x.w w') : ∃ y : Wd w0, w' = y.w := ⟨⟨w', Q.trans x.q hq⟩, rfl⟩
theorem Wd.first (w0 : World) : ∃ y : Wd w0, w0 = y.w := ⟨⟨w0, Q.refl w0⟩, rfl⟩
/-- A world that came out of another one: one of a class of its own. -/
theorem Wd.enter {w wr : World} (hq : Q w wr) : ∃ (w1 : World) (x : Wd w1), wr = x.w ∧ Q w w1 := ⟨wr, ⟨wr, Q.refl _⟩, rfl, hq⟩
theorem Wd.cell (x : Wd w0) {b o : Nat} (hb : b < w0.heap.size) : x.w.cell? ⟨b, o, none⟩ = w0.cell? ⟨b, o, none⟩ := x.q.cell (p := ⟨b, o, none⟩) hb
theorem Wd.blk (x : Wd w0) {g : Nat} {t : TypeId} {cs : Array Value} (h : Blk w0 g t cs) : Blk x.w g t cs := h.q x.q
theorem Wd.re {w1 : World} {F : World → Prop} (hq : Q w0 w1) (h : ∀ x : Wd w0, F x.w) : ∀ y : Wd w1, F y.w := fun y => h ⟨y.w, Q.trans hq y.q⟩
theorem Wd.call {P : Program} {f : FuncId} {args : Array Value} {v : Value} (x : Wd w0) (h : Calls P f args x.w fun e w' => e = .returned v ∧ Q x.w w') : Calls P f args x.w fun e w' => e = .returned v ∧ ∃ y : Wd w0, w' = y.w :=
  h.mono fun _ _ ⟨he, hq⟩ => ⟨he, x.next hq⟩
theorem Wd.calm {P : Program} {f : FuncId} {args : Array Value} {v : Value} (x : Wd w0) (h : Calls P f args x.w fun e w' => e = .returned v ∧ x.w = w') : Calls P f args x.w fun e w' => e = .returned v ∧ ∃ y : Wd w0, w' = y.w :=
  h.mono fun _ _ ⟨he, hq⟩ => ⟨he, x, hq.symm⟩

/-- A region that draws its order: one walk in the order of the text, over the class. -/
theorem wp_region_wd {P : Program} {id : Nat} {K : Exit → Act → World → Prop} {a : Act} (x : Wd w0) {l : List Oper} (hm : P.follows .mixedOrders = true) (hB : Region.lexB .any l.toArray = true)
    (h : wpQuiet P l.toArray (fun w' => ∃ y : Wd w0, w' = y.w) (fun a' => ∀ w', (∃ y : Wd w0, w' = y.w) → K .normal a' w') l a) : (Code.region id l.toArray true).wp P K a x.w :=
  wp_region_quiet (C := fun w' => ∃ y : Wd w0, w' = y.w) hm hB (x.next (Q.refl _).drew) (by simpa using h)
end

/-! ### Ranges -/
theorem Blk.range {w : World} {g : Nat} {t : TypeId} {cs : List Value} (h : Blk w g t cs.toArray) : w.rangeAt g 0 cs := fun j v hv => by
  rw [Nat.zero_add, h.cell j]
  simpa using hv
theorem range_sub {w : World} {b o : Nat} {cs : List Value} (h : w.rangeAt b o cs) (k n : Nat) : w.rangeAt b (o + k) ((cs.drop k).take n) := fun j v hv => by
  rw [List.getElem?_take] at hv
  split at hv
  · rw [List.getElem?_drop] at hv
    have := h (k + j) v hv
    rwa [← Nat.add_assoc] at this
  · cases hv
theorem range_q {w w' : World} {b o : Nat} {cs : List Value} (h : w.rangeAt b o cs) (hq : Q w w') (hb : b < w.heap.size) : w'.rangeAt b o cs := fun j v hv =>
  (hq.cell (p := ⟨b, o + j, none⟩) hb).trans (h j v hv)
/-- The load of a struct, in every world of the class. -/
theorem Wd.load {P : Program} {w0 : World} {b o : Nat} {cs : List Value} (hb : b < w0.heap.size) (h : w0.rangeAt b o cs) {ty : TypeId} {d : TypeDesc} (hu : P.underlying ty = some d) (hd : d.isRow = true) (hi : (P.info? ty).map (·.size) = some cs.length) :
    ∀ x : Wd w0, (Instr.loadAt ty (.pointer (some ⟨b, o, none⟩))).run P x.w = .ok (.agg cs.toArray) x.w := fun x =>
  run_loadAt_mid x.w b o ty cs d (range_q h x.q hb) hu hd hi
theorem Wd.get {w0 : World} {b o : Nat} {cs : List Value} (hb : b < w0.heap.size) (h : w0.rangeAt b o cs) (j : Nat) {v : Value} (hv : cs[j]? = some v) : ∀ x : Wd w0, x.w.cell? ⟨b, o + j, none⟩ = some v := fun x => range_q h x.q hb j v hv
theorem Wd.at0 {w0 : World} {b : Nat} {cs : List Value} (hb : b < w0.heap.size) (h : w0.rangeAt b 0 cs) (j : Nat) {v : Value} (hv : cs[j]? = some v) : ∀ x : Wd w0, x.w.cell? ⟨b, j, none⟩ = some v := fun x => by
  have := range_q h x.q hb j v hv
  rwa [Nat.zero_add] at this
/-- A load whose run is known, guarded or not: an arm of the walk. -/
theorem wpList_load_run {P : Program} {ops : Array Oper} {rest : List Oper} {o : Oper} {a : Act} {w : World} {K : Exit → Act → World → Prop} (ty : TypeId) (y : Operand) (p v : Value) (ho : o.op = .load ty y) (hw : Region.wanted o (yielded ops a.tmps) = true)
    (hy : a.eval y = p) (hr : (Instr.loadAt ty p).run P w = .ok v w) (h : wpList P ops K rest (a.put o.dst v) w) : wpList P ops K (o :: rest) a w := by
  refine wpList_step fun K' hK => ?_
  rw [if_pos hw]
  unfold Oper.wp execOp
  simp only [ho, hy, Sem.run_bind, hr, Result.andThen_ok, Sem.run_pure]
  exact hK _ _ h
/-- The same in a region that draws its order. -/
theorem wpQuiet_load_run {P : Program} {w0 : World} {ops : Array Oper} {rest : List Oper} {o : Oper} {a : Act} {K : Act → Prop} (ty : TypeId) (y : Operand) (p v : Value) (ho : o.op = .load ty y) (hw : Region.wanted o (yielded ops a.tmps) = true)
    (hy : a.eval y = p) (hr : ∀ z : Wd w0, (Instr.loadAt ty p).run P z.w = .ok v z.w) (h : wpQuiet P ops (fun w' => ∃ y : Wd w0, w' = y.w) K rest (a.put o.dst v)) : wpQuiet P ops (fun w' => ∃ y : Wd w0, w' = y.w) K (o :: rest) a := by
  unfold wpQuiet
  rw [if_pos hw]
  refine ⟨v, ?_, h⟩
  rintro w ⟨z, rfl⟩
  unfold Oper.quietAt execOp
  simp only [ho, hy, Sem.run_bind, hr, Result.andThen_ok, Sem.run_pure, Oper.quietUpon]
  exact ⟨trivial, trivial⟩
end Go.Proofs.YtjfcllanochhmaaGreatDoor.Mem
