/-
  Stores into a local block: the world behind is a letter.
-/
import Derived.Test.YtjfcllanochhmaaGreatDoorWd
set_option linter.unusedVariables false
set_option linter.unusedSimpArgs false
namespace Go.Proofs.YtjfcllanochhmaaGreatDoor.Mem
open Go.RowKit Grp

def splice (cs : List Value) (o : Nat) (vs : List Value) : List Value := cs.take o ++ (vs ++ cs.drop (o + vs.length))
theorem splice_cons (cs : List Value) (o : Nat) (v : Value) (vs : List Value) (h : o < cs.length) : splice (cs.set o v) (o + 1) vs = splice cs o (v :: vs) := by
  unfold splice
  rw [List.length_cons, List.take_set, List.drop_set_of_lt (by omega)]
  rw [List.take_succ_eq_append_getElem h, List.set_append_right _ _ (by rw [List.length_take]; omega)]
  have : o - (cs.take o).length = 0 := by rw [List.length_take]; omega
  rw [this]
  simp [Nat.add_assoc, Nat.add_comm 1]
theorem Blk.setCells {t : TypeId} {g : Nat} : ∀ (vs : List Value) (o : Nat) (cs : List Value) (w : World), Blk w g t cs.toArray → o + vs.length ≤ cs.length → Blk (w.setCells g o vs) g t (splice cs o vs).toArray := by
  intro vs
  induction vs with
  | nil =>
    intro o cs w h _
    have : splice cs o [] = cs := by simp [splice]
    rw [this]
    exact h
  | cons v vs ih =>
    intro o cs w h hl
    rw [List.length_cons] at hl
    have h1 := h.set_ o v
    have h2 : Blk (w.setCell ⟨g, o, none⟩ v) g t (cs.set o v).toArray := by simpa using h1
    have := ih (o + 1) (cs.set o v) _ h2 (by rw [List.length_set]; omega)
    rw [splice_cons cs o v vs (by omega)] at this
    exact this
theorem below_setCells {g B : Nat} (hB : B ≤ g) : ∀ (vs : List Value) (o : Nat) (w0 w : World), Below B w0 w → Below B w0 (w.setCells g o vs) := by
  intro vs
  induction vs with
  | nil => intro o w0 w h; exact h
  | cons v vs ih => intro o w0 w h; exact ih (o + 1) w0 _ (h.setCell hB v)
theorem Blk.there {w : World} {g : Nat} {t : TypeId} {cs : List Value} (h : Blk w g t cs.toArray) {o n : Nat} (hl : o + n ≤ cs.length) : w.there g o n := fun j hj => by
  refine ⟨?_, h.frozen _⟩
  rw [h.cell]
  simp
  omega
/-- A struct is stored into a local block, at offset o. -/
theorem wpList_store_blk {P : Program} {ops : Array Oper} {rest : List Oper} {op : Oper} {a : Act} {w : World} {K : Exit → Act → World → Prop} {g o : Nat} {t : TypeId} {cs : List Value} (hb : Blk w g t cs.toArray) (hgd : op.guard = none) (ty : TypeId) (x y : Operand) (vs : List Value) (ho : op.op = .store ty x y)
    (hx : a.eval x = .pointer (some ⟨g, o, none⟩)) (hy : a.eval y = .agg vs.toArray) (hi : (P.info? ty).map (·.size) = some vs.length) (h1 : vs.toArray.all (·.oneCell') = true) (hl : o + vs.length ≤ cs.length)
    (h : ∀ W, Blk W g t (splice cs o vs).toArray → (∀ B w0, B ≤ g → Below B w0 w → Below B w0 W) → wpList P ops K rest (a.put op.dst undef) W) : wpList P ops K (op :: rest) a w :=
  wpList_store_mid hgd ty x y ho g o vs.toArray hx hy (by simpa using hb.there hl) (by simpa using hi) h1 (by
    have := h _ (Blk.setCells vs o cs w hb hl) (fun B w0 hB hw => below_setCells hB vs o w0 w hw)
    simpa using this)
end Go.Proofs.YtjfcllanochhmaaGreatDoor.Mem
