/-
  Package act's table of rules, used and Right.
-/
import Derived.Test.YtjfcllanochhmaaGreatDoorActB
import Derived.Test.YtjfcllanochhmaaGreatDoorMapI
import Derived.Laws.EntriesVeiled
set_option linter.unusedVariables false
set_option linter.unusedSimpArgs false
namespace Go.Proofs.YtjfcllanochhmaaGreatDoor.Item
open Go.RowKit Grp Mem _root_.Go.Proofs.YtjfcllanochhmaaGreatDoor.Code Sha Sign

/-! ### The table -/
abbrev fnV (f : FuncId) : Value := .func (.func f) #[] #[]
abbrev ruleV (m : Int) (f : FuncId) : Value := .agg #[.int .i64 m, fnV f]
abbrev kI (n : Int) : Value := .int .i64 n
def rulesL : List (Value × Value) :=
  [(kI 0, ruleV 1568 127), (kI 1, ruleV 252 123), (kI 2, ruleV 253 121), (kI 3, ruleV 253 121), (kI 14, ruleV 253 121),
    (kI 4, ruleV 1 122), (kI 5, ruleV 1 122), (kI 6, ruleV 1 122), (kI 13, ruleV 1 122), (kI 20, ruleV 1 122),
    (kI 7, ruleV 2 124), (kI 8, ruleV 2 124), (kI 9, ruleV 2 124), (kI 10, ruleV 2 124), (kI 11, ruleV 2 124),
    (kI 12, ruleV 33 125), (kI 21, ruleV 33 125), (kI 15, ruleV 24 130), (kI 16, ruleV 412 132), (kI 17, ruleV 35 133),
    (kI 18, ruleV 1536 129), (kI 19, ruleV 1808 134), (kI 22, ruleV 513 135), (kI 23, ruleV 546 136)]
structure RSt (w0 w : World) (n : Nat) : Prop where
  below : Below w0.heap.size w0 w
  map : AMap (.int .i64) w (w0.heap.size + 1 + 1 + 1 + 1) (rulesL.take n)
  b1 : Blk w w0.heap.size 134 #[.int .i64 253, fnV 121]
  b2 : Blk w (w0.heap.size + 1) 134 #[.int .i64 1, fnV 122]
  b3 : Blk w (w0.heap.size + 1 + 1) 134 #[.int .i64 2, fnV 124]
  b4 : Blk w (w0.heap.size + 1 + 1 + 1) 134 #[.int .i64 33, fnV 125]
theorem RSt.cells {w0 w : World} {n : Nat} (h : RSt w0 w n) :
    w.cell? ⟨w0.heap.size, 0, none⟩ = some (.int .i64 253) ∧ w.cell? ⟨w0.heap.size, 1, none⟩ = some (fnV 121) ∧ w.cell? ⟨w0.heap.size + 1, 0, none⟩ = some (.int .i64 1) ∧ w.cell? ⟨w0.heap.size + 1, 1, none⟩ = some (fnV 122) ∧
    w.cell? ⟨w0.heap.size + 1 + 1, 0, none⟩ = some (.int .i64 2) ∧ w.cell? ⟨w0.heap.size + 1 + 1, 1, none⟩ = some (fnV 124) ∧ w.cell? ⟨w0.heap.size + 1 + 1 + 1, 0, none⟩ = some (.int .i64 33) ∧ w.cell? ⟨w0.heap.size + 1 + 1 + 1, 1, none⟩ = some (fnV 125) :=
  ⟨h.b1.cell 0, h.b1.cell 1, h.b2.cell 0, h.b2.cell 1, h.b3.cell 0, h.b3.cell 1, h.b4.cell 0, h.b4.cell 1⟩
theorem RSt.start (w : World) : RSt w (((((w.alloc (.cells #[.int .i64 253, fnV 121] 134)).alloc (.cells #[.int .i64 1, fnV 122] 134)).alloc (.cells #[.int .i64 2, fnV 124] 134)).alloc (.cells #[.int .i64 33, fnV 125] 134)).alloc (.map #[] 0)) 0 := by
  refine ⟨?_, ?_, ?_, ?_, ?_, ?_⟩
  · exact (((((Below.refl _ _).alloc (Nat.le_refl _) _).alloc (by simp) _).alloc (by simp; omega) _).alloc (by simp; omega) _).alloc (by simp; omega) _
  · have := AMap.made (.int .i64) ((((w.alloc (.cells #[.int .i64 253, fnV 121] 134)).alloc (.cells #[.int .i64 1, fnV 122] 134)).alloc (.cells #[.int .i64 2, fnV 124] 134)).alloc (.cells #[.int .i64 33, fnV 125] 134))
    simpa using this
  · exact ((((Blk.new w _ _).alloc _).alloc _).alloc _).alloc _
  · exact (((Blk.new' _ _ _ (by simp)).alloc _).alloc _).alloc _
  · exact ((Blk.new' _ _ _ (by simp)).alloc _).alloc _
  · exact (Blk.new' _ _ _ (by simp)).alloc _

/-- One entry of the table. -/
theorem wpList_rule {ops : Array Oper} {rest : List Oper} {o : Oper} {a : Act} {w0 w : World} {K : Exit → Act → World → Prop} {n : Nat} (hS : RSt w0 w n) (t : TypeId) (m x : Operand) (k : Int) (v : Value) (ho : o.op = .insert t m (.const (.int .i64 k)) x) (hg : o.guard = none)
    (hn : rulesL[n]? = some (kI k, v)) (hm : a.eval m = .map (some (w0.heap.size + 1 + 1 + 1 + 1))) (hx : a.eval x = v) (ht : t = 136) (hd : assoc (kI k) (rulesL.take n) = none)
    (h : ∀ w', RSt w0 w' (n + 1) → wpList Tryz.prog ops K rest (a.put o.dst undef) w') : wpList Tryz.prog ops K (o :: rest) a w := by
  subst ht
  obtain ⟨w', h1, h2, h3, h4, h5⟩ := hS.map.insert (P := Tryz.prog) (k := kI k) (v := v) Tryz.underlying136 Tryz.underlying3 (.inl ⟨rfl, k, rfl⟩) hd
  have hl : n < rulesL.length := by
    rcases Nat.lt_or_ge n rulesL.length with h | h
    · exact h
    · rw [List.getElem?_eq_none h] at hn; cases hn
  have hb : ∀ {g : Nat} {cs : Array Value}, g < w0.heap.size + 1 + 1 + 1 + 1 → Blk w g 134 cs → Blk w' g 134 cs := fun hg hb => (h5 _ (by omega)).trans hb
  have hS' : RSt w0 w' (n + 1) := by
    refine ⟨hS.below.trans (h4 _ (by omega)), ?_, hb (by omega) hS.b1, hb (by omega) hS.b2, hb (by omega) hS.b3, hb (by omega) hS.b4⟩
    rw [List.take_succ_eq_append_getElem hl]
    rw [List.getElem?_eq_getElem hl] at hn
    rw [Option.some.inj hn]
    exact h2
  refine wpList_step fun K' hK => ?_
  rw [if_pos (by unfold Region.wanted; rw [hg])]
  unfold Oper.wp execOp
  have hk : a.eval (.const (.int .i64 k)) = kI k := rfl
  simp only [ho, hm, hx, hk, Sem.run_bind, h1, Result.andThen_ok, Sem.run_pure]
  exact hK _ _ (h w' hS')

set_option maxRecDepth 100000 in
set_option maxHeartbeats 4000000 in
theorem rules_any (w : World) : Calls Tryz.prog 89 #[] w fun e w' => ∃ b, e = .returned (.map (some b)) ∧ AMap (.int .i64) w' b rulesL ∧ Q w w' := by
  have hS := RSt.start w
  have hmm := @run_makeMap Tryz.prog
  go_enter Tryz.func89, Tryz.ntmps89
  go_wp2_with (refine wpList_rule hS _ (.tmp 9) _ _ _ rfl rfl rfl rfl rfl rfl rfl ?_; clear hS; intro w' hS; obtain ⟨c1, c2, c3, c4, c5, c6, c7, c8⟩ := hS.cells)
  go_ret
  exact ⟨_, rfl, hS.map, hS.below⟩

/-! ### used -/
theorem intz (n : Int) : (n == 0) = decide (n = 0) := by
  by_cases h : n = 0 <;> simp [h]
structure USt (w0 w : World) (a : ActR) (s : Int) : Prop where
  below : Below w0.heap.size w0 w
  act : w.rangeAt w0.heap.size 0 a.cells
  set : Blk w (w0.heap.size + 1) 3 #[.int .i64 s]
theorem USt.cell {w0 w : World} {a : ActR} {s : Int} (h : USt w0 w a s) (j : Nat) {v : Value} (hv : a.cells[j]? = some v) : w.cell? ⟨w0.heap.size, j, none⟩ = some v := by
  have := h.act j v hv
  rwa [Nat.zero_add] at this
theorem USt.cells {w0 w : World} {a : ActR} {s : Int} (h : USt w0 w a s) :
    w.cell? ⟨w0.heap.size, 5, none⟩ = some (.string a.object) ∧ w.cell? ⟨w0.heap.size, 6, none⟩ = some (.string a.target) ∧ w.cell? ⟨w0.heap.size, 7, none⟩ = some (.int .i64 a.scope) ∧ w.cell? ⟨w0.heap.size, 8, none⟩ = some (.string a.group) ∧
    w.cell? ⟨w0.heap.size, 9, none⟩ = some (.slice a.toA a.to.length a.toC) ∧ w.cell? ⟨w0.heap.size, 10, none⟩ = some (.string a.text) ∧ w.cell? ⟨w0.heap.size, 11, none⟩ = some (.string a.bn) ∧ w.cell? ⟨w0.heap.size, 12, none⟩ = some (.string a.bd) ∧ w.cell? ⟨w0.heap.size, 13, none⟩ = some (.string a.bt) ∧
    w.cell? ⟨w0.heap.size, 14, none⟩ = some (.int .i64 a.epoch) ∧ w.cell? ⟨w0.heap.size, 15, none⟩ = some (.slice a.wrA a.wraps.length a.wrC) ∧ w.cell? ⟨w0.heap.size, 16, none⟩ = some (.int .i64 a.n) ∧ w.cell? ⟨w0.heap.size, 17, none⟩ = some (.int .i64 a.m) ∧ w.cell? ⟨w0.heap.size + 1, 0, none⟩ = some (.int .i64 s) :=
  ⟨h.cell 5 rfl, h.cell 6 rfl, h.cell 7 rfl, h.cell 8 rfl, h.cell 9 rfl, h.cell 10 rfl, h.cell 11 rfl, h.cell 12 rfl, h.cell 13 rfl, h.cell 14 rfl, h.cell 15 rfl, h.cell 16 rfl, h.cell 17 rfl, h.set.cell 0⟩
theorem USt.start (w : World) (a : ActR) : USt w ((w.alloc (.cells (actA a) 39)).alloc (.cells #[.int .i64 0] 3)) a 0 :=
  ⟨((Below.refl _ _).alloc (Nat.le_refl _) _).alloc (by simp) _, Blk.range ((Blk.new w 39 a.cells.toArray).alloc _), Blk.new' _ _ _ (by simp)⟩
theorem USt.put {w0 w : World} {a : ActR} {s : Int} (h : USt w0 w a s) (n : Int) : USt w0 (w.setCell ⟨w0.heap.size + 1, 0, none⟩ (.int .i64 n)) a n :=
  ⟨h.below.setCell (by simp) _, fun j v hv => by
    rw [World.cell?_setCell_far _ _ _ _ (by simp)]
    exact h.act j v hv, h.set.set_ 0 _⟩
theorem note_any {w0 w : World} {a : ActR} {s : Int} (h : USt w0 w a s) (f : Int) (z : Bool) :
    Calls Tryz.prog 137 #[.int .i64 f, .bool z, .pointer (some ⟨w0.heap.size + 1, 0, none⟩)] w fun e w' => e = .returned (.tuple #[]) ∧ USt w0 w' a (orIf s f z) := by
  have c := h.set.cell 0
  have fz := h.set.frozen 0
  cases z
  · have hp := h.put (bits .or .i64 s f)
    go_enter Tryz.func137, Tryz.ntmps137
    go_wp2
    go_end0
    exact ⟨rfl, hp⟩
  · go_enter Tryz.func137, Tryz.ntmps137
    go_wp2
    go_end0
    exact ⟨rfl, h⟩

set_option maxRecDepth 100000 in
set_option maxHeartbeats 4000000 in
theorem used_any (a : ActR) (w : World) : Calls Tryz.prog 90 #[.agg (actA a)] w fun e w' => e = .returned (.int .i64 (usedI a)) ∧ Q w w' := by
  have hU := USt.start w a
  obtain ⟨c1, c2, c3, c4, c5, c6, c7, c8, c9, c10, c11, c12, c13, c14⟩ := hU.cells
  have hB := box0Eq
  go_enter Tryz.func90, Tryz.ntmps90
  go_wp2_with (go_at_call 137; refine (note_any hU _ _).mono ?_; clear hU c1 c2 c3 c4 c5 c6 c7 c8 c9 c10 c11 c12 c13 c14; rintro e w' ⟨rfl, hU⟩; obtain ⟨c1, c2, c3, c4, c5, c6, c7, c8, c9, c10, c11, c12, c13, c14⟩ := hU.cells)
  go_ret
  refine ⟨?_, hU.below⟩
  simp only [usedI, bodyNone, ← empty_none, ← cast0, ← intz]
  rfl
end Go.Proofs.YtjfcllanochhmaaGreatDoor.Item
