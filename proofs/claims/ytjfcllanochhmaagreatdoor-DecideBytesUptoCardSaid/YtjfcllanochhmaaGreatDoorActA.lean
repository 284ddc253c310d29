/-
  Package act's small tests.
-/
import Derived.Test.YtjfcllanochhmaaGreatDoorIdent
set_option linter.unusedVariables false
set_option linter.unusedSimpArgs false
namespace Go.Proofs.YtjfcllanochhmaaGreatDoor.Item
open Go.RowKit Grp Mem _root_.Go.Proofs.YtjfcllanochhmaaGreatDoor.Code Sha Sign

theorem within_at (n lo hi : Int) (r : Bool) (w : World) (h : withinB n lo hi = r) : Calls Tryz.prog 88 #[.int .i64 n, .int .i64 lo, .int .i64 hi] w fun e w' => e = .returned (.bool r) ∧ w = w' := by
  subst h
  by_cases h1 : lo ≤ n
  · go_enter Tryz.func88, Tryz.ntmps88
    go_wp2
    go_ret
    exact ⟨by simp [withinB, h1], rfl⟩
  · have h2 : decide (lo ≤ n) = false := by simpa using h1
    go_enter Tryz.func88, Tryz.ntmps88
    go_wp2
    go_ret
    exact ⟨by simp only [withinB, h2, Bool.false_and]; rfl, rfl⟩
theorem isDigest_at (s : ByteArray) (r : Bool) (w : World) (h : digestB s = r) : Calls Tryz.prog 120 #[.string s] w fun e w' => e = .returned (.bool r) ∧ w = w' := by
  subst h
  go_enter Tryz.func120, Tryz.ntmps120
  go_wp2
  go_ret
  exact ⟨by by_cases h : s.size = 32 <;> simp [digestB, h] <;> omega, rfl⟩
theorem isShort_at (s : ByteArray) (r : Bool) (w : World) (h : shortB s = r) : Calls Tryz.prog 126 #[.string s] w fun e w' => e = .returned (.bool r) ∧ w = w' := by
  subst h
  go_enter Tryz.func126, Tryz.ntmps126
  go_wp2
  go_ret
  exact ⟨by by_cases h : s.size ≤ 500 <;> simp [shortB, h] <;> omega, rfl⟩
theorem isPublic_at (n : Int) (r : Bool) (w : World) (h : publicB n = r) : Calls Tryz.prog 166 #[.int .i64 n] w fun e w' => e = .returned (.bool r) ∧ w = w' := by
  subst h
  go_enter Tryz.func166, Tryz.ntmps166
  go_wp2_with (go_at_call 88; refine (within_at _ _ _ _ _ rfl).mono ?_; rintro e w' ⟨rfl, rfl⟩)
  go_ret
  exact ⟨rfl, rfl⟩

/-! ### An activity that came in by value -/
def actA (a : ActR) : Array Value := a.cells.toArray
/-- The block that holds the activity: what its fields read, in every world that keeps it. -/
structure ActAt (w0 : World) (g : Nat) (a : ActR) : Prop where
  lt : g < w0.heap.size
  range : w0.rangeAt g 0 a.cells
theorem ActAt.new (w : World) (a : ActR) (t : TypeId) : ActAt (w.alloc (.cells (actA a) t)) w.heap.size a := ⟨(Blk.new w t (actA a)).lt, Blk.range (Blk.new w t a.cells.toArray)⟩
theorem ActAt.get {w0 : World} {g : Nat} {a : ActR} (h : ActAt w0 g a) (j : Nat) {v : Value} (hv : a.cells[j]? = some v) : ∀ x : Wd w0, x.w.cell? ⟨g, j, none⟩ = some v := Wd.at0 h.lt h.range j hv
theorem ActAt.load {w0 : World} {g : Nat} {a : ActR} (h : ActAt w0 g a) : ∀ x : Wd w0, (Instr.loadAt 39 (.pointer (some ⟨g, 0, none⟩))).run Tryz.prog x.w = .ok (.agg (actA a)) x.w :=
  Wd.load h.lt h.range Tryz.underlying39 rfl (by kernel_rfl)

/-- At the head of a function: the world behind the boxing is one of a class in which all fields read. -/
theorem ActAt.box (w : World) (a : ActR) (t : TypeId) : ∃ (w1 : World) (x : Wd w1), w.alloc (.cells (actA a) t) = x.w ∧ Q w w1 ∧ ActAt w1 w.heap.size a :=
  ⟨_, ⟨_, Q.refl _⟩, rfl, q_new w _ t, ActAt.new w a t⟩

theorem empty_none (s : ByteArray) : s.toList.isEmpty = noneB s := by
  rw [ByteArray.toList_eq]
  unfold noneB
  rw [← ba_length]
  cases s.data.toList <;> simp
theorem size_digest (s : ByteArray) : ((s.size : Int) == 32) = digestB s := by
  by_cases h : s.size = 32 <;> simp [digestB, h]; omega
theorem box_none (x y z : ByteArray) : (decide (x = ⟨#[]⟩) && (decide (y = ⟨#[]⟩) && decide (z = ⟨#[]⟩))) = (noneB x && (noneB y && noneB z)) := by
  have h : ∀ s : ByteArray, decide (s = ⟨#[]⟩) = noneB s := by
    intro s
    unfold noneB
    rw [decide_eq_decide]
    constructor
    · rintro rfl; rfl
    · intro h
      apply ba_ext
      exact List.eq_nil_of_length_eq_zero (by rw [ba_length]; exact h)
  rw [h, h, h]
theorem str_ne {m o : ByteArray} (h : m ≠ o) : m.toList ≠ o.toList := by
  rw [ByteArray.toList_eq, ByteArray.toList_eq]
  exact fun e => h (ba_ext e)
theorem str_iff (a b : ByteArray) : (a.toList = b.toList) = (a = b) := propext ⟨fun h => Decidable.byContradiction fun hn => str_ne hn h, fun h => congrArg _ h⟩
open Go.Op Go.Instr in
theorem boxEq (x y z x' y' z' : ByteArray) (w : World) : (binOp .eql 34 (.agg #[.string x, .string y, .string z]) (.agg #[.string x', .string y', .string z'])).run Tryz.prog w = .ok (.bool (decide (x = x') && (decide (y = y') && decide (z = z')))) w := by
  have u3 := Tryz.underlying9
  have a3 := Tryz.isAgg9
  have z3 := Tryz.sizeOf9
  have hS : Tryz.prog.underlying 34 = some (.struct (Tryz.prog.fieldsOf 34)) := by kernel_rfl
  have hp : Tryz.prog.stoodInHeld 34 = false := by kernel_rfl
  rw [run_eql_struct, show (10000 : Nat) = 9999 + 1 from rfl, run_equalIn_agg w 9999 34 _ _ hS hp]
  simp only [Program.fieldsOf, Tryz.underlying34]
  go_simp
  simp only [str_iff]
  by_cases h1 : x = x' <;> by_cases h2 : y = y' <;> by_cases h3 : z = z' <;> simp [h1, h2, h3]
open Go.Op Go.Instr in
theorem box0Eq (x y z : ByteArray) (w : World) : (binOp .eql 34 (.agg #[.string x, .string y, .string z]) (.agg #[.string ⟨#[]⟩, .string ⟨#[]⟩, .string ⟨#[]⟩])).run Tryz.prog w = .ok (.bool (noneB x && (noneB y && noneB z))) w := by
  rw [boxEq, box_none]

set_option maxHeartbeats 1000000 in
theorem placed_any (a : ActR) (w : World) : Calls Tryz.prog 87 #[.agg (actA a)] w fun e w' => e = .returned (.bool (placedB a)) ∧ Q w w' := by
  obtain ⟨w1, x, hx, hq1, hA⟩ := ActAt.box w a 39
  have c1 := hA.get 1 rfl
  have c2 := hA.get 2 rfl
  have c3 := hA.get 3 rfl
  clear hA
  go_enter Tryz.func87, Tryz.ntmps87
  go_wp2
  all_goals
    go_ret
    refine ⟨?_, Q.trans hq1 x.q⟩
    simp_all [placedB, withinB, empty_none, size_digest]
  all_goals omega
set_option maxHeartbeats 1000000 in
theorem object_any (a : ActR) (w : World) : Calls Tryz.prog 122 #[.agg (actA a)] w fun e w' => e = .returned (.bool (objectB a)) ∧ Q w w' := by
  obtain ⟨w1, x, hx, hq1, hA⟩ := ActAt.box w a 39
  have c5 := hA.get 5 rfl
  clear hA
  go_enter Tryz.func122, Tryz.ntmps122
  go_wp2_with (go_at_call 120; refine (isDigest_at _ _ _ rfl).mono ?_; rintro e w' ⟨rfl, rfl⟩)
  go_ret
  exact ⟨rfl, Q.trans hq1 x.q⟩
set_option maxHeartbeats 1000000 in
theorem target_any (a : ActR) (w : World) : Calls Tryz.prog 124 #[.agg (actA a)] w fun e w' => e = .returned (.bool (targetB a)) ∧ Q w w' := by
  obtain ⟨w1, x, hx, hq1, hA⟩ := ActAt.box w a 39
  have c6 := hA.get 6 rfl
  clear hA
  go_enter Tryz.func124, Tryz.ntmps124
  go_wp2_with (go_at_call 86; refine (idRight_any _ _).mono ?_; rintro e w' ⟨rfl, hq⟩)
  go_ret
  exact ⟨rfl, Q.trans hq1 (Q.trans x.q hq)⟩
set_option maxHeartbeats 1000000 in
theorem home_any (a : ActR) (w : World) : Calls Tryz.prog 129 #[.agg (actA a)] w fun e w' => e = .returned (.bool (homeB a)) ∧ Q w w' := by
  obtain ⟨w1, x, hx, hq1, hA⟩ := ActAt.box w a 39
  have c16 := hA.get 16 rfl
  have c17 := hA.get 17 rfl
  clear hA
  go_enter Tryz.func129, Tryz.ntmps129
  go_wp2_with (first | (go_at_call 166; refine (isPublic_at _ _ _ rfl).mono ?_; rintro e w' ⟨rfl, rfl⟩) | (go_at_call 88; refine (within_at _ _ _ _ _ rfl).mono ?_; rintro e w' ⟨rfl, rfl⟩))
  all_goals
    go_ret
    refine ⟨?_, Q.trans hq1 (Wd.q _)⟩
    simp [homeB, *]
end Go.Proofs.YtjfcllanochhmaaGreatDoor.Item
