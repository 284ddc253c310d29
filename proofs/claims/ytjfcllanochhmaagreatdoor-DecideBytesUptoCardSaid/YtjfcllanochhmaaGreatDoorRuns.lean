/-
  Arms of the walk whose run is known: build, buildSlice, move, extract, a store far off; append of rows from any source.
-/
import Derived.Test.YtjfcllanochhmaaGreatDoorStore
import Derived.Test.YtjfcllanochhmaaGreatDoorBld2
import Derived.Deep.Cut
set_option linter.unusedVariables false
set_option linter.unusedSimpArgs false
namespace Go.Proofs.YtjfcllanochhmaaGreatDoor.Mem
open Go.RowKit Grp

/-- A struct that is built of parts, its run known. -/
theorem wpList_build_run {P : Program} {ops : Array Oper} {rest : List Oper} {o : Oper} {a : Act} {w : World} {K : Exit → Act → World → Prop} (ty : TypeId) (parts : Array (Nat × Operand)) (vs : Array (Nat × Value)) (v : Value) (ho : o.op = .build ty parts) (hw : Region.wanted o (yielded ops a.tmps) = true)
    (hp : (parts.map fun x => (x.1, a.eval x.2)) = vs) (hr : (Instr.build ty vs).run P w = .ok v w) (h : wpList P ops K rest (a.put o.dst v) w) : wpList P ops K (o :: rest) a w := by
  refine wpList_step fun K' hK => ?_
  rw [if_pos hw]
  subst hp
  unfold Oper.wp execOp
  simp only [ho, Sem.run_bind, hr, Result.andThen_ok, Sem.run_pure]
  exact hK _ _ h
/-- The slice of arguments that are written out, its run known (it is laid in a new block). -/
theorem wpList_buildSlice_run {P : Program} {ops : Array Oper} {rest : List Oper} {o : Oper} {a : Act} {w w' : World} {K : Exit → Act → World → Prop} (ty : TypeId) (len : Nat) (parts : Array (Nat × Operand)) (vs : Array (Nat × Value)) (v : Value) (ho : o.op = .buildSlice ty len parts) (hw : Region.wanted o (yielded ops a.tmps) = true)
    (hp : (parts.map fun x => (x.1, a.eval x.2)) = vs) (hr : (Instr.buildSlice ty len vs).run P w = .ok v w') (h : wpList P ops K rest (a.put o.dst v) w') : wpList P ops K (o :: rest) a w := by
  refine wpList_step fun K' hK => ?_
  rw [if_pos hw]
  subst hp
  unfold Oper.wp execOp
  simp only [ho, Sem.run_bind, hr, Result.andThen_ok, Sem.run_pure]
  exact hK _ _ h
theorem wpList_move {P : Program} {ops : Array Oper} {rest : List Oper} {o : Oper} {a : Act} {w : World} {K : Exit → Act → World → Prop} (x : Operand) (v : Value) (ho : o.op = .move x) (hw : Region.wanted o (yielded ops a.tmps) = true) (hx : a.eval x = v) (h : wpList P ops K rest (a.put o.dst v) w) : wpList P ops K (o :: rest) a w := by
  refine wpList_step fun K' hK => ?_
  rw [if_pos hw]
  unfold Oper.wp execOp
  simp only [ho, hx, Sem.run_bind, Result.andThen_ok, Sem.run_pure]
  exact hK _ _ h
/-- A value at a field of a struct, its run known. -/
theorem wpList_extract_run {P : Program} {ops : Array Oper} {rest : List Oper} {o : Oper} {a : Act} {w : World} {K : Exit → Act → World → Prop} (x : Operand) (i : Nat) (vs : Array Value) (v : Value) (ho : o.op = .extract x i) (hw : Region.wanted o (yielded ops a.tmps) = true)
    (hx : a.eval x = .tuple vs) (hv : vs[i]? = some v) (h : wpList P ops K rest (a.put o.dst v) w) : wpList P ops K (o :: rest) a w := by
  refine wpList_step fun K' hK => ?_
  rw [if_pos hw]
  unfold Oper.wp execOp
  simp [ho, hx, Instr.extract, hv, Sem.run_bind, Result.andThen_ok, Sem.run_pure]
  exact hK _ _ h
theorem setCells_far {g k : Nat} (hk : k ≠ g) : ∀ (vs : List Value) (o : Nat) (w : World), (w.setCells g o vs).heap[k]? = w.heap[k]? := by
  intro vs
  induction vs with
  | nil => intro o w; rfl
  | cons v vs ih => intro o w; exact (ih (o + 1) _).trans (Below.heap_setCell _ _ _ _ hk)
/-- A struct is stored into a local block, at offset o; the other blocks are as they were. -/
theorem wpList_store_far {P : Program} {ops : Array Oper} {rest : List Oper} {op : Oper} {a : Act} {w : World} {K : Exit → Act → World → Prop} {g o : Nat} {t : TypeId} {cs : List Value} (hb : Blk w g t cs.toArray) (hgd : op.guard = none) (ty : TypeId) (x y : Operand) (vs : List Value) (ho : op.op = .store ty x y)
    (hx : a.eval x = .pointer (some ⟨g, o, none⟩)) (hy : a.eval y = .agg vs.toArray) (hi : (P.info? ty).map (·.size) = some vs.length) (h1 : vs.toArray.all (·.oneCell') = true) (hl : o + vs.length ≤ cs.length)
    (h : ∀ W, Blk W g t (splice cs o vs).toArray → (∀ B w0, B ≤ g → Below B w0 w → Below B w0 W) → (∀ k, k ≠ g → W.heap[k]? = w.heap[k]?) → wpList P ops K rest (a.put op.dst undef) W) : wpList P ops K (op :: rest) a w :=
  wpList_store_mid hgd ty x y ho g o vs.toArray hx hy (by simpa using hb.there hl) (by simpa using hi) h1 (by
    have := h _ (Blk.setCells vs o cs w hb hl) (fun B w0 hB hw => below_setCells hB vs o w0 w hw) (fun k hk => setCells_far hk vs o w)
    simpa using this)
end Go.Proofs.YtjfcllanochhmaaGreatDoor.Mem

namespace Go.Proofs.YtjfcllanochhmaaGreatDoor.Mem
open Go.RowKit Grp

section
variable {α : Type} {f : α → List Value} {k : Nat}
theorem flat_len (hk : ∀ x, (f x).length = k) : ∀ l : List α, (l.flatMap f).length = l.length * k
  | [] => by simp
  | x :: l => by rw [List.flatMap_cons, List.length_append, hk, flat_len hk l, List.length_cons, Nat.succ_mul, Nat.add_comm]
theorem flat_get (hk : ∀ x, (f x).length = k) : ∀ (l : List α) (j i : Nat) (h : j < l.length), i < k → (l.flatMap f)[j * k + i]? = (f l[j])[i]?
  | x :: l, 0, i, h, hi => by
    rw [List.flatMap_cons, Nat.zero_mul, Nat.zero_add, List.getElem?_append_left (by rw [hk]; exact hi)]
    rfl
  | x :: l, j + 1, i, h, hi => by
    rw [List.flatMap_cons, List.getElem?_append_right (by rw [hk, Nat.succ_mul]; omega), hk]
    have := flat_get hk l j i (by simpa using h) hi
    rw [show (j + 1) * k + i - k = j * k + i by rw [Nat.succ_mul]; omega, this]
    rfl
theorem flat_at (hk : ∀ x, (f x).length = k) (l : List α) (m : Nat) (u : Value) (h : (l.flatMap f)[m]? = some u) : ∃ (j i : Nat) (hj : j < l.length), m = j * k + i ∧ i < k ∧ (f l[j])[i]? = some u := by
  have hm := (List.getElem?_eq_some_iff.1 h).1
  rw [flat_len hk] at hm
  have hk0 : 0 < k := by
    rcases Nat.eq_zero_or_pos k with h0 | h0
    · subst h0; omega
    · exact h0
  have hj : m / k < l.length := Nat.div_lt_of_lt_mul (by rw [Nat.mul_comm]; exact hm)
  have he : m = m / k * k + m % k := by rw [Nat.mul_comm]; exact (Nat.div_add_mod m k).symm
  refine ⟨m / k, m % k, hj, he, Nat.mod_lt _ hk0, ?_⟩
  rw [← flat_get hk l _ _ hj (Nat.mod_lt _ hk0), ← he]
  exact h
theorem RowsAt.news {w : World} {b o : Nat} {l : List α} (hk : ∀ x, (f x).length = k) (h : ∀ j (h : j < l.length), w.rangeAt b (o + j * k) (f l[j])) : ∀ j u, (l.flatMap f)[j]? = some u → w.cell? ((⟨b, o, none⟩ : Addr).add j) = some u := fun m u hu => by
  obtain ⟨j, i, hj, rfl, hi, hv⟩ := flat_at hk l m u hu
  rw [Addr.add_mid, ← Nat.add_assoc]
  exact h j hj i u hv
theorem Owns.rows {w : World} {base n : Nat} {e : TypeId} {A : Option Addr} {c : Nat} {l : List α} (hk : ∀ x, (f x).length = k) (h : Owns w base e k (.slice A n c) n (l.flatMap f)) (hn : n = l.length) : RowsAt w A k f l := fun h0 => by
  subst hn
  rcases h.2 with ⟨e1, h1⟩ | ⟨g, cap, cur, fz, hv, hb, hg, _⟩
  · omega
  · injection hv with hA _ _
    subst hA
    refine ⟨g, 0, rfl, (Array.getElem?_eq_some_iff.1 hg).1, fun j hj i v hv => ?_⟩
    have hi : i < k := by rw [← hk l[j]]; exact (List.getElem?_eq_some_iff.1 hv).1
    have := h.cells (g := g) rfl (j * k + i) v (by rw [flat_get hk l j i hj hi]; exact hv)
    rw [Addr.add_mid] at this
    rw [Nat.add_assoc]
    exact this
theorem RowsAt.one (w : World) (t : TypeId) (x : α) (cs : Array Value) (hc : cs = (f x).toArray) : RowsAt (w.alloc (.cells cs t)) (some ⟨w.heap.size, 0, none⟩) k f [x] := fun _ => by
  subst hc
  have hb := Blk.new w t (f x).toArray
  refine ⟨_, _, rfl, hb.lt, fun j hj => ?_⟩
  have : j = 0 := by simpa using hj
  subst this
  rw [Nat.zero_mul]
  exact hb.range
theorem RowsAt.take {w : World} {A : Option Addr} {l : List α} (h : RowsAt w A k f l) (n : Nat) : RowsAt w A k f (l.take n) := fun h0 => by
  rw [List.length_take] at h0
  obtain ⟨b, o, e, hb, hc⟩ := h (by omega)
  exact ⟨b, o, e, hb, fun j hj => by rw [List.length_take] at hj; rw [List.getElem_take]; exact hc j (by omega)⟩

theorem run_append_nil {P : Program} (w : World) (t ty e : TypeId) (i : TypeInfo) (ht : P.underlying t = some (.slice e)) (hi : P.info? e = some i) (B A : Option Addr) (n cap c : Nat) (h : n ≤ cap) :
    (Builtin.append_ #[t, t] ty #[.slice B n cap, .slice A 0 c]).run P w = .ok (.slice B n cap) w := by
  cases A <;> cases B <;> simp [Builtin.append_, run_underlying ht, sizeOf, typeInfo, hi, Builtin.lenOf, h, Builtin.firstCells, storeCells, loadCells, loadCellsFrom]
theorem run_append_rows {P : Program} (hk : ∀ x, (f x).length = k) (ho : ∀ x, ∀ v ∈ f x, v.oneCell' = true) (w : World) (t ty e : TypeId) (i : TypeInfo) (z : Value) (bytes : Nat) (ht : P.underlying t = some (.slice e)) (hi : P.info? e = some i) (hz : i.zero = some z) (hz1 : i.size = k) (hz2 : i.bytes = bytes) (hz3 : z.cells.size = k) (hk0 : 0 < k) (hby : bytes ≤ 10000)
    (base : Nat) (v : Value) (n : Nat) (L : List α) (hown : Owns w base e k v n (L.flatMap f)) (A : Option Addr) (m c : Nat) (M : List α) (hS : RowsAt w A k f M) (hm : M.length = m) (hsz : n + m ≤ 1000000) (hbase : base ≤ w.heap.size) :
    ∃ v' w', (Builtin.append_ #[t, t] ty #[v, .slice A m c]).run P w = .ok v' w' ∧ Owns w' base e k v' (n + m) ((L ++ M).flatMap f) ∧ w.grownBy w' v.ownBlock := by
  by_cases h0 : m = 0
  · subst h0
    have hM : M = [] := List.eq_nil_of_length_eq_zero hm
    subst hM
    obtain ⟨B, cap, rfl, hc1, hc2⟩ := hown.shape
    refine ⟨_, _, run_append_nil w t ty e i ht hi B A n cap c hc1, by rw [List.append_nil]; exact hown, ⟨rfl, rfl, rfl, Nat.le_refl _, fun _ _ _ => rfl⟩⟩
  · obtain ⟨b, o, rfl, hb, hc⟩ := hS (by omega)
    rw [List.flatMap_append]
    have hmul : (n + m) * bytes ≤ 140737488355328 := Nat.le_trans (Nat.mul_le_mul hsz hby) (by decide)
    exact run_append_owns w base t ty e i z k bytes ht hi hz hz1 hz2 hz3 hk0 v n (L.flatMap f) hown ⟨b, o, none⟩ m c (M.flatMap f) (by rw [flat_len hk, hm]) (RowsAt.news hk hc) (fun u hu => by obtain ⟨x, _, hx⟩ := List.mem_flatMap.1 hu; exact ho x u hx) (by simp only [maxLen]; omega) hmul hbase
theorem wpList_append_rows {P : Program} (hk : ∀ x, (f x).length = k) (h1 : ∀ x, ∀ v ∈ f x, v.oneCell' = true) {w : World} {ops : Array Oper} {rest : List Oper} {o : Oper} {a : Act} {Q : Exit → Act → World → Prop} (hw : Region.wanted o (yielded ops a.tmps) = true) (s x : Operand) (t e : TypeId) (i : TypeInfo) (z : Value) (bytes : Nat)
    (ho : o.op = .call { callee := .builtin .append, args := #[s, x], argTypes := #[t, t] }) (ht : P.underlying t = some (.slice e)) (hi : P.info? e = some i) (hz : i.zero = some z) (hz1 : i.size = k) (hz2 : i.bytes = bytes) (hz3 : z.cells.size = k) (hk0 : 0 < k) (hby : bytes ≤ 10000)
    (base : Nat) (v : Value) (n : Nat) (L : List α) (hs : a.eval s = v) (hown : Owns w base e k v n (L.flatMap f)) (A : Option Addr) (m c : Nat) (M : List α) (hx : a.eval x = .slice A m c) (hS : RowsAt w A k f M) (hm : M.length = m) (hsz : n + m ≤ 1000000) (hbase : base ≤ w.heap.size)
    (h : ∀ A' cap w', n + m ≤ cap → cap ≤ maxLen → Owns w' base e k (.slice A' (n + m) cap) (n + m) ((L ++ M).flatMap f) → w.grownBy w' v.ownBlock → wpList P ops Q rest (a.put o.dst (.slice A' (n + m) cap)) w') : wpList P ops Q (o :: rest) a w :=
  wpList_step fun _ hK => by
    rw [if_pos hw]
    obtain ⟨v', w', hr, h2, h3⟩ := run_append_rows (P := P) hk h1 w t o.type e i z bytes ht hi hz hz1 hz2 hz3 hk0 hby base v n L hown A m c M hS hm hsz hbase
    obtain ⟨A', cap, rfl, hc1, hc2⟩ := h2.shape
    unfold Oper.wp execOp
    simp only [ho, resolve, invoke, builtin, Sem.run_bind, Sem.run_pure, Result.andThen_ok, List.map_toArray, List.map_cons, List.map_nil, hs, hx, hr]
    exact hK _ _ (h A' cap w' hc1 hc2 h2 h3)
end
/-- A row of the call's own is written: what lies below it stays. -/
theorem q_grown {w0 w w' : World} {base n size : Nat} {e : TypeId} {v : Value} {xs : List Value} (hq : Q w0 w) (hB : w0.heap.size ≤ base) (hown : Owns w base e size v n xs) (hg : w.grownBy w' v.ownBlock) : Q w0 w' :=
  Below.grown hq hg hq.size fun k hk => Nat.le_trans hB (hown.lt k hk).1
end Go.Proofs.YtjfcllanochhmaaGreatDoor.Mem
