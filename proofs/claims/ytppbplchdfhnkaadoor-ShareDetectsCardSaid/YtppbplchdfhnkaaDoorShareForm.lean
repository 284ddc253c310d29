/-
  The contract of package share's interpolate.
-/
import Derived.Test.YtppbplchdfhnkaaDoorShareWalk
import Derived.Deep.RegionWith
import Derived.Laws.CopyRow
import Derived.Laws.OwnMore
set_option linter.unusedVariables false
set_option linter.unusedSimpArgs false
namespace Go.Proofs.YtppbplchdfhnkaaDoor.Share
open Go.RowKit Grp Mem

/-- Shares as cells. -/
def cells2 : List (Int × Int) → List Value
  | [] => []
  | s :: r => .int .i64 s.1 :: .int .i64 s.2 :: cells2 r
theorem cells2_length : ∀ l : List (Int × Int), (cells2 l).length = l.length * 2 := by
  intro l
  induction l with
  | nil => rfl
  | cons s r ih => simp [cells2, ih]; omega
theorem cells2_0 : ∀ (l : List (Int × Int)) (j : Nat) (h : j < l.length), (cells2 l)[j * 2]? = some (.int .i64 l[j].1) := by
  intro l
  induction l with
  | nil => intro j h; simp at h
  | cons s r ih =>
    intro j h
    cases j with
    | zero => rfl
    | succ j =>
      rw [show (j + 1) * 2 = j * 2 + 1 + 1 by omega, cells2, List.getElem?_cons_succ, List.getElem?_cons_succ]
      exact ih j (by simpa using h)
theorem cells2_1 : ∀ (l : List (Int × Int)) (j : Nat) (h : j < l.length), (cells2 l)[j * 2 + 1]? = some (.int .i64 l[j].2) := by
  intro l
  induction l with
  | nil => intro j h; simp at h
  | cons s r ih =>
    intro j h
    cases j with
    | zero => rfl
    | succ j =>
      rw [show (j + 1) * 2 + 1 = j * 2 + 1 + 1 + 1 by omega, cells2, List.getElem?_cons_succ, List.getElem?_cons_succ]
      exact ih j (by simpa using h)
theorem cells2_set : ∀ (a r : List (Int × Int)) (s : Int × Int) (c : Int), (cells2 (a ++ s :: r)).set (a.length * 2 + 1) (.int .i64 c) = cells2 (a ++ (s.1, c) :: r) := by
  intro a
  induction a with
  | nil => intro r s c; rfl
  | cons t a ih =>
    intro r s c
    rw [List.length_cons, show (a.length + 1) * 2 + 1 = a.length * 2 + 1 + 1 + 1 by omega]
    simp only [List.cons_append, cells2, List.set_cons_succ]
    rw [ih]
theorem cells2_one (l : List (Int × Int)) : ∀ v ∈ cells2 l, v.oneCell' = true := by
  induction l with
  | nil => intro v h; cases h
  | cons s r ih =>
    intro v h
    rw [cells2, List.mem_cons, List.mem_cons] at h
    rcases h with rfl | rfl | h
    · rfl
    · rfl
    · exact ih v h
theorem Shares.of {w : World} {g : Nat} {t : TypeId} {l m : List (Int × Int)} (h : Blk w g t (cells2 (l ++ m)).toArray) : Shares w (some ⟨g, 0, none⟩) l := fun h0 =>
  ⟨g, 0, rfl, h.lt, fun j hj => by
    have hj' : j < (l ++ m).length := by rw [List.length_append]; omega
    have e0 := cells2_0 (l ++ m) j hj'
    have e1 := cells2_1 (l ++ m) j hj'
    rw [List.getElem_append_left hj] at e0 e1
    rw [Nat.zero_add, h.cell, h.cell, List.getElem?_toArray, List.getElem?_toArray]
    exact ⟨e0, e1⟩⟩

theorem interp_length : ∀ (l acc : List (Int × Int)), (l.foldl addPt acc).length = acc.length + l.length := by
  intro l
  induction l with
  | nil => intro acc; rfl
  | cons s r ih => intro acc; rw [List.foldl_cons, ih, addPt_len, List.length_cons]; omega
theorem interp_len' (l : List (Int × Int)) : (interp l).length = l.length := by
  have := interp_length l []
  rw [List.length_nil, Nat.zero_add] at this
  exact this
/-- The row behind k rounds. -/
def formAt (l : List (Int × Int)) (k : Nat) : List (Int × Int) := interp (l.take k) ++ l.drop k
theorem formAt_zero (l : List (Int × Int)) : formAt l 0 = l := rfl
theorem formAt_all (l : List (Int × Int)) : formAt l l.length = interp l := by simp [formAt]
theorem formAt_here (l : List (Int × Int)) (k : Nat) (h : k < l.length) : formAt l k = interp (l.take k) ++ l[k] :: l.drop (k + 1) := by
  unfold formAt
  rw [List.drop_eq_getElem_cons h]
theorem interp_take (l : List (Int × Int)) (k : Nat) (h : k < l.length) : interp (l.take (k + 1)) = addPt (interp (l.take k)) l[k] := by
  unfold interp
  rw [List.take_succ_eq_append_getElem h, List.foldl_append]
  rfl
/-- The coefficient of round k. -/
def coeff (l : List (Int × Int)) (k : Nat) (h : k < l.length) : Int := gmul (gsub l[k].2 (val (interp (l.take k)) l[k].1)) (ginv (prodI (interp (l.take k)) l[k].1))
theorem formAt_succ (l : List (Int × Int)) (k : Nat) (h : k < l.length) : (cells2 (formAt l k)).set (k * 2 + 1) (.int .i64 (coeff l k h)) = cells2 (formAt l (k + 1)) := by
  have hl : (interp (l.take k)).length = k := by rw [interp_len', List.length_take]; omega
  have h1 := cells2_set (interp (l.take k)) (l.drop (k + 1)) l[k] (coeff l k h)
  rw [hl] at h1
  rw [formAt_here l k h, h1]
  unfold formAt
  rw [interp_take l k h]
  unfold addPt coeff
  simp
theorem prod_ne (l : List (Int × Int)) (hd : Dist l) (k : Nat) (h : k < l.length) : prodI (interp (l.take k)) l[k].1 % 2305843009213693951 ≠ 0 := by
  intro h0
  have hdk : Dist (l.take k) := List.Pairwise.sublist (List.take_sublist k l) hd
  refine prodX_ne l[k].1 (interp (l.take k)) (fun s hs he => ?_) ((prodI_eqv _ _).symm.trans (eqv_zero.2 h0))
  have h1 : s.1 ∈ (interp (l.take k)).map Prod.fst := List.mem_map_of_mem hs
  rw [interp_fst _ hdk] at h1
  obtain ⟨u, hu, hus⟩ := List.mem_map.1 h1
  obtain ⟨i, hi, rfl⟩ := List.getElem_of_mem hu
  have hik : i < k := by rw [List.length_take] at hi; omega
  have := (List.pairwise_iff_getElem.1 hd) i k (by omega) h hik
  rw [List.getElem_take] at hus
  exact this (by rw [hus]; exact he.symm)

/-- copy of elements of any size. -/
theorem run_copy_size {P : Program} (w : World) (dT sT ty elem : TypeId) (size g dLen dCap : Nat) (a : Addr) (sLen sCap : Nat) (cur : Array Value) (t : TypeId) (cs : List Value)
    (hu : P.underlying dT = some (.slice elem)) (hs : (P.info? elem).map (·.size) = some size)
    (hg : w.heap[g]? = some (.cells cur t (0, 0))) (hn : cs.length = Nat.min sLen dLen * size)
    (hsrc : ∀ j v, cs[j]? = some v → w.cell? (a.add j) = some v) (hfit : cs.length ≤ cur.size) (h1 : ∀ v ∈ cs, v.oneCell' = true) :
    (Builtin.copy_ #[dT, sT] ty #[.slice (some ⟨g, 0, none⟩) dLen dCap, .slice (some a) sLen sCap]).run P w =
      .ok (goInt (Nat.min sLen dLen : Nat)) (w.setRow g (cs ++ cur.toList.drop cs.length).toArray) := by
  have hl := run_loadCells_list (P := P) w a cs hsrc
  have hst := run_storeCells_at P g 0 t cs 0 cur w hg (by simpa using hfit) h1
  cases hq : P.info? elem with
  | none => simp [hq] at hs
  | some i =>
    have hi : i.size = size := by simpa [hq] using hs
    simp [Builtin.copy_, run_underlying hu, Builtin.lenOf, Builtin.firstCells, sizeOf, typeInfo, hq, hi, ← hn, hl, hst]
end Go.Proofs.YtppbplchdfhnkaaDoor.Share
