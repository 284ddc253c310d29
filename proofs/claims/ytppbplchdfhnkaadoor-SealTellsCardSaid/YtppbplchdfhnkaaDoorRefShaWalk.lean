/-
  The contracts of package agoraref03's turn, firsts, adds, words and next.
-/
import Derived.Test.YtppbplchdfhnkaaDoorRefShaSpec
import Derived.Test.YtppbplchdfhnkaaDoorRefCode
import Derived.Maps.AppendAt
import Derived.Deep.RegionHeld3
import Derived.Deep.RegionLaw
set_option linter.unusedVariables false
set_option linter.unusedSimpArgs false
namespace Go.Proofs.YtppbplchdfhnkaaDoor.Sha
open Go.RowKit Grp Mem _root_.Go.Proofs.YtppbplchdfhnkaaDoor.Code

theorem word_info : (Tryd.prog.info? 89).map (fun i => (i.zero, i.size, i.bytes)) = some (some (.int .u32 0), 1, 4) := by kernel_rfl

set_option maxRecDepth 100000 in
set_option maxHeartbeats 400000 in
theorem rturn_nat (x : Int) (n : Nat) (w : World) (h : U32 x) (n0 : 0 < n) (n1 : n < 32) :
    Calls Tryd.prog 128 #[.int .u32 x, .int .i64 n] w fun e w' => e = .returned (.int .u32 (rot x n)) ∧ ∃ q, w' = w.drewN q := by
  obtain ⟨x0, x1⟩ := h
  rw [← rot_comm]
  have e2 : (32 - (n : Int)).toNat = 32 - n := by omega
  have e3 : (32 : Int) - (n : Int) = ((32 - n : Nat) : Int) := by omega
  have n2 : (n : Int) < 32 := by omega
  go_enter Tryd.func128, Tryd.ntmps128
  go_wp2_with fail
  go_quiet (fail)
  go_wp2
  go_ret
  exact ⟨rfl, _, rfl⟩
theorem rturn_any (x m : Int) (w : World) (h : U32 x) (n0 : 0 < m) (n1 : m < 32) :
    Calls Tryd.prog 128 #[.int .u32 x, .int .i64 m] w fun e w' => e = .returned (.int .u32 (rot x m.toNat)) ∧ ∃ q, w' = w.drewN q := by
  obtain ⟨n, rfl⟩ := Int.eq_ofNat_of_zero_le (show 0 ≤ m by omega)
  exact rturn_nat x n w h (by omega) (by omega)
/-- A quiet call behind quiet operations. -/
theorem rquiet {P : Program} {f : FuncId} {args : Array Value} {w : World} {a n : Nat} {v : Value}
    (h : Calls P f args (w.drewN (a + n)) fun e w' => e = .returned v ∧ ∃ q, w' = (w.drewN (a + n)).drewN q) :
    Calls P f args (w.drewN (a + n)) fun e w'' => e = .returned v ∧ ∃ m, w'' = w.drewN (a + m) :=
  h.mono fun e w' ⟨he, q, hm⟩ => ⟨he, n + q, by rw [hm, World.drewN_drewN, Nat.add_assoc]⟩

/-- append onto a row that lies: what the row held stays readable at its old place. -/
theorem run_append_keep {P : Program} (w : World) (base : Nat) (t ty e : TypeId) (i : TypeInfo) (z : Value) (size bytes : Nat) (ht : P.underlying t = some (.slice e)) (hi : P.info? e = some i) (hz : i.zero = some z)
    (hsize : i.size = size) (hby : i.bytes = bytes) (hzs : z.cells.size = size) (hsz : 0 < size)
    (g cap n : Nat) (xs : List Value) (hown : Owns w base e size (.slice (some ⟨g, 0, none⟩) n cap) n xs)
    (a : Addr) (m c : Nat) (news : List Value) (hl : news.length = m * size) (hnews : ∀ j u, news[j]? = some u → w.cell? (a.add j) = some u) (h1 : ∀ u ∈ news, u.oneCell' = true)
    (h63 : n + m ≤ maxLen) (hbytes : (n + m) * bytes ≤ 140737488355328) (v' : Value) (w' : World) (hr : (Builtin.append_ #[t, t] ty #[.slice (some ⟨g, 0, none⟩) n cap, .slice (some a) m c]).run P w = .ok v' w') :
    ∀ j u, xs[j]? = some u → w'.cell? ⟨g, j, none⟩ = some u := by
  intro j u hu
  have hold := hown.cells (g := g) rfl j u hu
  have hadd : (⟨g, 0, none⟩ : Addr).add j = ⟨g, j, none⟩ := by unfold Addr.add; split <;> simp_all
  rw [hadd] at hold
  rcases hown.2 with ⟨hv, _⟩ | ⟨g', cap', cur, fz, hv, hbg, hg, hfz, hnc, hcm, hcs, htake⟩
  · cases hv
  · cases hv
    subst hsize
    subst hby
    have hsmall : n + m ≤ 9223372036854775807 := by simp only [maxLen] at h63; omega
    have hjl : j < xs.length := (List.getElem?_eq_some_iff.1 hu).1
    by_cases hroom : n + m ≤ cap
    · have hfit : n * i.size + news.length ≤ cur.size := by rw [hl, hcs, ← Nat.add_mul]; exact Nat.mul_le_mul_right _ hroom
      have hf := run_firstCells_some (P := P) w i.size m a m c news hl hnews
      have hst := run_storeCells_loose P g (n * i.size) e fz news 0 cur w hg hfz (by simpa using hfit) h1
      simp only [Nat.add_zero] at hst
      have hr2 : (Builtin.append_ #[t, t] ty #[.slice (some ⟨g, 0, none⟩) n cap, .slice (some a) m c]).run P w =
          .ok (.slice (some ⟨g, 0, none⟩) (n + m) cap) (w.setRow g (cur.toList.take (n * i.size) ++ news ++ cur.toList.drop (n * i.size + news.length)).toArray) := by
        simp [Builtin.append_, run_underlying ht, sizeOf, typeInfo, hi, Builtin.lenOf, hroom, hf, Addr.add_lit, hst]
      rw [hr2] at hr
      cases hr
      rw [cell_of_row _ g j _ e fz (setRow_heap w g cur _ e _ hg), htake, List.getElem?_toArray, List.append_assoc, List.getElem?_append_left hjl]
      exact hu
    · have holds : ∀ j u, xs[j]? = some u → w.cell? ((⟨g, 0, none⟩ : Addr).add j) = some u := hown.cells (g := g) rfl
      have hr2 := run_append_grow (P := P) w t ty e i z ht hi hz ⟨g, 0, none⟩ n cap xs hown.1 holds a m c news hl hnews (by omega) (by omega) (growslice_fits (by omega) hbytes)
      rw [hr2] at hr
      cases hr
      exact (World.cell?_of_block (Below.heap_alloc w.drew _ g (Array.getElem?_eq_some_iff.1 hg).1)).trans hold

/-- append, as one step of a region that draws its order, onto a row that lies. -/
theorem step_append_keep {P : Program} {w : World} {ops : Array Oper} {o : Oper} {a : Act} {K : Act → World → Prop} {Q : Exit → Act → World → Prop} {E : Prop} (hgd : o.guard = none) (s x : Operand) (t : TypeId)
    (ho : o.op = .call { callee := .builtin .append, args := #[s, x], argTypes := #[t, t] })
    (base : Nat) (e : TypeId) (i : TypeInfo) (z : Value) (size bytes : Nat) (ht : P.underlying t = some (.slice e)) (hi : P.info? e = some i) (hz : i.zero = some z)
    (hsize : i.size = size) (hby : i.bytes = bytes) (hzs : z.cells.size = size) (hsz : 0 < size)
    (g cp n : Nat) (xs : List Value) (hs : a.eval s = .slice (some ⟨g, 0, none⟩) n cp) (hown : Owns w base e size (.slice (some ⟨g, 0, none⟩) n cp) n xs)
    (ad : Addr) (m c : Nat) (news : List Value) (hx : a.eval x = .slice (some ad) m c) (hl : news.length = m * size) (hnews : ∀ j u, news[j]? = some u → w.cell? (ad.add j) = some u) (h1 : ∀ u ∈ news, u.oneCell' = true)
    (h63 : n + m ≤ maxLen) (hbytes : (n + m) * bytes ≤ 140737488355328) (hbase : base ≤ w.heap.size)
    (h : ∀ A cap w', n + m ≤ cap → cap ≤ maxLen → Owns w' base e size (.slice A (n + m) cap) (n + m) (xs ++ news) → w.grownBy w' (some g) → (∀ j u, xs[j]? = some u → w'.cell? ⟨g, j, none⟩ = some u) → K (a.put o.dst (.slice A (n + m) cap)) w') :
    if Region.wanted o (yielded ops a.tmps) = true then Oper.wp P o a w K Q else E := by
  have hw : Region.wanted o (yielded ops a.tmps) = true := by simp [Region.wanted, hgd]
  rw [if_pos hw]
  obtain ⟨v', w', hr, h2, h3⟩ := run_append_owns (P := P) w base t o.type e i z size bytes ht hi hz hsize hby hzs hsz _ n xs hown ad m c news hl hnews h1 h63 hbytes hbase
  have hk := run_append_keep (P := P) w base t o.type e i z size bytes ht hi hz hsize hby hzs hsz g cp n xs hown ad m c news hl hnews h1 h63 hbytes v' w' hr
  obtain ⟨A, cap, rfl, hc1, hc2⟩ := h2.shape
  unfold Oper.wp execOp
  simp only [ho, resolve, invoke, builtin, Sem.run_bind, Sem.run_pure, Result.andThen_ok, List.map_toArray, List.map_cons, List.map_nil, hs, hx, hr]
  exact h A cap w' hc1 hc2 h2 h3 hk

/-- append, as one step of a region that draws its order. -/
theorem step_append_owns {P : Program} {w : World} {ops : Array Oper} {o : Oper} {a : Act} {K : Act → World → Prop} {Q : Exit → Act → World → Prop} {E : Prop} (hgd : o.guard = none) (s x : Operand) (t : TypeId)
    (ho : o.op = .call { callee := .builtin .append, args := #[s, x], argTypes := #[t, t] })
    (base : Nat) (e : TypeId) (i : TypeInfo) (z : Value) (size bytes : Nat) (ht : P.underlying t = some (.slice e)) (hi : P.info? e = some i) (hz : i.zero = some z)
    (hsize : i.size = size) (hby : i.bytes = bytes) (hzs : z.cells.size = size) (hsz : 0 < size)
    (v : Value) (n : Nat) (xs : List Value) (hs : a.eval s = v) (hown : Owns w base e size v n xs)
    (ad : Addr) (m c : Nat) (news : List Value) (hx : a.eval x = .slice (some ad) m c) (hl : news.length = m * size) (hnews : ∀ j u, news[j]? = some u → w.cell? (ad.add j) = some u) (h1 : ∀ u ∈ news, u.oneCell' = true)
    (h63 : n + m ≤ maxLen) (hbytes : (n + m) * bytes ≤ 140737488355328) (hbase : base ≤ w.heap.size)
    (h : ∀ A cap w', n + m ≤ cap → cap ≤ maxLen → Owns w' base e size (.slice A (n + m) cap) (n + m) (xs ++ news) → w.grownBy w' v.ownBlock → K (a.put o.dst (.slice A (n + m) cap)) w') :
    if Region.wanted o (yielded ops a.tmps) = true then Oper.wp P o a w K Q else E := by
  have hw : Region.wanted o (yielded ops a.tmps) = true := by simp [Region.wanted, hgd]
  rw [if_pos hw]
  obtain ⟨v', w', hr, h2, h3⟩ := run_append_owns (P := P) w base t o.type e i z size bytes ht hi hz hsize hby hzs hsz v n xs hown ad m c news hl hnews h1 h63 hbytes hbase
  obtain ⟨A, cap, rfl, hc1, hc2⟩ := h2.shape
  unfold Oper.wp execOp
  simp only [ho, resolve, invoke, builtin, Sem.run_bind, Sem.run_pure, Result.andThen_ok, List.map_toArray, List.map_cons, List.map_nil, hs, hx, hr]
  exact h A cap w' hc1 hc2 h2 h3

/-- Words as cells. -/
def cellsW (l : List Int) : List Value := l.map fun x => Value.int .u32 x
theorem cellsW_length (l : List Int) : (cellsW l).length = l.length := by simp [cellsW]
theorem cellsW_get (l : List Int) (j : Nat) (h : j < l.length) : (cellsW l)[j]? = some (.int .u32 (l.getD j 0)) := by
  simp [cellsW, List.getD_eq_getElem?_getD, List.getElem?_eq_getElem h]
/-- Eight words in memory. -/
def Eight (w : World) (g : Nat) (v : V8) : Prop := g < w.heap.size ∧ ∀ j, j < 8 → w.cell? ⟨g, j, none⟩ = some (.int .u32 (v.list.getD j 0))
theorem Eight.q {w w' : World} {g : Nat} {v : V8} (h : Eight w g v) (hq : Q w w') : Eight w' g v := ⟨Nat.lt_of_lt_of_le h.1 hq.size, fun j hj => (hq.cell (p := ⟨g, j, none⟩) h.1).trans (h.2 j hj)⟩
/-- The 64 bytes of a block in memory. -/
def Bytes64 (w : World) (g o : Nat) (s : ByteArray) : Prop := g < w.heap.size ∧ ∀ j, j < 64 → w.cell? ⟨g, o + j, none⟩ = some (.int .u8 (byteAt s j))
theorem Bytes64.q {w w' : World} {g o : Nat} {s : ByteArray} (h : Bytes64 w g o s) (hq : Q w w') : Bytes64 w' g o s := ⟨Nat.lt_of_lt_of_le h.1 hq.size, fun j hj => (hq.cell (p := ⟨g, o + j, none⟩) h.1).trans (h.2 j hj)⟩

theorem arr_cells (v : V8) (j : Nat) (h : j < 8) : v.arr[j]? = some (.int .u32 (v.list.getD j 0)) := by
  rcases (show j = 0 ∨ j = 1 ∨ j = 2 ∨ j = 3 ∨ j = 4 ∨ j = 5 ∨ j = 6 ∨ j = 7 by omega) with rfl | rfl | rfl | rfl | rfl | rfl | rfl | rfl <;> rfl
theorem Eight.of {w : World} {g : Nat} {t : TypeId} {v : V8} (h : Blk w g t v.arr) : Eight w g v := ⟨h.lt, fun j hj => by rw [h.cell, arr_cells v j hj]⟩

set_option maxHeartbeats 400000 in
theorem firsts_any (w : World) : Calls Tryd.prog 119 #[] w fun e w' => e = .returned (.slice (some ⟨w.heap.size, 0, none⟩) 8 8) ∧ Eight w' w.heap.size init ∧ Q w w' := by
  go_enter Tryd.func119, Tryd.ntmps119
  go_wp2
  go_ret
  exact ⟨rfl, Eight.of (Blk.new w _ init.arr), Below.alloc (Q.refl w) (Nat.le_refl _) _⟩

set_option maxRecDepth 100000 in
set_option maxHeartbeats 2000000 in
theorem adds_any (w : World) : Calls Tryd.prog 127 #[] w fun e w' => e = .returned (.slice (some ⟨w.heap.size, 0, none⟩) 64 64) ∧ (∃ t, Blk w' w.heap.size t (cellsW KL).toArray) ∧ Q w w' := by
  go_enter Tryd.func127, Tryd.ntmps127
  go_wp2
  go_ret
  exact ⟨rfl, ⟨_, Blk.new w _ _⟩, Below.alloc (Q.refl w) (Nat.le_refl _) _⟩

/-- Four bytes are kept. -/
def Four (w0 w : World) (g o q : Nat) (x0 x1 x2 x3 : Int) : Prop := g < w.heap.size ∧ Q w0 w ∧ w.cell? ⟨g, o + q, none⟩ = some (.int .u8 x0) ∧ w.cell? ⟨g, o + (q + 1), none⟩ = some (.int .u8 x1) ∧ w.cell? ⟨g, o + (q + 2), none⟩ = some (.int .u8 x2) ∧ w.cell? ⟨g, o + (q + 3), none⟩ = some (.int .u8 x3)
section
variable {w0 w w' : World} {g o r : Nat} {x0 x1 x2 x3 : Int}
theorem Four.held (h : Four w0 w g o r x0 x1 x2 x3) : w.cell? ⟨g, o + r, none⟩ = some (.int .u8 x0) ∧ w.cell? ⟨g, o + (r + 1), none⟩ = some (.int .u8 x1) ∧ w.cell? ⟨g, o + (r + 2), none⟩ = some (.int .u8 x2) ∧ w.cell? ⟨g, o + (r + 3), none⟩ = some (.int .u8 x3) ∧ Four w0 w g o r x0 x1 x2 x3 :=
  ⟨h.2.2.1, h.2.2.2.1, h.2.2.2.2.1, h.2.2.2.2.2, h⟩
theorem Four.q (h : Four w0 w g o r x0 x1 x2 x3) (hq : Q w w') : Four w0 w' g o r x0 x1 x2 x3 :=
  ⟨Nat.lt_of_lt_of_le h.1 hq.size, Q.trans h.2.1 hq, (hq.cell (p := ⟨g, o + r, none⟩) h.1).trans h.2.2.1, (hq.cell (p := ⟨g, o + (r + 1), none⟩) h.1).trans h.2.2.2.1, (hq.cell (p := ⟨g, o + (r + 2), none⟩) h.1).trans h.2.2.2.2.1, (hq.cell (p := ⟨g, o + (r + 3), none⟩) h.1).trans h.2.2.2.2.2⟩
theorem Four.drew (h : Four w0 w g o r x0 x1 x2 x3) : Four w0 w.drew g o r x0 x1 x2 x3 := h.q (Q.refl w).drew
theorem Four.new (h : w.cell? ⟨g, o + r, none⟩ = some (.int .u8 x0) ∧ w.cell? ⟨g, o + (r + 1), none⟩ = some (.int .u8 x1) ∧ w.cell? ⟨g, o + (r + 2), none⟩ = some (.int .u8 x2) ∧ w.cell? ⟨g, o + (r + 3), none⟩ = some (.int .u8 x3) ∧ Four w0 w g o r x0 x1 x2 x3) (ob : Obj) :
    (w.alloc ob).cell? ⟨g, o + r, none⟩ = some (.int .u8 x0) ∧ (w.alloc ob).cell? ⟨g, o + (r + 1), none⟩ = some (.int .u8 x1) ∧ (w.alloc ob).cell? ⟨g, o + (r + 2), none⟩ = some (.int .u8 x2) ∧ (w.alloc ob).cell? ⟨g, o + (r + 3), none⟩ = some (.int .u8 x3) ∧ Four w0 (w.alloc ob) g o r x0 x1 x2 x3 :=
  (h.2.2.2.2.q (q_alloc (Q.refl w) ob)).held
end
abbrev wsum (x0 x1 x2 x3 : Int) : Int := IntKind.u32.wrap (IntKind.u32.wrap (IntKind.u32.wrap (IntKind.u32.wrap (IntKind.u32.wrap x0 * 16777216) + IntKind.u32.wrap (IntKind.u32.wrap x1 * 65536)) + IntKind.u32.wrap (IntKind.u32.wrap x2 * 256)) + IntKind.u32.wrap x3)
theorem wsum_eq {a b c d : Int} (ha : 0 ≤ a ∧ a < 256) (hb : 0 ≤ b ∧ b < 256) (hc : 0 ≤ c ∧ c < 256) (hd : 0 ≤ d ∧ d < 256) : wsum a b c d = a * 16777216 + b * 65536 + c * 256 + d := by
  unfold wsum
  simp only [IntKind.wrap_u32]
  omega
abbrev wext (a s b t : Int) : Int := IntKind.u32.wrap (IntKind.u32.wrap (IntKind.u32.wrap (a + s) + b) + t)
theorem wext_eq (a s b t : Int) : wext a s b t = ext a s b t := by
  unfold wext ext
  simp only [IntKind.wrap_u32]
  omega
theorem cells_new {w0 w : World} {g a b : Nat} {x y : Value} (h : w.cell? ⟨g, a, none⟩ = some x ∧ w.cell? ⟨g, b, none⟩ = some y ∧ Q w0 w) (ob : Obj) :
    (w.alloc ob).cell? ⟨g, a, none⟩ = some x ∧ (w.alloc ob).cell? ⟨g, b, none⟩ = some y ∧ Q w0 (w.alloc ob) :=
  ⟨(World.cell?_alloc_some w _ ob (by rw [h.1]; rfl)).trans h.1, (World.cell?_alloc_some w _ ob (by rw [h.2.1]; rfl)).trans h.2.1, q_alloc h.2.2 ob⟩
theorem word_sum (a b c d : Int) (ha : 0 ≤ a ∧ a < 256) (hb : 0 ≤ b ∧ b < 256) (hc : 0 ≤ c ∧ c < 256) (hd : 0 ≤ d ∧ d < 256) : a * 16777216 + b * 65536 + c * 256 + d < 4294967296 ∧ 0 ≤ a * 16777216 + b * 65536 + c * 256 + d := by omega
theorem sched_cells (s : ByteArray) (k : Nat) : cellsW (schedL s (k + 1)) = cellsW (schedL s k) ++ [.int .u32 (W s k)] := by
  have hl := schedL_length s k
  conv => lhs; rw [schedL, more]
  unfold cellsW
  rw [List.map_append]
  congr 1
  have : W s k = (if (schedL s k).length < 16 then word s (schedL s k).length else ext ((schedL s k).getD ((schedL s k).length - 16) 0) (sig0 ((schedL s k).getD ((schedL s k).length - 15) 0)) ((schedL s k).getD ((schedL s k).length - 7) 0) (sig1 ((schedL s k).getD ((schedL s k).length - 2) 0))) := by
    unfold W
    conv => lhs; rw [schedL, more]
    rw [getD_r _ _ _ _ (by omega), hl, Nat.sub_self]
    rfl
  rw [this]
  rfl

set_option maxRecDepth 100000 in
set_option maxHeartbeats 2000000 in
theorem words_any (g o c : Nat) (s : ByteArray) (w : World) (hb : Bytes64 w g o s) :
    Calls Tryd.prog 126 #[.slice (some ⟨g, o, none⟩) 64 c] w fun e w' => ∃ A cap, e = .returned (.slice A 64 cap) ∧ Owns w' w.heap.size 89 1 (.slice A 64 cap) 64 (cellsW (schedL s 64)) ∧ Q w w' := by
  obtain ⟨i0, hi, hz0, hz1, hz2⟩ := info_parts word_info
  go_enter Tryd.func126, Tryd.ntmps126
  go_wp2_with fail
  go_loopw [3, 4] (fun x i wr => ∃ (A : Option Addr) (c k : Nat), x = .slice A k c ∧ i = .int .i64 k ∧ k ≤ 16 ∧ k ≤ c ∧ c ≤ maxLen ∧ Owns wr w.heap.size 89 1 (.slice A k c) k (cellsW (schedL s k)) ∧ Q w wr) (fun _ i _ => 16 - (intOf i).toNat)
  case atStart => exact ⟨none, 0, 0, rfl, rfl, by omega, by omega, by simp [maxLen], Owns.nil_ _ _ _ _, Q.refl _⟩
  case round =>
    obtain ⟨A, cp, k, rfl, rfl, hk, hc, hcm, hown, hq⟩ := hrel
    by_cases hlt : k < 16
    · have hbb := hb.q hq
      obtain ⟨q, hq4⟩ : ∃ q, q = 4 * k := ⟨_, rfl⟩
      have c0 := hbb.2 q (by omega)
      have c1 := hbb.2 (q + 1) (by omega)
      have c2 := hbb.2 (q + 2) (by omega)
      have c3 := hbb.2 (q + 3) (by omega)
      have b0 := byteAt_bd s q
      have b1 := byteAt_bd s (q + 1)
      have b2 := byteAt_bd s (q + 2)
      have b3 := byteAt_bd s (q + 3)
      have hw : W s k = byteAt s (4 * k) * 16777216 + byteAt s (4 * k + 1) * 65536 + byteAt s (4 * k + 2) * 256 + byteAt s (4 * k + 3) := W_lo s k hlt
      have hF0 : Four w w g o q (byteAt s q) (byteAt s (q + 1)) (byteAt s (q + 2)) (byteAt s (q + 3)) := ⟨hb.1, Q.refl w, hb.2 q (by omega), hb.2 (q + 1) (by omega), hb.2 (q + 2) (by omega), hb.2 (q + 3) (by omega)⟩
      have hF := hF0.q hq
      have hs := sched_cells s k
      rw [hw, ← hq4, ← wsum_eq b0 b1 b2 b3] at hs
      have HS := Lib.hid hs
      clear hs hw hbb
      generalize byteAt s q = x0 at *
      generalize byteAt s (q + 1) = x1 at *
      generalize byteAt s (q + 2) = x2 at *
      generalize byteAt s (q + 3) = x3 at *
      obtain ⟨p0, q0⟩ := b0
      obtain ⟨p1, q1⟩ := b1
      obtain ⟨p2, q2⟩ := b2
      obtain ⟨p3, q3⟩ := b3
      have e40 : IntKind.i64.wrap (4 * (k : Int)) = 4 * (k : Int) := IntWalk.i64_in _ ⟨by omega, by omega⟩
      have e41 : IntKind.i64.wrap (4 * (k : Int) + 1) = 4 * (k : Int) + 1 := IntWalk.i64_in _ ⟨by omega, by omega⟩
      have e42 : IntKind.i64.wrap (4 * (k : Int) + 2) = 4 * (k : Int) + 2 := IntWalk.i64_in _ ⟨by omega, by omega⟩
      have e43 : IntKind.i64.wrap (4 * (k : Int) + 3) = 4 * (k : Int) + 3 := IntWalk.i64_in _ ⟨by omega, by omega⟩
      have n0 : (4 * (k : Int)).toNat = q := by omega
      have n1 : (4 * (k : Int) + 1).toNat = q + 1 := by omega
      have n2 : (4 * (k : Int) + 2).toNat = q + 2 := by omega
      have n3 : (4 * (k : Int) + 3).toNat = q + 3 := by omega
      have l0 : 0 ≤ 4 * (k : Int) := by omega
      have l1 : 0 ≤ 4 * (k : Int) + 1 := by omega
      have l2 : 0 ≤ 4 * (k : Int) + 2 := by omega
      have l3 : 0 ≤ 4 * (k : Int) + 3 := by omega
      have j0 : 4 * (k : Int) < 64 := by omega
      have j1 : 4 * (k : Int) + 1 < 64 := by omega
      have j2 : 4 * (k : Int) + 2 < 64 := by omega
      have j3 : 4 * (k : Int) + 3 < 64 := by omega
      clear hq4
      go_wp2_with fail
      go_region_held3 (fun w' => w'.cell? ⟨g, o + q, none⟩ = some (.int .u8 x0) ∧ w'.cell? ⟨g, o + (q + 1), none⟩ = some (.int .u8 x1) ∧ w'.cell? ⟨g, o + (q + 2), none⟩ = some (.int .u8 x2) ∧ w'.cell? ⟨g, o + (q + 3), none⟩ = some (.int .u8 x3) ∧ Four w w' g o q x0 x1 x2 x3)
        (first | exact hF.drew.held | exact Four.new (by with_reducible assumption) _ | exact (hF0.q hq2).held)
        ((refine step_append_owns (by rfl) _ _ _ (by rfl) w.heap.size 89 i0 _ 1 4 Tryd.underlying117 hi hz0 hz1 hz2 rfl (by decide) _ k _ (by rfl) (hown.drew.alloc _) ⟨wr.heap.size, 0, none⟩ 1 1 [.int .u32 (wsum x0 x1 x2 x3)] (by rfl) rfl (cell_one_new wr (.int .u32 (wsum x0 x1 x2 x3)) 89) (by simp [Value.oneCell']) (by simp only [maxLen]; omega) (by omega) (by have := hq.size; simp; omega) ?_; intro A2 cap2 w2 hn2 hm2 hown2 hg2; have hq2 := q_append hq.drew hown.drew hg2))
      rw [← HS.out] at hown2
      go_wp2
      exact ⟨⟨_, _, k + 1, rfl, by go_num, by omega, hn2, hm2, hown2, hq2⟩, by simp only [intOf]; omega⟩
    · have HK := Lib.hid (show k = 16 by omega)
      rw [HK.out] at hown hc
      go_wp2_with fail
      go_loopw [3, 5] (fun x i wr => ∃ (A : Option Addr) (c k : Nat), x = .slice A k c ∧ i = .int .i64 k ∧ 16 ≤ k ∧ k ≤ 64 ∧ k ≤ c ∧ c ≤ maxLen ∧ Owns wr w.heap.size 89 1 (.slice A k c) k (cellsW (schedL s k)) ∧ Q w wr) (fun _ i _ => 64 - (intOf i).toNat)
      case atStart => exact ⟨A, cp, 16, by rw [HK.out], rfl, by omega, by omega, by omega, hcm, hown, hq⟩
      case round =>
        obtain ⟨A, cp, k, rfl, rfl, hk0, hk, hc, hcm, hown, hq⟩ := hrel
        by_cases hlt : k < 64
        · have hl := schedL_length s k
          have hg : ∀ j, j < k → (cellsW (schedL s k))[j]? = some (.int .u32 (W s j)) := fun j hj => by rw [cellsW_get _ _ (by omega), schedL_getD s k j hj]
          have hW := W_hi s k hk0
          obtain ⟨r16, h16⟩ : ∃ r, r = k - 16 := ⟨_, rfl⟩
          obtain ⟨r15, h15⟩ : ∃ r, r = k - 15 := ⟨_, rfl⟩
          obtain ⟨r7, h7⟩ : ∃ r, r = k - 7 := ⟨_, rfl⟩
          obtain ⟨r2, h2⟩ : ∃ r, r = k - 2 := ⟨_, rfl⟩
          rw [← h16, ← h15, ← h7, ← h2] at hW
          obtain ⟨g1, rfl, -, hg1, c16, -⟩ := hown.cellAt r16 _ (hg _ (by omega))
          obtain ⟨g', he', -, -, c15, -⟩ := hown.cellAt r15 _ (hg _ (by omega))
          obtain rfl : g1 = g' := by injection he' with h; injection h
          obtain ⟨g', he', -, -, c7, -⟩ := hown.cellAt r7 _ (hg _ (by omega))
          obtain rfl : g1 = g' := by injection he' with h; injection h
          obtain ⟨g', he', -, -, c2, -⟩ := hown.cellAt r2 _ (hg _ (by omega))
          obtain rfl : g1 = g' := by injection he' with h; injection h
          clear he'
          have d15 := W_bd s r15
          have d2 := W_bd s r2
          have p15 := d15.1
          have p2 := d2.1
          have he := Lib.hid hW
          have e16 : IntKind.i64.wrap ((k : Int) - 16) = (r16 : Int) := by rw [IntWalk.i64_in _ ⟨by omega, by omega⟩]; omega
          have e15 : IntKind.i64.wrap ((k : Int) - 15) = (r15 : Int) := by rw [IntWalk.i64_in _ ⟨by omega, by omega⟩]; omega
          have e7 : IntKind.i64.wrap ((k : Int) - 7) = (r7 : Int) := by rw [IntWalk.i64_in _ ⟨by omega, by omega⟩]; omega
          have e2 : IntKind.i64.wrap ((k : Int) - 2) = (r2 : Int) := by rw [IntWalk.i64_in _ ⟨by omega, by omega⟩]; omega
          have l16 : (r16 : Int) < (k : Int) := by omega
          have l15 : (r15 : Int) < (k : Int) := by omega
          have l7 : (r7 : Int) < (k : Int) := by omega
          have l2 : (r2 : Int) < (k : Int) := by omega
          clear hW h16 h15 h7 h2
          have HS := Lib.hid (sched_cells s k)
          go_wp2_with fail
          refine (rturn_any _ _ _ d15 (by decide) (by decide)).mono ?_
          rintro e w' ⟨rfl, q1, rfl⟩
          go_wp2_with fail
          refine (rturn_any _ _ _ d15 (by decide) (by decide)).mono ?_
          rintro e w' ⟨rfl, q2, rfl⟩
          go_wp2_with fail
          refine (rturn_any _ _ _ d2 (by decide) (by decide)).mono ?_
          rintro e w' ⟨rfl, q3, rfl⟩
          go_wp2_with fail
          refine (rturn_any _ _ _ d2 (by decide) (by decide)).mono ?_
          rintro e w' ⟨rfl, q4, rfl⟩
          obtain ⟨wq, hwq⟩ : ∃ wq, (wr.drewN (q1 + q2 + q3)).drewN q4 = wq := ⟨_, rfl⟩
          have c16 : wq.cell? ⟨g1, r16, none⟩ = some (.int .u32 (W s r16)) := by rw [← hwq]; exact c16
          have c7 : wq.cell? ⟨g1, r7, none⟩ = some (.int .u32 (W s r7)) := by rw [← hwq]; exact c7
          have hown : Owns wq w.heap.size 89 1 (.slice (some ⟨g1, 0, none⟩) k cp) k (cellsW (schedL s k)) := by rw [← hwq]; exact hown
          have hq : Q w wq := by rw [← hwq]; exact below_drewN (below_drewN hq _) _
          rw [hwq]
          clear hwq
          go_wp2_with fail
          have hx16 := hg r16 (by omega)
          have hx7 := hg r7 (by omega)
          clear hg hl
          go_region_held3 (fun w' => w'.cell? ⟨g1, r16, none⟩ = some (.int .u32 (W s r16)) ∧ w'.cell? ⟨g1, r7, none⟩ = some (.int .u32 (W s r7)) ∧ Q w w')
            (first | exact ⟨c16, c7, hq.drew⟩ | exact cells_new (by with_reducible assumption) _ | exact ⟨hkp _ _ hx16, hkp _ _ hx7, hq2⟩)
            ((refine step_append_keep (by rfl) _ _ _ (by rfl) w.heap.size 89 i0 _ 1 4 Tryd.underlying117 hi hz0 hz1 hz2 rfl (by decide) g1 cp k _ (by rfl) (hown.drew.alloc _) ⟨wq.heap.size, 0, none⟩ 1 1 [.int .u32 (wext (W s r16) (sig0 (W s r15)) (W s r7) (sig1 (W s r2)))] (by rfl) rfl (cell_one_new wq (.int .u32 (wext (W s r16) (sig0 (W s r15)) (W s r7) (sig1 (W s r2)))) 89) (by simp [Value.oneCell']) (by simp only [maxLen]; omega) (by omega) (by have := hq.size; simp; omega) ?_; intro A2 cap2 w2 hn2 hm2 hown2 hg2 hkp; have hq2 := q_append hq.drew hown.drew hg2))
          rw [wext_eq, ← he.out, ← HS.out] at hown2
          go_wp2
          exact ⟨⟨_, _, k + 1, rfl, by go_num, by omega, by omega, hn2, hm2, hown2, hq2⟩, by simp only [intOf]; omega⟩
        · have HK := Lib.hid (show k = 64 by omega)
          rw [HK.out] at hown
          go_wp2
          go_ret
          exact ⟨A, cp, by rw [← HK.out]; rfl, hown, hq⟩

end Go.Proofs.YtppbplchdfhnkaaDoor.Sha
