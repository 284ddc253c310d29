/-
  The contract of package seal's mask.
-/
import Derived.Test.YtppbplchdfhnkaaDoorSealStream
import Derived.Laws.MakeOwn
import Derived.Test.YtppbplchdfhnkaaDoorRoundRegion
set_option linter.unusedVariables false
set_option linter.unusedSimpArgs false
namespace Go.Proofs.YtppbplchdfhnkaaDoor.Seal
open Go.RowKit Grp Mem _root_.Go.Proofs.YtppbplchdfhnkaaDoor.Code Sha Rng
open Sign (q_new Strs.of)

attribute [local go_sem] Oper.semAt_some

/-- append of one element where there is room. -/
theorem run_append_room {P : Program} (w : World) (t ty e : TypeId) (i : TypeInfo) (ht : P.underlying t = some (.slice e)) (hi : P.info? e = some i) (hsize : i.size = 1) (g k cap b : Nat) (cur : Array Value) (x : Value)
    (hg : w.heap[g]? = some (.cells cur e (0, 0))) (hk : k < cap) (hcs : cur.size = cap) (hx : w.cell? ⟨b, 0, none⟩ = some x) (h1 : x.oneCell' = true) :
    (Builtin.append_ #[t, t] ty #[.slice (some ⟨g, 0, none⟩) k cap, .slice (some ⟨b, 0, none⟩) 1 1]).run P w = .ok (.slice (some ⟨g, 0, none⟩) (k + 1) cap) (w.setCell ⟨g, k, none⟩ x) := by
  have hf := run_firstCells_some (P := P) w 1 1 ⟨b, 0, none⟩ 1 1 [x] rfl (fun j u hu => by
    cases j with
    | zero => simp at hu; subst hu; simpa [Addr.add] using hx
    | succ j => simp at hu)
  have hc : w.cell? ⟨g, k, none⟩ = some cur[k] := by rw [cell_of_row w g k cur e (0, 0) hg, Array.getElem?_eq_getElem (by omega)]
  have hfr : w.frozen? ⟨g, k, none⟩ = false := by simp [World.frozen?, hg]
  have hst : (storeCells ⟨g, k, none⟩ [x] 0).run P w = .ok () (w.setCell ⟨g, k, none⟩ x) := by
    have hadd : (⟨g, k, none⟩ : Addr).add 0 = ⟨g, k, none⟩ := by simp [Addr.add]
    simp [storeCells, hadd, run_store P w _ x _ h1, hc, hfr]
  simp [Builtin.append_, run_underlying ht, sizeOf, typeInfo, hi, hsize, Builtin.lenOf, show k + 1 ≤ cap by omega, hf, Addr.add_lit, hst]
theorem byte_xor (x y : UInt8) : bits .xor .u8 (x.toNat : Int) (y.toNat : Int) = ((x ^^^ y).toNat : Int) := by
  have hx : x.toNat < 2 ^ 8 := x.toNat_lt
  have hy : y.toNat < 2 ^ 8 := y.toNat_lt
  have h1 : (BitVec.ofInt 8 (x.toNat : Int)).toNat = x.toNat := by
    rw [BitVec.ofInt_natCast, BitVec.toNat_ofNat]; exact Nat.mod_eq_of_lt hx
  have h2 : (BitVec.ofInt 8 (y.toNat : Int)).toNat = y.toNat := by
    rw [BitVec.ofInt_natCast, BitVec.toNat_ofNat]; exact Nat.mod_eq_of_lt hy
  have hz : x.toNat ^^^ y.toNat < 2 ^ 8 := Nat.xor_lt_two_pow hx hy
  show IntKind.u8.wrap ((BitVec.ofInt 8 (x.toNat : Int) ^^^ BitVec.ofInt 8 (y.toNat : Int)).toNat : Int) = _
  rw [BitVec.toNat_xor, h1, h2, IntKind.wrap_u8, UInt8.toNat_xor]
  omega

/-- What holds between two rounds. -/
structure Inv (w0 W : World) (bd g bo : Nat) (data : ByteArray) (pre : List UInt8) : Prop where
  bd : Boxed W bd 9 (.string data)
  bo : Boxed W bo 93 (.slice (some ⟨g, 0, none⟩) pre.length data.size)
  row : ∃ cur : Array Value, W.heap[g]? = some (.cells cur 5 (0, 0)) ∧ cur.size = data.size ∧ ∀ i, i < pre.length → cur[i]? = some (.int .u8 ((data.data.toList.getD i 0 ^^^ pre.getD i 0).toNat : Int))
  q : Q w0 W
theorem cells_grown {W W' : World} {row : Option Nat} {k : Nat} {cs : Array Value} {t : TypeId} {fz : Nat × Nat} (h : W.heap[k]? = some (.cells cs t fz)) (hg : W.grownBy W' row) (hr : ∀ r, row = some r → ∃ o : Obj, W.heap[r]? = some o ∧ o.isCells = false) : W'.heap[k]? = some (.cells cs t fz) := by
  refine (hg.block k (Array.getElem?_eq_some_iff.1 h).1 ?_).trans h
  intro e
  obtain ⟨o, ho, hc⟩ := hr k e.symm
  rw [h] at ho
  cases ho
  cases hc
theorem Inv.grown {w0 W W' : World} {bd g bo : Nat} {data : ByteArray} {pre : List UInt8} {row : Option Nat} (h : Inv w0 W bd g bo data pre) (hg : W.grownBy W' row) (hr : ∀ r, row = some r → w0.heap.size ≤ r ∧ ∃ o : Obj, W.heap[r]? = some o ∧ o.isCells = false) : Inv w0 W' bd g bo data pre := by
  have hr2 := fun r e => (hr r e).2
  obtain ⟨cur, hc, hs, hi⟩ := h.row
  exact ⟨cells_grown h.bd hg hr2, cells_grown h.bo hg hr2, ⟨cur, cells_grown hc hg hr2, hs, hi⟩, Below.grown h.q hg h.q.size (fun k e => (hr k e).1)⟩
theorem mask_step {w0 W : World} {bd g bo bk bn : Nat} {data : ByteArray} {pre : List UInt8} {x : UInt8} (h : Inv w0 W bd g bo data pre) (hlt : pre.length < data.size) (g0 : w0.heap.size ≤ g) (o0 : w0.heap.size ≤ bo) (hgo : g ≠ bo) (hdg : bd ≠ g) (hdo : bd ≠ bo) (hkg : bk ≠ g) (hko : bk ≠ bo) (hng : bn ≠ g) (hno : bn ≠ bo) (y : UInt8) (hy : y = data.data.toList.getD pre.length 0 ^^^ x) :
    KeepsOthers W (((W.drew.alloc (.cells #[.int .u8 (y.toNat : Int)] 5)).setCell ⟨g, pre.length, none⟩ (.int .u8 (y.toNat : Int))).setCell ⟨bo, 0, none⟩ (.slice (some ⟨g, 0, none⟩) (pre.length + 1) data.size)) ∧
    KeepTwo w0.heap.size bk bn W (((W.drew.alloc (.cells #[.int .u8 (y.toNat : Int)] 5)).setCell ⟨g, pre.length, none⟩ (.int .u8 (y.toNat : Int))).setCell ⟨bo, 0, none⟩ (.slice (some ⟨g, 0, none⟩) (pre.length + 1) data.size)) ∧
    Inv w0 (((W.drew.alloc (.cells #[.int .u8 (y.toNat : Int)] 5)).setCell ⟨g, pre.length, none⟩ (.int .u8 (y.toNat : Int))).setCell ⟨bo, 0, none⟩ (.slice (some ⟨g, 0, none⟩) (pre.length + 1) data.size)) bd g bo data (pre ++ [x]) := by
  obtain ⟨cur, hc, hs, hi⟩ := h.row
  have hglt := (Array.getElem?_eq_some_iff.1 hc).1
  have hB1 : Below w0.heap.size W (W.drew.alloc (.cells #[.int .u8 (y.toNat : Int)] 5)) := Below.alloc (Below.drew (Below.refl _ _)) h.q.size _
  have hc1 : (W.drew.alloc (.cells #[.int .u8 (y.toNat : Int)] 5)).heap[g]? = some (.cells cur 5 (0, 0)) := (Below.heap_alloc W.drew _ g hglt).trans hc
  have hkeep : ∀ b, b ≠ g → b ≠ bo → b < W.heap.size → (((W.drew.alloc (.cells #[.int .u8 (y.toNat : Int)] 5)).setCell ⟨g, pre.length, none⟩ (.int .u8 (y.toNat : Int))).setCell ⟨bo, 0, none⟩ (.slice (some ⟨g, 0, none⟩) (pre.length + 1) data.size)).heap[b]? = W.heap[b]? := fun b h1 h2 h3 =>
    ((Below.heap_setCell _ _ _ b h2).trans (Below.heap_setCell _ _ _ b h1)).trans (Below.heap_alloc W.drew _ b h3)
  have hbo1 : Boxed ((W.drew.alloc (.cells #[.int .u8 (y.toNat : Int)] 5)).setCell ⟨g, pre.length, none⟩ (.int .u8 (y.toNat : Int))) bo 93 (.slice (some ⟨g, 0, none⟩) pre.length data.size) :=
    ((Below.heap_setCell _ _ _ bo (Ne.symm hgo)).trans (Below.heap_alloc W.drew _ bo h.bo.lt)).trans h.bo
  refine ⟨?_, ?_, ?_⟩
  · exact (((KeepsOthers.drew W).trans (KeepsOthers.alloc _ _)).trans (KeepsOthers.setCell _ _ _)).trans (KeepsOthers.setCell _ _ _)
  · refine ⟨(hB1.setCell (p := ⟨g, pre.length, none⟩) g0 _).setCell (p := ⟨bo, 0, none⟩) o0 _, ?_, ?_⟩
    · intro cs t fz hh
      exact (hkeep bk hkg hko (Array.getElem?_eq_some_iff.1 hh).1).trans hh
    · intro cs t fz hh
      exact (hkeep bn hng hno (Array.getElem?_eq_some_iff.1 hh).1).trans hh
  · refine ⟨(hkeep bd hdg hdo h.bd.lt).trans h.bd, ?_, ⟨cur.setIfInBounds pre.length (.int .u8 (y.toNat : Int)), ?_, ?_, ?_⟩, ?_⟩
    · rw [List.length_append]
      exact hbo1.set _
    · refine (Below.heap_setCell _ _ _ g hgo).trans ?_
      simp [World.setCell, Array.getElem?_modify, hc1]
    · rw [Array.size_setIfInBounds, hs]
    · intro i hil
      rw [List.length_append, List.length_singleton] at hil
      rw [Array.getElem?_setIfInBounds]
      by_cases e : pre.length = i
      · subst e
        rw [if_pos rfl, if_pos (by omega), hy]
        simp
      · rw [if_neg e, hi i (by omega), List.getD_eq_getElem?_getD (l := pre ++ [x]), List.getElem?_append_left (by omega), ← List.getD_eq_getElem?_getD]
    · exact Below.trans h.q ((hB1.setCell (p := ⟨g, pre.length, none⟩) g0 _).setCell (p := ⟨bo, 0, none⟩) o0 _)

theorem mask_empty (key nonce : ByteArray) (w : World) :
    Calls Tryd.prog 67 #[.string key, .string nonce, .string ⟨#[]⟩] w fun e w' => e = .returned (.string (maskB key nonce ⟨#[]⟩)) ∧ Q w w' := by
  go_enter Tryd.func67, Tryd.ntmps67
  go_wp2
  go_ret
  exact ⟨rfl, q_new _ _ _⟩
set_option maxRecDepth 100000 in
set_option maxHeartbeats 4000000 in
theorem mask_full (key nonce data : ByteArray) (w : World) (hT : Tab w) (hz : key.size + nonce.size ≤ 140737488355000) (hd : data.size ≤ 140737488355328) (h0 : 0 < data.size) :
    Calls Tryd.prog 67 #[.string key, .string nonce, .string data] w fun e w' => e = .returned (.string (maskB key nonce data)) ∧ Q w w' := by
  have he : data.toList.isEmpty = false := by
    have := notEmpty_t data h0
    simpa using this
  obtain ⟨i0, hi, hz0, hz1, hz2⟩ := info_parts Code.byte_info
  have hmk : ∀ w : World, (Instr.makeSlice 93 (.int .i64 0) (.int .i64 (data.size : Int))).run Tryd.prog w = .ok (.slice (some ⟨w.heap.size, 0, none⟩) 0 data.size) (w.alloc (.cells (madeCells (Value.int .u8 0).cells data.size) 5)) := by
    intro w
    have := run_make (P := Tryd.prog) w 93 5 i0 (.int .u8 0) Tryd.underlying93 hi hz0 .i64 .i64 0 (data.size : Int) (by decide) (by omega) (by rw [hz2]; omega) (by omega)
    rw [hz1] at this
    simpa using this
  refine (callsIn_wide (n := 6)).1 ?_
  have hwf : ∀ f, Fence.wide.fn f := fun _ => trivial
  refine callsIn_of_wp_marks Tryd.func67 rfl trivial ?_ rfl
  simp only [Tryd.ntmps67, List.size_toArray, List.length_cons, List.length_nil, Nat.reduceAdd, Nat.reduceSub, Array.replicate_succ, Array.replicate_zero, List.push_toArray, List.append_toArray, List.nil_append, List.cons_append]
  gi_wp2_with (gi_at_call 106; refine (callsIn_wide.2 (stream_any key nonce _)).mono ?_; rintro e w' ⟨rfl, rfl⟩)
  obtain ⟨W0, hW0⟩ : ∃ W0, (((((w.alloc (.cells #[.string data] 9)).alloc (.cells (madeCells #[.int .u8 0] data.size) 5)).alloc (.cells #[.slice (some ⟨w.heap.size + 1, 0, none⟩) 0 data.size] 93)).alloc (.cells #[.string key] 9)).alloc (.cells #[.string nonce] 9)) = W0 := ⟨_, rfl⟩
  have hsz : W0.heap.size = w.heap.size + 5 := by rw [← hW0]; simp
  have hqw : Q w W0 := by rw [← hW0]; exact Q.trans (Q.trans (Q.trans (Q.trans (q_new _ _ _) (q_new _ _ _)) (q_new _ _ _)) (q_new _ _ _)) (q_new _ _ _)
  have hbk : Boxed W0 (w.heap.size + 1 + 1 + 1) 9 (.string key) := by
    rw [← hW0]
    have := Boxed.new (((w.alloc (.cells #[.string data] 9)).alloc (.cells (madeCells #[.int .u8 0] data.size) 5)).alloc (.cells #[.slice (some ⟨w.heap.size + 1, 0, none⟩) 0 data.size] 93)) 9 (.string key)
    simp only [World.size_alloc] at this
    exact this.alloc _
  have hbn : Boxed W0 (w.heap.size + 1 + 1 + 1 + 1) 9 (.string nonce) := by
    rw [← hW0]
    have := Boxed.new ((((w.alloc (.cells #[.string data] 9)).alloc (.cells (madeCells #[.int .u8 0] data.size) 5)).alloc (.cells #[.slice (some ⟨w.heap.size + 1, 0, none⟩) 0 data.size] 93)).alloc (.cells #[.string key] 9)) 9 (.string nonce)
    simp only [World.size_alloc] at this
    exact this
  have hinv : Inv w W0 w.heap.size (w.heap.size + 1) (w.heap.size + 1 + 1) data [] := by
    refine ⟨?_, ?_, ⟨madeCells #[.int .u8 0] data.size, ?_, by simp [size_madeCells], fun i hi => by simp at hi⟩, hqw⟩
    · rw [← hW0]
      exact ((((Boxed.new w 9 (.string data)).alloc _).alloc _).alloc _).alloc _
    · rw [← hW0]
      have := Boxed.new ((w.alloc (.cells #[.string data] 9)).alloc (.cells (madeCells #[.int .u8 0] data.size) 5)) 93 (.slice (some ⟨w.heap.size + 1, 0, none⟩) 0 data.size)
      simp only [World.size_alloc] at this
      exact (this.alloc _).alloc _
    · rw [← hW0]
      have := Blk.new' (w.alloc (.cells #[.string data] 9)) 5 (madeCells #[.int .u8 0] data.size) (g := w.heap.size + 1) (by simp)
      exact ((this.alloc _).alloc _).alloc _
  rw [hW0]
  clear hW0 hmk
  refine wpIn_rangeEnds rfl (by decide) (gf := 118) (lb := #[.pointer (some ⟨w.heap.size + 1 + 1 + 1, 0, none⟩), .pointer (some ⟨w.heap.size + 1 + 1 + 1 + 1, 0, none⟩)]) rfl trivial (enters_of Tryd.func118 (by kernel_rfl) rfl)
    (stream_ends 5 (by decide) _ _ key nonce w hT data.size hd hz W0 hqw hbk hbn) (fun h k => KeepTwo.trans h k) (fun W l o o' hl h hc _ => KeepTwo.putObj W l o o' (by omega) h hc) (Below.refl _ _) (fun _ => rfl)
    (fun pre W => pre.length < data.size ∧ Inv w W w.heap.size (w.heap.size + 1) (w.heap.size + 1 + 1) data pre)
    (fun c pre W => c = .exit 0 ∧ pre.length = data.size ∧ Inv w W w.heap.size (w.heap.size + 1) (w.heap.size + 1 + 1) data pre)
    (fun s A B row hs hg hr => ⟨hs.1, hs.2.grown hg (fun r e => ⟨by have := (hr r e).1; omega, (hr r e).2⟩)⟩)
    (fun c s A B row hs hg hr => ⟨hs.1, hs.2.1, hs.2.2.grown hg (fun r e => ⟨by have := (hr r e).1; omega, (hr r e).2⟩)⟩)
    (fun pre W h => h.1) ⟨h0, hinv⟩
    (fun x => { tmps := #[.string key, .string nonce, .string data, undef, undef, .pointer (some ⟨w.heap.size, 0, none⟩), .string ⟨#[]⟩, .pointer (some ⟨w.heap.size + 1 + 1, 0, none⟩), .int .u8 (x.toNat : Int), .string data, .bool false, .string data, .int .i64 (data.size : Int), .slice (some ⟨w.heap.size + 1, 0, none⟩) 0 data.size, .string key, .string nonce, .func (.func 118) #[] #[.pointer (some ⟨w.heap.size + 1 + 1 + 1, 0, none⟩), .pointer (some ⟨w.heap.size + 1 + 1 + 1 + 1, 0, none⟩)], .int .u8 (x.toNat : Int), undef, undef, undef, undef, undef, undef, undef, undef, undef, undef, undef, undef, undef, undef, undef, undef], defers := [] }) ?assign ?body ?stop
  case assign =>
    intro l x W K hK
    gi_wp2
    exact hK
  case body =>
    rintro l pre x W ⟨hlt, hI⟩
    have hmx : Tryd.prog.follows .mixedOrders = true := by kernel_rfl
    have hcd := hI.bd.cell
    have hco := hI.bo.cell
    have hfo := hI.bo.frozen
    obtain ⟨cur, hcur, hcs, -⟩ := hI.row
    obtain ⟨y, hy⟩ : ∃ y, y = data.data.toList.getD pre.length 0 ^^^ x := ⟨_, rfl⟩
    have hst := mask_step (bk := w.heap.size + 1 + 1 + 1) (bn := w.heap.size + 1 + 1 + 1 + 1) hI hlt (by omega) (by omega) (by omega) (by omega) (by omega) (by omega) (by omega) (by omega) (by omega) y hy
    have hdat : data.data.toList.getD pre.length 0 = data[pre.length] := by
      rw [List.getD_eq_getElem?_getD, List.getElem?_eq_getElem (by rw [ba_length]; exact hlt)]
      rfl
    rw [hdat] at hy
    have hxor : bits .xor .u8 (data[pre.length].toNat : Int) (x.toNat : Int) = (y.toNat : Int) := by rw [byte_xor, hy]
    have hgA : (W.alloc (.cells #[.int .u8 (y.toNat : Int)] 5)).heap[w.heap.size + 1]? = some (.cells cur 5 (0, 0)) := (Below.heap_alloc W _ _ (Array.getElem?_eq_some_iff.1 hcur).1).trans hcur
    have hgk : (W.alloc (.cells #[.int .u8 (y.toNat : Int)] 5)).cell? ⟨w.heap.size + 1, pre.length, none⟩ = some (cur[pre.length]'(by omega)) := by
      rw [cell_of_row _ _ _ cur _ _ hgA, Array.getElem?_eq_getElem (by omega)]
    have hgf : (W.alloc (.cells #[.int .u8 (y.toNat : Int)] 5)).frozen? ⟨w.heap.size + 1, pre.length, none⟩ = false := by simp [World.frozen?, hgA]
    have hbo2 : Boxed (W.alloc (.cells #[.int .u8 (y.toNat : Int)] 5)) (w.heap.size + 1 + 1) 93 (.slice (some ⟨w.heap.size + 1, 0, none⟩) pre.length data.size) := hI.bo.alloc _
    have hbd2 : Boxed (W.alloc (.cells #[.int .u8 (y.toNat : Int)] 5)) w.heap.size 9 (.string data) := hI.bd.alloc _
    have hco2 := hbo2.cell
    have hfo2 := hbo2.frozen
    have hcd2 := hbd2.cell
    have hbo8 : Boxed ((W.alloc (.cells #[.int .u8 (y.toNat : Int)] 5)).setCell ⟨w.heap.size + 1, pre.length, none⟩ (.int .u8 (y.toNat : Int))) (w.heap.size + 1 + 1) 93 (.slice (some ⟨w.heap.size + 1, 0, none⟩) pre.length data.size) := (Below.heap_setCell _ _ _ _ (by dsimp only; omega)).trans hbo2
    have hbd8 : Boxed ((W.alloc (.cells #[.int .u8 (y.toNat : Int)] 5)).setCell ⟨w.heap.size + 1, pre.length, none⟩ (.int .u8 (y.toNat : Int))) w.heap.size 9 (.string data) := (Below.heap_setCell _ _ _ _ (by dsimp only; omega)).trans hbd2
    have hco8 := hbo8.cell
    have hcd8 := hbd8.cell
    have hroom : pre.length + 1 ≤ data.size := by omega
    generalize (cur[pre.length]'(by omega)) = old at *
    have k0 : (0 : Int) ≤ (pre.length : Int) := by omega
    have k1 : (pre.length : Int) < (data.size : Int) := by omega
    have HST := Lib.hid hst
    have hpl : (pre ++ [x]).length = pre.length + 1 := by simp
    have HPL := Lib.hid hpl
    clear hst hbo2 hbd2 hbo8 hbd8 hcur hcs hy hI hpl hdat hgA
    by_cases hend : pre.length + 1 = data.size
    · have hb : ((pre.length : Int) + 1 == (data.size : Int)) = true := by simp; omega
      have HE := Lib.hid hend
      clear hend
      gi_wp2
      refine region_early (fun w' => w'.cell? ⟨w.heap.size + 1 + 1, 0, none⟩ = some (.slice (some ⟨w.heap.size + 1, 0, none⟩) pre.length data.size) ∧ w'.cell? ⟨w.heap.size, 0, none⟩ = some (.string data)) 9 hmx (by rintro ⟨a, w, h⟩; exact h) (by kernel_rfl) ⟨hco, hcd⟩ (fun hS => ?_)
      refine early_take (i := 0) rfl (by kernel_rfl) (by decide) (by kernel_rfl) (by kernel_rfl) (by kernel_rfl) (fun _ _ _ h => h) (v := ?_) (Or.inl ⟨by rfl, ?_⟩) hS ?_
      rotate_left
      · intro w' hw'
        obtain ⟨s1, s2⟩ := hw'
        go_simp
        try with_reducible rfl
      simp only [Act.put, List.setIfInBounds_toArray, List.set_cons_zero, List.set_cons_succ]
      refine early_take (i := 1) rfl (by kernel_rfl) (by decide) (by kernel_rfl) (by kernel_rfl) (by kernel_rfl) (fun _ _ _ h => h) (v := ?_) (Or.inl ⟨by rfl, ?_⟩) hS ?_
      rotate_left
      · intro w' hw'
        obtain ⟨s1, s2⟩ := hw'
        go_simp
        try with_reducible rfl
      simp only [Act.put, List.setIfInBounds_toArray, List.set_cons_zero, List.set_cons_succ]
      refine early_take (i := 2) rfl (by kernel_rfl) (by decide) (by kernel_rfl) (by kernel_rfl) (by kernel_rfl) (fun _ _ _ h => h) (v := ?_) (Or.inl ⟨by rfl, ?_⟩) hS ?_
      rotate_left
      · intro w' hw'
        obtain ⟨s1, s2⟩ := hw'
        go_simp
        try with_reducible rfl
      simp only [Act.put, List.setIfInBounds_toArray, List.set_cons_zero, List.set_cons_succ]
      refine early_take (i := 3) rfl (by kernel_rfl) (by decide) (by kernel_rfl) (by kernel_rfl) (by kernel_rfl) (fun _ _ _ h => h) (v := ?_) (Or.inl ⟨by rfl, ?_⟩) hS ?_
      rotate_left
      · intro w' hw'
        obtain ⟨s1, s2⟩ := hw'
        go_simp
        try with_reducible rfl
      simp only [Act.put, List.setIfInBounds_toArray, List.set_cons_zero, List.set_cons_succ]
      refine early_take (i := 4) rfl (by kernel_rfl) (by decide) (by kernel_rfl) (by kernel_rfl) (by kernel_rfl) (fun _ _ _ h => h) (v := ?_) (Or.inl ⟨by rfl, ?_⟩) hS ?_
      rotate_left
      · intro w' hw'
        obtain ⟨s1, s2⟩ := hw'
        go_simp
        try with_reducible rfl
      simp only [Act.put, List.setIfInBounds_toArray, List.set_cons_zero, List.set_cons_succ]
      refine early_take (i := 5) rfl (by kernel_rfl) (by decide) (by kernel_rfl) (by kernel_rfl) (by kernel_rfl) (fun _ _ _ h => h) (v := ?_) (Or.inl ⟨by rfl, ?_⟩) hS ?_
      rotate_left
      · intro w' hw'
        obtain ⟨s1, s2⟩ := hw'
        go_simp
        try with_reducible rfl
      simp only [Act.put, List.setIfInBounds_toArray, List.set_cons_zero, List.set_cons_succ]
      refine early_take (i := 6) rfl (by kernel_rfl) (by decide) (by kernel_rfl) (by kernel_rfl) (by kernel_rfl) (fun _ _ _ h => h) (v := ?_) (Or.inl ⟨by rfl, ?_⟩) hS ?_
      rotate_left
      · intro w' hw'
        obtain ⟨s1, s2⟩ := hw'
        go_simp
        try with_reducible rfl
      simp only [Act.put, List.setIfInBounds_toArray, List.set_cons_zero, List.set_cons_succ]
      refine early_next (i := 7) (by kernel_rfl) rfl (fun K hK => ?_)
      go_simp
      refine hK _ _ (fun _ => ⟨hco2, hcd2⟩) ?_
      clear hK K
      refine early_next (i := 8) (by kernel_rfl) rfl (fun K hK => ?_)
      go_simp
      refine hK _ _ (fun _ => ⟨hco8, hcd8⟩) ?_
      clear hK K
      refine early_next (i := 9) (by kernel_rfl) rfl (fun K hK => ?_)
      go_simp
      refine hK _ _ (fun h => absurd rfl h) ?_
      clear hK K
      refine early_done (by kernel_rfl) ?_ _
      gi_wp2
      exact ⟨HST.out.1, rfl, by rw [HPL.out, HE.out], HST.out.2.2⟩
    · have hb : ((pre.length : Int) + 1 == (data.size : Int)) = false := by simp; omega
      have hle : pre.length + 1 < data.size := by omega
      clear hend
      gi_wp2
      refine region_early (fun w' => w'.cell? ⟨w.heap.size + 1 + 1, 0, none⟩ = some (.slice (some ⟨w.heap.size + 1, 0, none⟩) pre.length data.size) ∧ w'.cell? ⟨w.heap.size, 0, none⟩ = some (.string data)) 9 hmx (by rintro ⟨a, w, h⟩; exact h) (by kernel_rfl) ⟨hco, hcd⟩ (fun hS => ?_)
      refine early_take (i := 0) rfl (by kernel_rfl) (by decide) (by kernel_rfl) (by kernel_rfl) (by kernel_rfl) (fun _ _ _ h => h) (v := ?_) (Or.inl ⟨by rfl, ?_⟩) hS ?_
      rotate_left
      · intro w' hw'
        obtain ⟨s1, s2⟩ := hw'
        go_simp
        try with_reducible rfl
      simp only [Act.put, List.setIfInBounds_toArray, List.set_cons_zero, List.set_cons_succ]
      refine early_take (i := 1) rfl (by kernel_rfl) (by decide) (by kernel_rfl) (by kernel_rfl) (by kernel_rfl) (fun _ _ _ h => h) (v := ?_) (Or.inl ⟨by rfl, ?_⟩) hS ?_
      rotate_left
      · intro w' hw'
        obtain ⟨s1, s2⟩ := hw'
        go_simp
        try with_reducible rfl
      simp only [Act.put, List.setIfInBounds_toArray, List.set_cons_zero, List.set_cons_succ]
      refine early_take (i := 2) rfl (by kernel_rfl) (by decide) (by kernel_rfl) (by kernel_rfl) (by kernel_rfl) (fun _ _ _ h => h) (v := ?_) (Or.inl ⟨by rfl, ?_⟩) hS ?_
      rotate_left
      · intro w' hw'
        obtain ⟨s1, s2⟩ := hw'
        go_simp
        try with_reducible rfl
      simp only [Act.put, List.setIfInBounds_toArray, List.set_cons_zero, List.set_cons_succ]
      refine early_take (i := 3) rfl (by kernel_rfl) (by decide) (by kernel_rfl) (by kernel_rfl) (by kernel_rfl) (fun _ _ _ h => h) (v := ?_) (Or.inl ⟨by rfl, ?_⟩) hS ?_
      rotate_left
      · intro w' hw'
        obtain ⟨s1, s2⟩ := hw'
        go_simp
        try with_reducible rfl
      simp only [Act.put, List.setIfInBounds_toArray, List.set_cons_zero, List.set_cons_succ]
      refine early_take (i := 4) rfl (by kernel_rfl) (by decide) (by kernel_rfl) (by kernel_rfl) (by kernel_rfl) (fun _ _ _ h => h) (v := ?_) (Or.inl ⟨by rfl, ?_⟩) hS ?_
      rotate_left
      · intro w' hw'
        obtain ⟨s1, s2⟩ := hw'
        go_simp
        try with_reducible rfl
      simp only [Act.put, List.setIfInBounds_toArray, List.set_cons_zero, List.set_cons_succ]
      refine early_take (i := 5) rfl (by kernel_rfl) (by decide) (by kernel_rfl) (by kernel_rfl) (by kernel_rfl) (fun _ _ _ h => h) (v := ?_) (Or.inl ⟨by rfl, ?_⟩) hS ?_
      rotate_left
      · intro w' hw'
        obtain ⟨s1, s2⟩ := hw'
        go_simp
        try with_reducible rfl
      simp only [Act.put, List.setIfInBounds_toArray, List.set_cons_zero, List.set_cons_succ]
      refine early_take (i := 6) rfl (by kernel_rfl) (by decide) (by kernel_rfl) (by kernel_rfl) (by kernel_rfl) (fun _ _ _ h => h) (v := ?_) (Or.inl ⟨by rfl, ?_⟩) hS ?_
      rotate_left
      · intro w' hw'
        obtain ⟨s1, s2⟩ := hw'
        go_simp
        try with_reducible rfl
      simp only [Act.put, List.setIfInBounds_toArray, List.set_cons_zero, List.set_cons_succ]
      refine early_next (i := 7) (by kernel_rfl) rfl (fun K hK => ?_)
      go_simp
      refine hK _ _ (fun _ => ⟨hco2, hcd2⟩) ?_
      clear hK K
      refine early_next (i := 8) (by kernel_rfl) rfl (fun K hK => ?_)
      go_simp
      refine hK _ _ (fun _ => ⟨hco8, hcd8⟩) ?_
      clear hK K
      refine early_next (i := 9) (by kernel_rfl) rfl (fun K hK => ?_)
      go_simp
      refine hK _ _ (fun h => absurd rfl h) ?_
      clear hK K
      refine early_done (by kernel_rfl) ?_ _
      gi_wp2
      exact ⟨HST.out.1, HST.out.2.1, by rw [HPL.out]; exact hle, HST.out.2.2⟩
  case stop =>
    rintro D c pre W hD hSp ⟨rfl, hlen, hI⟩ hK
    have hco := hI.bo.cell
    obtain ⟨cur, hcur, hcs, hci⟩ := hI.row
    have hml : (maskTo key nonce data data.size).length = data.size := maskTo_length _ _ _ _
    have hcv := run_convert_bytes_back (P := Tryd.prog) W 93 9 5 ⟨w.heap.size + 1, 0, none⟩ data.size (maskTo key nonce data data.size) Tryd.underlying93 Tryd.underlying5 Tryd.underlying9 (fun j hj => by
      have hadd : (⟨w.heap.size + 1, 0, none⟩ : Addr).add j = ⟨w.heap.size + 1, j, none⟩ := by unfold Addr.add; split <;> simp_all
      rw [hml] at hj
      rw [hadd, cell_of_row W _ j cur _ _ hcur, hci j (by omega)]
      have hp : pre.getD j 0 = strAt key nonce j := by
        rw [hSp, hlen]
        simp [strL, List.getD_eq_getElem?_getD, hj]
      rw [hp]
      simp only [maskTo, List.getElem_map, List.getElem_range])
    rw [hml] at hcv
    rw [hlen] at hco
    have hqq := hI.q
    clear hcur hcs hci hml hI
    gi_wp2
    refine ⟨by simp, .inl ⟨_, _, rfl, run_takeDeferred hK, ?_⟩⟩
    exact ⟨_, results_tmp rfl _ _ _, rfl, Below.trans hqq ((Below.refl w.heap.size W).grown (grownBy_putObj' W D _) (by have := (Array.getElem?_eq_some_iff.1 hK).1; omega) (fun k e => by cases e; omega))⟩
end Go.Proofs.YtppbplchdfhnkaaDoor.Seal
