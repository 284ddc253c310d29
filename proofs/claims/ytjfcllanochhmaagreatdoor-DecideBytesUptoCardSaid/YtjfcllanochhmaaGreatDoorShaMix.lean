/-
  The contract of package sum's mix (SHA-256).
-/
import Derived.Test.YtjfcllanochhmaaGreatDoorShaWalk
set_option linter.unusedVariables false
set_option linter.unusedSimpArgs false
namespace Go.Proofs.YtjfcllanochhmaaGreatDoor.Sha
open Go.RowKit Grp Mem

theorem arr_one (v : V8) : v.arr.all (·.oneCell') = true := by simp [V8.arr, Value.oneCell']

/-- The two tables of package sum hold what the program's text says. -/
structure Tab (w : World) : Prop where
  ini : ∃ t fr, w.heap[(0 : Nat)]? = some (.cells init.arr t fr)
  con : ∀ i, i < 64 → w.cell? ⟨1, i, none⟩ = some (.int .u32 (K i))
  lt0 : 0 < w.heap.size
  lt1 : 1 < w.heap.size
theorem Tab.q {w w' : World} (h : Tab w) (hq : Q w w') : Tab w' := by
  obtain ⟨t, fr, hi⟩ := h.ini
  exact ⟨⟨t, fr, (hq.block _ h.lt0).trans hi⟩, fun i hi => (hq.cell (p := ⟨1, i, none⟩) h.lt1).trans (h.con i hi), Nat.lt_of_lt_of_le h.lt0 hq.size, Nat.lt_of_lt_of_le h.lt1 hq.size⟩

set_option maxRecDepth 100000 in
set_option maxHeartbeats 1000000 in
theorem mix_any (v : V8) (s : ByteArray) (w : World) (hv : V8Ok v) (hs : 64 ≤ s.size) (hT : Tab w) :
    Calls Tryz.prog 77 #[.agg v.arr, .string s] w fun e w' => e = .returned (.agg (mix v s).arr) ∧ Q w w' := by
  have hsz : v.arr.size = 8 := rfl
  unfold V8.arr
  go_enter Tryz.func77, Tryz.ntmps77
  go_wp2_with fail
  refine (schedule_any s _ hs).mono ?_
  rintro e w1 ⟨rfl, hq⟩
  have hlt1 : w.heap.size + 1 < w1.heap.size := by have := hq.size; simp at this; omega
  have HO := Lib.hid (ints_one .u32 64 fun j => if j < 64 then W s j else 0)
  go_wp2_with (refine wpList_store_row rfl 149 _ _ rfl w1.heap.size (schedA s 64) rfl rfl 149 _ (heap_alloc_new w1 _) (by kernel_rfl) (by kernel_rfl) HO.out ?_)
  have b0 : Blk w1 w.heap.size 120 v.arr := (Blk.alloc (Blk.new' w _ _ rfl) _).q hq
  have b1 : Blk w1 (w.heap.size + 1) 120 #[.int .u32 0, .int .u32 0, .int .u32 0, .int .u32 0, .int .u32 0, .int .u32 0, .int .u32 0, .int .u32 0] := (Blk.new' _ _ _ (by simp)).q hq
  have q1 : Q w w1 := (((Below.refl w.heap.size w).alloc (Nat.le_refl _) _).alloc (by simp) _).trans (hq.mono (by simp; omega))
  have b0 := (b0.alloc (.cells (schedA s 0) 149)).rowFar (g' := w1.heap.size) (by omega) (schedA s 64)
  have b1 := (b1.alloc (.cells (schedA s 0) 149)).rowFar (g' := w1.heap.size) (by omega) (schedA s 64)
  have b2 := (Blk.new w1 149 (schedA s 0)).setRow (schedA s 64)
  have q2 : Q w ((w1.alloc (.cells (schedA s 0) 149)).setRow w1.heap.size (schedA s 64)) := below_setRow (q1.alloc (by omega) _) (by omega) _
  have hT2 := hT.q q2
  change Code.wp _ _ _ _ ((w1.alloc (.cells (schedA s 0) 149)).setRow w1.heap.size (schedA s 64))
  generalize (w1.alloc (.cells (schedA s 0) 149)).setRow w1.heap.size (schedA s 64) = W2 at *
  generalize w1.heap.size = g2 at *
  clear q1 hq
  have c0 := b0.cell 0
  have c1 := b0.cell 1
  have c2 := b0.cell 2
  have c3 := b0.cell 3
  have c4 := b0.cell 4
  have c5 := b0.cell 5
  have c6 := b0.cell 6
  have c7 := b0.cell 7
  simp only [V8.arr, List.getElem?_toArray, List.getElem?_cons_zero, List.getElem?_cons_succ] at c0 c1 c2 c3 c4 c5 c6 c7
  go_wp2_with fail
  go_quiet (fail)
  go_wp2_with fail
  go_quiet (fail)
  go_wp2_with fail
  go_loopw [6, 7, 8, 9, 10, 11, 12, 13, 35] (fun a b c d e f g h i wr => ∃ (k n : Nat), k ≤ 64 ∧ i = .int .i64 k ∧ a = .int .u32 (rnds s v k).a ∧ b = .int .u32 (rnds s v k).b ∧ c = .int .u32 (rnds s v k).c ∧ d = .int .u32 (rnds s v k).d ∧ e = .int .u32 (rnds s v k).e ∧ f = .int .u32 (rnds s v k).f ∧ g = .int .u32 (rnds s v k).g ∧ h = .int .u32 (rnds s v k).h ∧ wr = W2.drewN n) (fun _ _ _ _ _ _ _ _ i _ => 64 - (intOf i).toNat)
  case atStart => exact ⟨0, _, by omega, rfl, rfl, rfl, rfl, rfl, rfl, rfl, rfl, rfl, World.drewN_drewN _ _ _⟩
  case round =>
    obtain ⟨k, n, hk, rfl, rfl, rfl, rfl, rfl, rfl, rfl, rfl, rfl, rfl⟩ := hrel
    have ok := rnds_ok s hv k
    have he : rnds s v (k + 1) = rnd (rnds s v k) (K k) (W s k) := rfl
    have HE := Lib.hid he
    clear he
    by_cases hlt : k < 64
    · have kc := hT2.con k hlt
      have wc := b2.cell k
      rw [schedA_get s 64 k hlt hlt] at wc
      generalize rnds s v k = V at *
      have dE := ok.e
      have dA := ok.a
      have e0 := ok.e.1
      have a0 := ok.a.1
      go_wp2_with fail
      go_quiet ((go_at_call 111; exact quiet_add_left (turn_any _ _ _ dE (by decide) (by decide))))
      go_wp2_with fail
      refine (turn_any _ _ _ dA (by decide) (by decide)).mono ?_
      rintro e w' ⟨rfl, rfl⟩
      go_wp2_with fail
      refine (turn_any _ _ _ dA (by decide) (by decide)).mono ?_
      rintro e w' ⟨rfl, rfl⟩
      go_wp2_with fail
      refine (turn_any _ _ _ dA (by decide) (by decide)).mono ?_
      rintro e w' ⟨rfl, rfl⟩
      go_wp2_with fail
      exact ⟨⟨k + 1, _, by omega, by go_num, by rw [HE.out]; rfl, by rw [HE.out]; rfl, by rw [HE.out]; rfl, by rw [HE.out]; rfl, by rw [HE.out]; rfl, by rw [HE.out]; rfl, by rw [HE.out]; rfl, by rw [HE.out]; rfl, rfl⟩, by simp only [intOf]; omega⟩
    · have hk64 : k = 64 := by omega
      have hm : mix v s = plus v (rnds s v k) := by rw [hk64]; rfl
      have HM := Lib.hid hm
      clear hm hk64 HE
      generalize rnds s v k = V at *
      have b1' : (W2.drewN n).heap[w.heap.size + 1]? = some (.cells #[.int .u32 0, .int .u32 0, .int .u32 0, .int .u32 0, .int .u32 0, .int .u32 0, .int .u32 0, .int .u32 0] 120 (0, 0)) := b1
      have B1 := Lib.hid b1'
      clear b1'
      go_wp2_with (refine wpList_store_row rfl 120 _ _ rfl (w.heap.size + 1) (plus v V).arr rfl rfl 120 _ B1.out (by kernel_rfl) (by kernel_rfl) (arr_one _) ?_)
      refine bodyPost_ret (results_cell_row rfl _ _ (w.heap.size + 1) 120 (plus v V).arr (0, 0) _ rfl (Blk.setRow (b1.drewN n) _) Tryz.underlying120 rfl (by kernel_rfl)) rfl ⟨?_, below_setRow (below_drewN q2 n) (by omega) _⟩
      rw [HM.out]
      rfl

end Go.Proofs.YtjfcllanochhmaaGreatDoor.Sha
