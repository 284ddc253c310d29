/-
  The contract of package sum's Sha.
-/
import Derived.Test.YtjfcllanochhmaaGreatDoorShaEnd
import Derived.Deep.RegionHeld3
set_option linter.unusedVariables false
set_option linter.unusedSimpArgs false
namespace Go.Proofs.YtjfcllanochhmaaGreatDoor.Sha
open Go.RowKit Grp Mem

/-- The whole blocks at the front of a string, and what is left. -/
def eat : Nat → V8 → ByteArray → V8 × ByteArray
  | 0, v, r => (v, r)
  | f + 1, v, r => if 64 ≤ r.size then eat f (mix v (r.extract 0 64)) (r.extract 64 r.size) else (v, r)
theorem eat_short (f : Nat) (v : V8) (r : ByteArray) (h : r.size < 64) : eat f v r = (v, r) := by
  cases f with
  | zero => rfl
  | succ f => rw [eat, if_neg (by omega)]
theorem eat_step (f : Nat) (v : V8) (r : ByteArray) (h : 64 ≤ r.size) : eat (f + 1) v r = eat f (mix v (r.extract 0 64)) (r.extract 64 r.size) := by rw [eat, if_pos h]
theorem eat_size : ∀ (f : Nat) (v : V8) (r : ByteArray), r.size ≤ f → (eat f v r).2.size < 64 := by
  intro f
  induction f with
  | zero => intro v r h; show r.size < 64; omega
  | succ f ih =>
    intro v r h
    rw [eat]
    split
    · apply ih
      simp
      omega
    · show r.size < 64
      omega
def shaV (s : ByteArray) : V8 := (eat 3 (eat s.size init s).1 (endB (eat s.size init s).2 s.size)).1
def wordBytes (x : Int) : List UInt8 := [UInt8.ofNat (x / 16777216 % 256).toNat, UInt8.ofNat (x / 65536 % 256).toNat, UInt8.ofNat (x / 256 % 256).toNat, UInt8.ofNat (x % 256).toNat]
def V8.list (v : V8) : List Int := [v.a, v.b, v.c, v.d, v.e, v.f, v.g, v.h]
def digest (v : V8) : List UInt8 := v.list.flatMap wordBytes
def sha (s : ByteArray) : ByteArray := ⟨(digest (shaV s)).toArray⟩
theorem sha_size (s : ByteArray) : (sha s).size = 32 := by simp [sha, digest, V8.list, wordBytes, ByteArray.size]

theorem notEmpty_t (s : ByteArray) (h : 0 < s.size) : (!s.toList.isEmpty) = true := by
  rw [ByteArray.toList_eq]
  have h1 : s.data.toList.length = s.size := by rw [Array.length_toList]; rfl
  cases hl : s.data.toList with
  | nil => rw [hl] at h1; simp at h1; omega
  | cons a l => rfl
theorem notEmpty_f (s : ByteArray) (h : s.size = 0) : (!s.toList.isEmpty) = false := by
  rw [ByteArray.toList_eq]
  have h1 : s.data.toList.length = s.size := by rw [Array.length_toList]; rfl
  have h2 : s.data.toList = [] := List.eq_nil_of_length_eq_zero (by omega)
  rw [h2]
  rfl

theorem index_arr (v : V8) (k : Nat) (h : k < 8) (w : World) : (Instr.index 120 (.agg v.arr) (.int .i64 (k : Int))).run Tryz.prog w = .ok (.int .u32 (v.list.getD k 0)) w := by
  rcases (show k = 0 ∨ k = 1 ∨ k = 2 ∨ k = 3 ∨ k = 4 ∨ k = 5 ∨ k = 6 ∨ k = 7 by omega) with rfl | rfl | rfl | rfl | rfl | rfl | rfl | rfl
  all_goals kernel_rfl

theorem list_bd {v : V8} (h : V8Ok v) (k : Nat) (hk : k < 8) : U32 (v.list.getD k 0) := by
  rcases (show k = 0 ∨ k = 1 ∨ k = 2 ∨ k = 3 ∨ k = 4 ∨ k = 5 ∨ k = 6 ∨ k = 7 by omega) with rfl | rfl | rfl | rfl | rfl | rfl | rfl | rfl
  · exact h.a
  · exact h.b
  · exact h.c
  · exact h.d
  · exact h.e
  · exact h.f
  · exact h.g
  · exact h.h

/-- The bytes of the first k words. -/
def part (v : V8) (k : Nat) : List UInt8 := (v.list.take k).flatMap wordBytes
theorem part_length (v : V8) (k : Nat) (hk : k ≤ 8) : (part v k).length = 4 * k := by
  rcases (show k = 0 ∨ k = 1 ∨ k = 2 ∨ k = 3 ∨ k = 4 ∨ k = 5 ∨ k = 6 ∨ k = 7 ∨ k = 8 by omega) with rfl | rfl | rfl | rfl | rfl | rfl | rfl | rfl | rfl <;> simp [part, V8.list, wordBytes]
theorem byte_cell (x : Int) (h0 : 0 ≤ x) (h1 : x < 256) : Value.int .u8 ((UInt8.ofNat x.toNat).toNat : Int) = Value.int .u8 x := by
  have : (UInt8.ofNat x.toNat).toNat = x.toNat := toNat_u8 _ (by omega)
  rw [this]
  congr 1
  omega
theorem part_succ (v : V8) (k : Nat) (hk : k < 8) : cellsOf (part v (k + 1)) = cellsOf (part v k) ++ [.int .u8 (v.list.getD k 0 / 16777216 % 256), .int .u8 (v.list.getD k 0 / 65536 % 256), .int .u8 (v.list.getD k 0 / 256 % 256), .int .u8 (v.list.getD k 0 % 256)] := by
  have h1 : v.list.take (k + 1) = v.list.take k ++ [v.list.getD k 0] := by
    have hl : k < v.list.length := hk
    rw [List.take_succ_eq_append_getElem hl, List.getD_eq_getElem?_getD, List.getElem?_eq_getElem hl]
    rfl
  have h2 : part v (k + 1) = part v k ++ wordBytes (v.list.getD k 0) := by simp [part, h1]
  rw [h2, cellsOf_append]
  generalize v.list.getD k 0 = x
  congr 1
  simp only [cellsOf, wordBytes, List.map_cons, List.map_nil]
  rw [byte_cell _ (by omega) (by omega), byte_cell _ (by omega) (by omega), byte_cell _ (by omega) (by omega), byte_cell _ (by omega) (by omega)]

theorem cell_list_new (w : World) (t : TypeId) (news : List Value) (j : Nat) (u : Value) (h : news[j]? = some u) : (w.alloc (.cells news.toArray t)).cell? ((⟨w.heap.size, 0, none⟩ : Addr).add j) = some u := by
  have hadd : (⟨w.heap.size, 0, none⟩ : Addr).add j = ⟨w.heap.size, j, none⟩ := by unfold Addr.add; split <;> simp_all
  rw [hadd, (Blk.new w t news.toArray).cell j]
  simpa using h

set_option maxRecDepth 100000 in
set_option maxHeartbeats 1000000 in
theorem Sha_any (s : ByteArray) (w : World) (hT : Tab w) (hs : s.size ≤ 140737488355327) :
    Calls Tryz.prog 45 #[.string s] w fun e w' => e = .returned (.string (sha s)) ∧ Q w w' := by
  obtain ⟨t0, fr0, hini⟩ := hT.ini
  have HI := Lib.hid hini
  clear hini
  go_enter Tryz.func45, Tryz.ntmps45
  go_wp2_with (first | (refine wpList_load_row rfl 120 _ rfl 0 rfl t0 init.arr fr0 _ HI.out Tryz.underlying120 rfl (by kernel_rfl) ?_) | (refine wpList_store_row rfl 120 _ _ rfl w.heap.size init.arr rfl rfl 120 _ (heap_alloc_new w _) (by kernel_rfl) (by kernel_rfl) (arr_one _) ?_))
  have hb0 := (Blk.new w 120 #[.int .u32 0, .int .u32 0, .int .u32 0, .int .u32 0, .int .u32 0, .int .u32 0, .int .u32 0, .int .u32 0]).setRow init.arr
  have hq0 : Q w ((w.alloc (.cells #[.int .u32 0, .int .u32 0, .int .u32 0, .int .u32 0, .int .u32 0, .int .u32 0, .int .u32 0, .int .u32 0] 120)).setRow w.heap.size init.arr) := below_setRow ((Below.refl _ _).alloc (Nat.le_refl _) _) (Nat.le_refl _) _
  generalize (w.alloc (.cells #[.int .u32 0, .int .u32 0, .int .u32 0, .int .u32 0, .int .u32 0, .int .u32 0, .int .u32 0, .int .u32 0] 120)).setRow w.heap.size init.arr = W1 at *
  go_loopw [4] (fun x wr => ∃ (f : Nat) (v : V8) (r : ByteArray), x = .string r ∧ r.size ≤ f ∧ r.size ≤ s.size ∧ V8Ok v ∧ eat s.size init s = eat f v r ∧ Blk wr w.heap.size 120 v.arr ∧ Q w wr) (fun x _ => (match x with | .string r => r.size | _ => 0))
  case atStart => exact ⟨s.size, init, s, rfl, Nat.le_refl _, Nat.le_refl _, init_ok, rfl, hb0, hq0⟩
  case round =>
    obtain ⟨f, v, r, rfl, hf, hr, hv, he, hb, hq⟩ := hrel
    have HE := Lib.hid he
    clear he
    by_cases hlt : 64 ≤ r.size
    · have hT1 := hT.q hq
      have hx : 64 ≤ (r.extract 0 64).size := by simp; omega
      go_wp2_with fail
      go_still_tail 3, (by kernel_rfl)
      refine wpStill_load_row rfl 120 _ rfl w.heap.size rfl 120 v.arr (0, 0) _ hb Tryz.underlying120 rfl (by kernel_rfl) ?_
      repeat still_step
      refine wpStill_nil ?_
      change wpList _ _ _ _ _ wr.drew
      go_wp2_with fail
      refine (mix_any v (r.extract 0 64) _ hv hx (hT1.q (Q.refl _).drew)).mono ?_
      rintro e w2 ⟨rfl, hq2⟩
      have hb2 := Blk.q (w := wr.drew) hb.drew hq2
      have hqq := Q.trans hq.drew hq2
      go_wp2_with (refine wpList_store_row rfl 120 _ _ rfl w.heap.size (mix v (r.extract 0 64)).arr rfl rfl 120 _ hb2 (by kernel_rfl) (by kernel_rfl) (arr_one _) ?_)
      cases f with
      | zero => omega
      | succ f =>
        exact ⟨⟨f, mix v (r.extract 0 64), r.extract 64 r.size, rfl, by simp; omega, by simp; omega, mix_ok _ _, by rw [HE.out, eat_step _ _ _ hlt], hb2.setRow _, below_setRow hqq (Nat.le_refl _) _⟩, by simp; omega⟩
    · have he2 : eat s.size init s = (v, r) := by rw [HE.out, eat_short _ _ _ (by omega)]
      have HE2 := Lib.hid he2
      clear he2 HE
      have hT1 := hT.q hq
      go_wp2_with fail
      refine (ending_any r s.size _ (by omega) hs).mono ?_
      rintro e w2 ⟨rfl, hq2⟩
      have hb2 := hb.q hq2
      have hqq := Q.trans hq hq2
      have hsz := endB_size r s.size (by omega)
      have hsz2 : (endB r s.size).size ≤ 128 ∧ (endB r s.size).size % 64 = 0 := by rw [hsz]; split <;> omega
      obtain ⟨hz1, hz2⟩ := hsz2
      clear hsz hb hq hq2
      go_wp2_with fail
      have hE : shaV s = (eat 3 v (endB r s.size)).1 := by unfold shaV; rw [HE2.out]
      have HE3 := Lib.hid hE
      clear hE
      go_loopw [4] (fun x wr => ∃ (f : Nat) (v' : V8) (r' : ByteArray), x = .string r' ∧ r'.size ≤ 64 * f ∧ r'.size % 64 = 0 ∧ V8Ok v' ∧ eat 3 v (endB r s.size) = eat f v' r' ∧ Blk wr w.heap.size 120 v'.arr ∧ Q w wr) (fun x _ => (match x with | .string r => r.size | _ => 0))
      case atStart => exact ⟨3, v, _, rfl, by omega, hz2, hv, rfl, hb2, hqq⟩
      case round =>
        obtain ⟨f, v', r', rfl, hf, hm, hv', he, hb, hq⟩ := hrel
        have HE := Lib.hid he
        clear he
        by_cases hlt : 64 ≤ r'.size
        · have hT1 := hT.q hq
          have hx : 64 ≤ (r'.extract 0 64).size := by simp; omega
          have hb1 := notEmpty_t r' (by omega)
          have hlti : (64 : Int) ≤ (r'.size : Int) := by omega
          go_wp2_with fail
          go_still_tail 3, (by kernel_rfl)
          refine wpStill_load_row rfl 120 _ rfl w.heap.size rfl 120 v'.arr (0, 0) _ hb Tryz.underlying120 rfl (by kernel_rfl) ?_
          repeat still_step
          refine wpStill_nil ?_
          change wpList _ _ _ _ _ wr.drew
          go_wp2_with fail
          refine (mix_any v' (r'.extract 0 64) _ hv' hx (hT1.q (Q.refl _).drew)).mono ?_
          rintro e w3 ⟨rfl, hq3⟩
          have hb3 := Blk.q (w := wr.drew) hb.drew hq3
          have hqq := Q.trans hq.drew hq3
          go_wp2_with (refine wpList_store_row rfl 120 _ _ rfl w.heap.size (mix v' (r'.extract 0 64)).arr rfl rfl 120 _ hb3 (by kernel_rfl) (by kernel_rfl) (arr_one _) ?_)
          cases f with
          | zero => omega
          | succ f =>
            exact ⟨⟨f, mix v' (r'.extract 0 64), r'.extract 64 r'.size, rfl, by simp; omega, by simp; omega, mix_ok _ _, by rw [HE.out, eat_step _ _ _ hlt], hb3.setRow _, below_setRow hqq (Nat.le_refl _) _⟩, by simp; omega⟩
        · have he2 : shaV s = v' := by rw [HE3.out, HE.out, eat_short _ _ _ (by omega)]
          have HV := Lib.hid he2
          clear he2 HE HE3 HE2
          have hb1 := notEmpty_f r' (by omega)
          obtain ⟨i0, hi, hz0, hz1', hz2'⟩ := info_parts byte_info
          have hb' : wr.heap[w.heap.size]? = some (.cells v'.arr 120 (0, 0)) := hb
          have HB := Lib.hid hb'
          clear hb'
          go_wp2_with (refine wpList_make_own _ rfl _ _ 75 rfl w.heap.size 5 i0 _ 1 Tryz.underlying75 hi hz0 hz1' .i64 .i64 32 32 rfl rfl rfl (by omega) (by simp only [maxLen]; omega) hq.size ?_)
          intro w4 hown4 hg4
          have hq4 : Q w w4 := Below.trans hq (below_grown hg4 hq.size (fun k hk => by cases hk))
          have hb4 : Blk w4 w.heap.size 120 v'.arr := (hg4.block _ hb.lt (fun h => by cases h)).trans hb
          have hown4 := Owns.of hown4
          clear hg4
          go_wp2_with (refine wpList_load_row rfl 120 _ rfl w.heap.size rfl 120 v'.arr (0, 0) _ hb4 Tryz.underlying120 rfl (by kernel_rfl) ?_)
          go_loopw [5, 33] (fun x i wr => ∃ (A : Option Addr) (c k : Nat), x = .slice A (4 * k) c ∧ i = .int .i64 k ∧ k ≤ 8 ∧ 4 * k ≤ c ∧ c ≤ maxLen ∧ Owns wr w.heap.size 5 1 (.slice A (4 * k) c) (4 * k) (cellsOf (part v' k)) ∧ Q w wr) (fun _ i _ => 8 - (intOf i).toNat)
          case atStart => exact ⟨_, 32, 0, rfl, rfl, by omega, by omega, by simp only [maxLen]; omega, hown4, hq4⟩
          case round =>
            obtain ⟨A, c, k, rfl, rfl, hk, hc, hcm, hown, hq⟩ := hrel
            by_cases hlt : k < 8
            · have hix := index_arr v' k hlt
              have hp := Lib.hid (part_succ v' k hlt)
              have x0 := (list_bd hv' k hlt).1
              generalize v'.list.getD k 0 = x at *
              go_wp2_with (at_builtin; go_loud (refine wpList_append_owns _ rfl (.tmp 36) (.tmp 48) 75 rfl w.heap.size 5 i0 _ 1 1 Tryz.underlying75 hi hz0 hz1' hz2' rfl (by decide) _ (4 * k) _ rfl (hown.alloc _) ⟨wr.heap.size, 0, none⟩ 4 4 [.int .u8 (x / 16777216 % 256), .int .u8 (x / 65536 % 256), .int .u8 (x / 256 % 256), .int .u8 (x % 256)] rfl rfl (cell_list_new _ _ _) ?_ (by simp only [maxLen]; omega) (by omega) ?_ ?_))
              · simp [Value.oneCell']
              · have := hq.size
                simp
                omega
              intro v2 w2' hown2 hg2
              have hq2 := q_append hq hown hg2
              rw [← hp.out] at hown2
              obtain ⟨A2, cap2, rfl, hn2, hm2⟩ := hown2.shape
              go_wp2
              exact ⟨⟨_, _, k + 1, rfl, by go_num, by omega, hn2, hm2, hown2, hq2⟩, by simp only [intOf]; omega⟩
            · obtain rfl : k = 8 := by omega
              have hcv := run_string_of_owns (P := Tryz.prog) wr w.heap.size 75 9 5 _ (part v' 8) Tryz.underlying75 Tryz.underlying5 Tryz.underlying9 hown
              go_wp2
              go_ret
              exact ⟨by unfold sha; rw [HV.out]; rfl, hq⟩

end Go.Proofs.YtjfcllanochhmaaGreatDoor.Sha
