/-
  The contract of package share's polynomial.
-/
import Derived.Test.YtppbplchdfhnkaaDoorShareWalk
import Derived.Test.YtppbplchdfhnkaaDoorSignChal
import Derived.Maps.AppendAt
set_option linter.unusedVariables false
set_option linter.unusedSimpArgs false
namespace Go.Proofs.YtppbplchdfhnkaaDoor.Share
open Go.RowKit Grp Mem _root_.Go.Proofs.YtppbplchdfhnkaaDoor.Code Sha
open Sign (hashI hashI_bd textB_size)

theorem int_info : (Tryd.prog.info? 3).map (fun i => (i.zero, i.size, i.bytes)) = some (some (.int .i64 0), 1, 8) := by kernel_rfl
/-- Coefficient i of a seed. -/
def coefAt (s : Int) (seed : ByteArray) (i : Nat) : Int := if i = 0 then s else gadd (hashI (textB seed ++ numB (i : Int))) 0
def coefL (s : Int) (seed : ByteArray) (n : Nat) : List Int := (List.range n).map (coefAt s seed)
def cellsI (l : List Int) : List Value := l.map fun x => Value.int .i64 x
theorem coefL_length (s : Int) (seed : ByteArray) (n : Nat) : (coefL s seed n).length = n := by simp [coefL]
theorem coefL_succ (s : Int) (seed : ByteArray) (n : Nat) : cellsI (coefL s seed (n + 1)) = cellsI (coefL s seed n) ++ [.int .i64 (coefAt s seed n)] := by simp [cellsI, coefL, List.range_succ]

set_option maxRecDepth 100000 in
set_option maxHeartbeats 2000000 in
theorem polynomial_any (s t : Int) (seed : ByteArray) (w : World) (hT : Tab w) (h0 : 1 ≤ t) (h1 : t ≤ 1000000) (hs : seed.size ≤ 140737488355000) :
    Calls Tryd.prog 85 #[.int .i64 s, .int .i64 t, .string seed] w fun e w' => ∃ A c, e = .returned (.slice A t.toNat c) ∧ Owns w' w.heap.size 3 1 (.slice A t.toNat c) t.toNat (cellsI (coefL s seed t.toNat)) ∧ Q w w' := by
  obtain ⟨i0, hi, hz0, hz1, hz2⟩ := info_parts int_info
  have hown0 : Owns (w.alloc (.cells #[.int .i64 s] 3)) w.heap.size 3 1 (.slice (some ⟨w.heap.size, 0, none⟩) 1 1) 1 (cellsI (coefL s seed 1)) := by
    refine ⟨rfl, .inr ⟨w.heap.size, 1, #[.int .i64 s], (0, 0), rfl, Nat.le_refl _, heap_alloc_new w _, .inl rfl, Nat.le_refl _, by simp [maxLen], rfl, ?_⟩⟩
    simp [cellsI, coefL, coefAt]
  have hq0 : Q w (w.alloc (.cells #[.int .i64 s] 3)) := Below.alloc (Q.refl w) (Nat.le_refl _) _
  go_enter Tryd.func85, Tryd.ntmps85
  go_wp2_with fail
  go_loopw [7, 8] (fun x i wr => ∃ (A : Option Addr) (c k : Nat), x = .slice A k c ∧ i = .int .i64 k ∧ 1 ≤ k ∧ (k : Int) ≤ t ∧ k ≤ c ∧ c ≤ maxLen ∧ Owns wr w.heap.size 3 1 (.slice A k c) k (cellsI (coefL s seed k)) ∧ Q w wr) (fun _ i _ => t.toNat - (intOf i).toNat)
  case atStart => exact ⟨_, 1, 1, rfl, rfl, by omega, by omega, by omega, by simp [maxLen], hown0, hq0⟩
  case round =>
    obtain ⟨A, c, k, rfl, rfl, hk1, hk, hc, hcm, hown, hq⟩ := hrel
    by_cases hlt : (k : Int) < t
    · have hco : coefAt s seed k = gadd (hashI (textB seed ++ numB (k : Int))) 0 := by unfold coefAt; rw [if_neg (by omega)]
      have hsu := coefL_succ s seed k
      rw [hco] at hsu
      have HSU := Lib.hid hsu
      have h2 := textB_size seed
      have h3 := numB_size (k : Int)
      have s1 : (textB seed).size + (numB (k : Int)).size ≤ 9223372036854775807 := by omega
      have hz : (textB seed ++ numB (k : Int)).size ≤ 140737488355327 := by rw [ByteArray.size_append]; omega
      have HZ := Lib.hid hz
      have hhb := hashI_bd (textB seed ++ numB (k : Int))
      have hsz := sha_size (textB seed ++ numB (k : Int))
      clear hco hsu h2 h3 hz
      go_wp2_with fail
      refine (Text_any _ _ (by omega)).mono ?_
      rintro e w1 ⟨rfl, hq1⟩
      go_wp2_with fail
      refine (Num_any _ _ (by omega)).mono ?_
      rintro e w2 ⟨rfl, hq2⟩
      go_wp2_with fail
      refine (Sha_any _ _ ((hT.q hq).q (Q.trans hq1 hq2)) HZ.out).mono ?_
      rintro e w3 ⟨rfl, hq3⟩
      go_wp2_with fail
      refine (sumNum_any _ _ (by omega)).mono ?_
      rintro e w4 ⟨rfl, rfl⟩
      go_wp2_with fail
      refine (Add_any _ _ _).mono ?_
      rintro e w4 ⟨rfl, rfl⟩
      have hqa := Q.trans hq1 (Q.trans hq2 hq3)
      have hown := hown.q hqa
      have hq := Q.trans hq hqa
      clear hq1 hq2 hqa
      go_wp2_with (at_builtin; go_loud (refine wpList_append_owns _ rfl (.tmp 24) (.tmp 27) 55 rfl w.heap.size 3 i0 _ 1 8 Tryd.underlying55 hi hz0 hz1 hz2 rfl (by decide) _ k _ rfl (hown.alloc _) ⟨w3.heap.size, 0, none⟩ 1 1 [.int .i64 (gadd (hashI (textB seed ++ numB (k : Int))) 0)] rfl rfl (cell_one_new _ _ _) (by simp [Value.oneCell']) (by simp only [maxLen]; omega) (by omega) ?_ ?_))
      · have := hq.size
        simp
        omega
      intro v5 w5 hown5 hg5
      have hq5 := q_append hq hown hg5
      rw [← HSU.out] at hown5
      obtain ⟨A2, cap2, rfl, hn2, hm2⟩ := hown5.shape
      go_wp2
      exact ⟨⟨_, _, k + 1, rfl, by go_num, by omega, by omega, hn2, hm2, hown5, hq5⟩, by simp only [intOf]; omega⟩
    · have hkt : t.toNat = k := by omega
      have HKT := Lib.hid hkt
      clear hkt
      go_wp2
      go_ret
      exact ⟨A, c, by rw [HKT.out]; rfl, by rw [HKT.out]; exact hown, hq⟩
end Go.Proofs.YtppbplchdfhnkaaDoor.Share
