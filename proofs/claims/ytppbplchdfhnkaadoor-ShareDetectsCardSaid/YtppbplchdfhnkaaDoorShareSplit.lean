/-
  The contract of package share's Split.
-/
import Derived.Test.YtppbplchdfhnkaaDoorSharePoly
import Derived.Test.YtppbplchdfhnkaaDoorShareInterp
set_option linter.unusedVariables false
set_option linter.unusedSimpArgs false
namespace Go.Proofs.YtppbplchdfhnkaaDoor.Share
open Go.RowKit Grp Mem _root_.Go.Proofs.YtppbplchdfhnkaaDoor.Code Sha

/-- The value of a polynomial by its coefficients. -/
def hor : List Int → Int → Int
  | [], _ => 0
  | c :: r, x => gadd (gmul (hor r x) x) c
theorem hor_step (l : List Int) (j : Nat) (h : j < l.length) (x : Int) : hor (l.drop j) x = gadd (gmul (hor (l.drop (j + 1)) x) x) (l.getD j 0) := by
  rw [List.drop_eq_getElem_cons h, hor, List.getD_eq_getElem?_getD, List.getElem?_eq_getElem h]
  rfl
/-- The shares. -/
def splitL (s : Int) (seed : ByteArray) (t n : Nat) : List (Int × Int) := (List.range n).map fun j => (((j + 1 : Nat) : Int), hor (coefL s seed t) ((j + 1 : Nat) : Int))
theorem splitL_length (s : Int) (seed : ByteArray) (t n : Nat) : (splitL s seed t n).length = n := by simp [splitL]
theorem cells2_append : ∀ l m : List (Int × Int), cells2 (l ++ m) = cells2 l ++ cells2 m := by
  intro l m
  induction l with
  | nil => rfl
  | cons s r ih => simp [cells2, ih]
theorem splitL_succ (s : Int) (seed : ByteArray) (t n : Nat) : cells2 (splitL s seed t (n + 1)) = cells2 (splitL s seed t n) ++ [.int .i64 ((n + 1 : Nat) : Int), .int .i64 (hor (coefL s seed t) ((n + 1 : Nat) : Int))] := by
  have h : splitL s seed t (n + 1) = splitL s seed t n ++ [(((n + 1 : Nat) : Int), hor (coefL s seed t) ((n + 1 : Nat) : Int))] := by simp [splitL, List.range_succ]
  rw [h, cells2_append]
  rfl
theorem cellsI_get (l : List Int) (j : Nat) (h : j < l.length) : (cellsI l)[j]? = some (.int .i64 (l.getD j 0)) := by
  simp [cellsI, List.getD_eq_getElem?_getD, List.getElem?_eq_getElem h]

theorem one_step {w0 w w' : World} {g i : Nat} {v : Value} (h : w.cell? ⟨g, i, none⟩ = some v ∧ g < w.heap.size ∧ Q w0 w) (hq : Q w w') : w'.cell? ⟨g, i, none⟩ = some v ∧ g < w'.heap.size ∧ Q w0 w' :=
  ⟨(hq.cell (p := ⟨g, i, none⟩) h.2.1).trans h.1, Nat.lt_of_lt_of_le h.2.1 hq.size, Q.trans h.2.2 hq⟩
theorem Split_no (s t n : Int) (seed : ByteArray) (w : World) (h : (decide (t < 1) || decide (n < t) || decide (64 < n) || decide (s < 0) || decide (2305843009213693951 ≤ s)) = true) :
    Calls Tryd.prog 36 #[.int .i64 s, .int .i64 t, .int .i64 n, .string seed] w fun e w' => e = .returned (.tuple #[.slice none 0 0, .bool false]) ∧ Q w w' := by
  go_enter Tryd.func36, Tryd.ntmps36
  go_wp2
  all_goals
    go_ret2
    exact ⟨rfl, Q.refl _⟩

set_option maxRecDepth 100000 in
set_option maxHeartbeats 4000000 in
theorem Split_yes (s t n : Int) (seed : ByteArray) (w : World) (hT : Tab w) (ht : 1 ≤ t) (htn : t ≤ n) (hn : n ≤ 64) (hs0 : 0 ≤ s) (hs1 : s < 2305843009213693951) (hsd : seed.size ≤ 140737488355000) :
    Calls Tryd.prog 36 #[.int .i64 s, .int .i64 t, .int .i64 n, .string seed] w fun e w' => ∃ A c, e = .returned (.tuple #[.slice A n.toNat c, .bool true]) ∧ Owns w' w.heap.size 61 2 (.slice A n.toNat c) n.toNat (cells2 (splitL s seed t.toNat n.toNat)) ∧ Q w w' := by
  obtain ⟨i0, hi, hz0, hz1, hz2⟩ := info_parts share_info
  have e1 : decide (t < 1) = false := by simp; omega
  have e2 : decide (n < t) = false := by simp; omega
  have e3 : decide (64 < n) = false := by simp; omega
  have e4 : decide (s < 0) = false := by simp; omega
  have e5 : decide (2305843009213693951 ≤ s) = false := by simp; omega
  have hcl := coefL_length s seed t.toNat
  go_enter Tryd.func36, Tryd.ntmps36
  go_wp2_with fail
  refine (polynomial_any s t seed _ hT ht (by omega) hsd).mono ?_
  rintro e w1 ⟨Ac, cc, rfl, hownC, hq1⟩
  have hspl := splitL_succ s seed t.toNat
  have HSPL := Lib.hid hspl
  clear hspl
  obtain ⟨gc, rfl, -, hgc, -, -⟩ := hownC.cellAt 0 _ (cellsI_get _ 0 (by omega))
  have hcell : ∀ j, j < t.toNat → ∀ W, Q w1 W → W.cell? ⟨gc, j, none⟩ = some (.int .i64 ((coefL s seed t.toNat).getD j 0)) := fun j hj W hW => by
    obtain ⟨g', he, -, -, hc, -⟩ := (hownC.q hW).cellAt j _ (cellsI_get _ j (by omega))
    obtain rfl : gc = g' := by injection he with h; injection h
    exact hc
  have HCELL := Lib.hid hcell
  clear hcell hownC
  obtain ⟨tn, htn'⟩ : ∃ tn, t.toNat = tn := ⟨_, rfl⟩
  rw [htn'] at HCELL HSPL hcl ⊢
  generalize coefL s seed tn = cs at *
  go_wp2_with fail
  have hw1 : w.heap.size ≤ w1.heap.size := hq1.size
  go_loopw [11, 12] (fun sl i wr => ∃ (A : Option Addr) (c k : Nat), sl = .slice A k c ∧ i = .int .i64 ((k : Int) + 1) ∧ (k : Int) ≤ n ∧ k ≤ c ∧ c ≤ maxLen ∧ Owns wr w1.heap.size 61 2 (.slice A k c) k (cells2 (splitL s seed tn k)) ∧ Q w1 wr) (fun _ i _ => n.toNat + 1 - (intOf i).toNat)
  case atStart => exact ⟨none, 0, 0, rfl, rfl, by omega, by omega, by simp [maxLen], Owns.nil_ _ _ _ _, Q.refl _⟩
  case round =>
    obtain ⟨A, c, k, rfl, rfl, hk, hc, hcm, hown, hq⟩ := hrel
    by_cases hlt : (k : Int) + 1 ≤ n
    · have hsp := HSPL.out k
      rw [show ((k + 1 : Nat) : Int) = (k : Int) + 1 from rfl] at hsp
      have HSP := Lib.hid hsp
      clear hsp
      have hw2 : w1.heap.size ≤ wr.heap.size := hq.size
      go_wp2_with fail
      go_loopw [13, 14] (fun y i wr2 => ∃ q : Int, i = .int .i64 q ∧ -1 ≤ q ∧ q < t ∧ y = .int .i64 (hor (cs.drop (q + 1).toNat) ((k : Int) + 1)) ∧ Q wr wr2) (fun _ i _ => (intOf i + 1).toNat)
      case atStart =>
        refine ⟨t - 1, rfl, by omega, by omega, ?_, Q.refl _⟩
        rw [show (t - 1 + 1).toNat = cs.length by omega, List.drop_length]
        rfl
      case round =>
        obtain ⟨q, rfl, hq0, hqt, rfl, hqq⟩ := hrel
        by_cases h0 : 0 ≤ q
        · have hcell := HCELL.out q.toNat (by omega) _ (Q.trans hq hqq)
          have hst := hor_step cs q.toNat (by omega) ((k : Int) + 1)
          have e6 : (q + 1).toNat = q.toNat + 1 := by omega
          have e7 : (q - 1 + 1).toNat = q.toNat := by omega
          have hst' : hor (cs.drop (q - 1 + 1).toNat) ((k : Int) + 1) = gadd (gmul (hor (cs.drop (q + 1).toNat) ((k : Int) + 1)) ((k : Int) + 1)) (cs.getD q.toNat 0) := by rw [e6, e7]; exact hst
          have HST := Lib.hid hst'
          have hgc2 := hgc
          have hqn : q < (tn : Int) := by omega
          clear hst hst' e6 e7
          generalize hor (cs.drop (q + 1).toNat) ((k : Int) + 1) = V at *
          generalize cs.getD q.toNat 0 = U at *
          go_wp2_with fail
          go_region_held3 (fun w' => w'.cell? ⟨gc, q.toNat, none⟩ = some (.int .i64 U) ∧ gc < w'.heap.size ∧ Q wr w')
            (first | exact ⟨hcell, Nat.lt_of_lt_of_le hgc (Q.trans hq hqq).size, (Q.refl _).drew⟩ | (with_reducible assumption) | exact one_step (by assumption) hqz)
            (first
              | (go_at_call 48; refine (Mul_any _ _ _).mono ?_; rintro e w' ⟨rfl, hqz⟩)
              | (go_at_call 49; refine (Add_any _ _ _).mono ?_; rintro e w' ⟨rfl, rfl⟩))
          all_goals
            go_wp2
            exact ⟨⟨q - 1, rfl, by omega, by omega, by rw [HST.out], by rename_i hh; exact Q.trans hqq hh.2.2⟩, by simp only [intOf]; omega⟩
        · obtain rfl : q = -1 := by omega
          have hown := hown.q hqq
          have hq := Q.trans hq hqq
          have hd0 : hor (cs.drop (-1 + 1 : Int).toNat) ((k : Int) + 1) = hor cs ((k : Int) + 1) := rfl
          rw [hd0]
          clear hd0
          generalize hV : hor cs ((k : Int) + 1) = V at *
          clear hV
          have hlen2 : ([.int .i64 ((k : Int) + 1), .int .i64 V] : List Value).length = 1 * 2 := rfl
          go_wp2_with (at_builtin; go_loud (refine wpList_append_owns _ rfl (.tmp 57) (.tmp 61) 47 rfl w1.heap.size 61 i0 _ 2 16 Tryd.underlying47 hi hz0 hz1 hz2 rfl (by decide) _ k _ rfl (hown.alloc _) ⟨wr.heap.size, 0, none⟩ 1 1 [.int .i64 ((k : Int) + 1), .int .i64 V] rfl rfl (cell_list_new _ _ _) ?_ (by simp only [maxLen]; omega) (by omega) ?_ ?_))
          · simp [Value.oneCell']
          · have := hq.size
            simp
            omega
          intro v5 w5 hown5 hg5
          have hq5 := q_append hq hown hg5
          rw [← HSP.out] at hown5
          obtain ⟨A2, cap2, rfl, hn2, hm2⟩ := hown5.shape
          go_wp2
          exact ⟨⟨_, _, k + 1, rfl, by go_num, by omega, hn2, hm2, hown5, hq5⟩, by simp only [intOf]; omega⟩
    · have hkn : n.toNat = k := by omega
      have HKN := Lib.hid hkn
      clear hkn
      go_wp2
      go_ret2
      exact ⟨A, c, by rw [HKN.out]; rfl, by rw [HKN.out]; exact hown.low hw1, Q.trans hq1 hq⟩
end Go.Proofs.YtppbplchdfhnkaaDoor.Share
