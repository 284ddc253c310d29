/-
  The contracts of package agoraref07's Valid, Coefficient and Split.
-/
import Derived.Test.YtppbplchdfhnkaaDoorShareSmall
import Derived.Test.YtppbplchdfhnkaaDoorRefSha
import Derived.Test.YtppbplchdfhnkaaDoorRefNum
import Derived.Test.YtppbplchdfhnkaaDoorRefCode
import Derived.Test.YtppbplchdfhnkaaDoorGrpRef
set_option linter.unusedVariables false
set_option linter.unusedSimpArgs false
namespace Go.Proofs.YtppbplchdfhnkaaDoor.Share
open Go.RowKit Grp Mem _root_.Go.Proofs.YtppbplchdfhnkaaDoor.Code Sha
open Sign (hashI hashI_bd textB_size)

def seenAt (l : List (Int × Int)) (k : Nat) : List Int := ((l.take k).map Prod.fst).reverse
theorem seenAt_succ (l : List (Int × Int)) (k : Nat) (h : k < l.length) : seenAt l (k + 1) = l[k].1 :: seenAt l k := by
  unfold seenAt
  rw [List.take_succ_eq_append_getElem h, List.map_append, List.reverse_append]
  rfl
theorem seenAt_mem (l : List (Int × Int)) (k : Nat) (x : Int) (hk : k ≤ l.length) : x ∈ seenAt l k ↔ ∃ j, ∃ h : j < l.length, j < k ∧ l[j].1 = x := by
  unfold seenAt
  rw [List.mem_reverse, List.mem_map]
  constructor
  · rintro ⟨s, hs, rfl⟩
    rw [List.mem_take_iff_getElem] at hs
    obtain ⟨j, hj, rfl⟩ := hs
    exact ⟨j, by omega, by omega, rfl⟩
  · rintro ⟨j, h, hj, rfl⟩
    exact ⟨l[j], List.mem_take_iff_getElem.2 ⟨j, by omega, rfl⟩, rfl⟩

set_option maxRecDepth 100000 in
set_option maxHeartbeats 4000000 in
theorem RValid_any (A : Option Addr) (c : Nat) (l : List (Int × Int)) (w : World) (hS : Shares w A l) (hn : l.length ≤ 140737488355328) :
    Calls Tryd.prog 44 #[.slice A l.length c] w fun e w' => e = .returned (.bool (validI l)) ∧ Q w w' := by
  go_enter Tryd.func44, Tryd.ntmps44
  go_wp2_with fail
  go_loopw [3] (fun i wr => ∃ k q : Nat, i = .int .i64 k ∧ k ≤ l.length ∧ validI l = validFrom (seenAt l k) (l.drop k) ∧ wr = w.drewN q) (fun i _ => l.length - (intOf i).toNat)
  case atStart => exact ⟨0, 0, rfl, Nat.zero_le _, rfl, rfl⟩
  case round =>
    obtain ⟨k, q, rfl, hk, hv, rfl⟩ := hrel
    by_cases hlt : k < l.length
    · obtain ⟨b, o, rfl, c0, c1⟩ := shares_at (hS.q (below_drewN (Q.refl w) q)) k hlt
      have hk0 : (0 : Int) ≤ (k : Int) := by omega
      have hmem := seenAt_mem l k l[k].1 hk
      have hsucc := seenAt_succ l k hlt
      rw [List.drop_eq_getElem_cons hlt, validFrom] at hv
      generalize hX : l[k].1 = X at *
      generalize l[k].2 = Y at *
      have HV := Lib.hid hv
      have HM := Lib.hid hmem
      have HS := Lib.hid hsucc
      clear hv hmem hsucc hX
      by_cases h1 : X < 1 ∨ 2305843009213693951 ≤ X ∨ Y < 0 ∨ 2305843009213693951 ≤ Y
      · have hf : validI l = false := by rw [HV.out, if_pos (by omega)]
        have HF := Lib.hid hf
        clear HV hf
        have hcond : (decide (X < 1) || decide (2305843009213693951 ≤ X) || decide (Y < 0) || decide (2305843009213693951 ≤ Y)) = true := by simp; omega
        go_wp2
        all_goals
          go_ret
          exact ⟨by rw [HF.out]; rfl, below_drewN (Q.refl w) _⟩
      · have g1 : ¬ X < 1 := by omega
        have g2 : ¬ 2305843009213693951 ≤ X := by omega
        have g3 : ¬ Y < 0 := by omega
        have g4 : ¬ 2305843009213693951 ≤ Y := by omega
        go_wp2_with fail
        go_loopw [4] (fun i wr => ∃ j q2 : Nat, i = .int .i64 j ∧ j ≤ k ∧ Hid (∀ j', ∀ h : j' < l.length, j' < j → l[j'].1 ≠ X) ∧ wr = w.drewN q2) (fun i _ => k - (intOf i).toNat)
        case atStart => exact ⟨0, q, rfl, Nat.zero_le _, Lib.hid (fun j' _ h => by omega), rfl⟩
        case round =>
          obtain ⟨j, q2, rfl, hj, hno, rfl⟩ := hrel
          by_cases hlt2 : j < k
          · obtain ⟨b', o', he, d0, d1⟩ := shares_at (hS.q (below_drewN (Q.refl w) q2)) j (by omega)
            obtain ⟨b2, o2, he2, e0, e1⟩ := shares_at (hS.q (below_drewN (Q.refl w) q2)) k hlt
            cases he
            cases he2
            have hj0 : (0 : Int) ≤ (j : Int) := by omega
            have hjl : (j : Int) < (l.length : Int) := by omega
            have hkl : (k : Int) < (l.length : Int) := by omega
            have e0 : (w.drewN q2).cell? ⟨b, o + k * 2, none⟩ = some (.int .i64 X) := c0
            clear e1 d1
            by_cases hu : l[j].1 = X
            · have hf : validI l = false := by rw [HV.out, if_pos (by simp only [HM.out]; exact .inr (.inr (.inr (.inr ⟨j, by omega, hlt2, hu⟩))))]
              have HF := Lib.hid hf
              clear HV hf
              rw [hu] at d0
              go_wp2_with fail
              go_region_held3 (fun w' => w'.cell? ⟨b, o + j * 2, none⟩ = some (.int .i64 X) ∧ w'.cell? ⟨b, o + k * 2, none⟩ = some (.int .i64 X)) (first | exact ⟨d0, e0⟩ | (with_reducible assumption)) (fail)
              go_wp2
              go_ret
              exact ⟨by rw [HF.out]; rfl, (below_drewN (Q.refl w) _).drew⟩
            · have hno2 : ∀ j', ∀ h : j' < l.length, j' < j + 1 → l[j'].1 ≠ X := by
                intro j' h hj'
                by_cases e : j' = j
                · subst e; exact hu
                · exact hno.out j' h (by omega)
              have HNO := Lib.hid hno2
              have hb : (l[j].1 == X) = false := by simp [hu]
              clear hno hno2 hu
              generalize l[j].1 = U at *
              go_wp2_with fail
              go_region_held3 (fun w' => w'.cell? ⟨b, o + j * 2, none⟩ = some (.int .i64 U) ∧ w'.cell? ⟨b, o + k * 2, none⟩ = some (.int .i64 X)) (first | exact ⟨d0, e0⟩ | (with_reducible assumption)) (fail)
              go_wp2
              exact ⟨⟨j + 1, q2 + 1, by go_num, by omega, HNO, rfl⟩, by simp only [intOf]; omega⟩
          · have hf : validI l = validFrom (X :: seenAt l k) (l.drop (k + 1)) := by
              rw [HV.out, if_neg]
              rw [HM.out]
              rintro (h | h | h | h | ⟨j', h, hj', he⟩)
              · omega
              · omega
              · omega
              · omega
              · exact hno.out j' h (by omega) he
            rw [← HS.out] at hf
            have HF := Lib.hid hf
            clear HV hf
            go_wp2
            exact ⟨⟨k + 1, q2, by go_num, by omega, HF.out, rfl⟩, by simp only [intOf]; omega⟩
    · have hkl : k = l.length := by omega
      have hf : validI l = true := by rw [hv, hkl, List.drop_length]; rfl
      have HF := Lib.hid hf
      clear hv hf
      go_wp2
      go_ret
      exact ⟨by rw [HF.out]; rfl, below_drewN (Q.refl w) _⟩
theorem RValid_at (A : Option Addr) (n c : Nat) (l : List (Int × Int)) (r : Bool) (w : World) (hn' : l.length = n) (hr : validI l = r) (hS : Shares w A l) (hn : n ≤ 140737488355328) :
    Calls Tryd.prog 44 #[.slice A n c] w fun e w' => e = .returned (.bool r) ∧ Q w w' := by
  subst hn' hr
  exact RValid_any A c l w hS hn

theorem RCoefficient_any (seed : ByteArray) (i : Int) (w : World) (hi : i ≤ 9223372036854775807) (hs : seed.size ≤ 140737488355000) :
    Calls Tryd.prog 86 #[.string seed, .int .i64 i] w fun e w' => e = .returned (.int .i64 (gadd (hashI (textB seed ++ numB i)) 0)) ∧ Q w w' := by
  have h2 := textB_size seed
  have h3 := numB_size i
  have s1 : (textB seed).size + (numB i).size ≤ 9223372036854775807 := by omega
  have hz : (textB seed ++ numB i).size ≤ 140737488355200 := by rw [ByteArray.size_append]; omega
  have HZ := Lib.hid hz
  have hhb := hashI_bd (textB seed ++ numB i)
  have hsz := sha_size (textB seed ++ numB i)
  have hg : gadd (hashI (textB seed ++ numB i)) 0 = hashI (textB seed ++ numB i) % 2305843009213693951 := by unfold gadd; rw [Int.add_zero]
  have HG := Lib.hid hg
  clear hg h2 h3 hz
  go_enter Tryd.func86, Tryd.ntmps86
  go_wp2_with fail
  refine (RText_any _ _ (by omega)).mono ?_
  rintro e w1 ⟨rfl, hq1⟩
  go_wp2_with fail
  refine (RNum_any _ _ (by omega)).mono ?_
  rintro e w2 ⟨rfl, hq2⟩
  go_wp2_with fail
  refine (RSha_any _ _ HZ.out).mono ?_
  rintro e w3 ⟨rfl, hq3⟩
  go_wp2_with fail
  refine (RsumNum_any _ _ (by omega)).mono ?_
  rintro e w4 ⟨rfl, rfl⟩
  go_wp2_with fail
  refine (mod_any _ _ _ (by decide) (by decide)).mono ?_
  rintro e w4 ⟨rfl, rfl⟩
  go_wp2
  go_ret
  exact ⟨by rw [HG.out]; rfl, Q.trans hq1 (Q.trans hq2 hq3)⟩

theorem RSplit_no (s t n : Int) (seed : ByteArray) (w : World) (h : (decide (t < 1) || decide (n < t) || decide (64 < n) || decide (s < 0) || decide (2305843009213693951 ≤ s)) = true) :
    Calls Tryd.prog 37 #[.int .i64 s, .int .i64 t, .int .i64 n, .string seed] w fun e w' => e = .returned (.tuple #[.slice none 0 0, .bool false]) ∧ Q w w' := by
  go_enter Tryd.func37, Tryd.ntmps37
  go_wp2
  all_goals
    go_ret2
    exact ⟨rfl, Q.refl _⟩

set_option maxRecDepth 100000 in
set_option maxHeartbeats 4000000 in
theorem RSplit_yes (s t n : Int) (seed : ByteArray) (w : World) (ht : 1 ≤ t) (htn : t ≤ n) (hn : n ≤ 64) (hs0 : 0 ≤ s) (hs1 : s < 2305843009213693951) (hsd : seed.size ≤ 140737488355000) :
    Calls Tryd.prog 37 #[.int .i64 s, .int .i64 t, .int .i64 n, .string seed] w fun e w' => ∃ A c, e = .returned (.tuple #[.slice A n.toNat c, .bool true]) ∧ Owns w' w.heap.size 61 2 (.slice A n.toNat c) n.toNat (cells2 (splitL s seed t.toNat n.toNat)) ∧ Q w w' := by
  obtain ⟨i0, hi, hz0, hz1, hz2⟩ := info_parts share_info
  obtain ⟨j0, hj, hy0, hy1, hy2⟩ := info_parts int_info
  have e1 : decide (t < 1) = false := by simp; omega
  have e2 : decide (n < t) = false := by simp; omega
  have e3 : decide (64 < n) = false := by simp; omega
  have e4 : decide (s < 0) = false := by simp; omega
  have e5 : decide (2305843009213693951 ≤ s) = false := by simp; omega
  have hcl := coefL_length s seed t.toNat
  have hown0 : Owns (w.alloc (.cells #[.int .i64 s] 3)) w.heap.size 3 1 (.slice (some ⟨w.heap.size, 0, none⟩) 1 1) 1 (cellsI (coefL s seed 1)) := by
    refine ⟨rfl, .inr ⟨w.heap.size, 1, #[.int .i64 s], (0, 0), rfl, Nat.le_refl _, heap_alloc_new w _, .inl rfl, Nat.le_refl _, by simp [maxLen], rfl, ?_⟩⟩
    simp [cellsI, coefL, coefAt]
  have hq0 : Q w (w.alloc (.cells #[.int .i64 s] 3)) := Below.alloc (Q.refl w) (Nat.le_refl _) _
  go_enter Tryd.func37, Tryd.ntmps37
  go_wp2_with fail
  go_loopw [10, 11] (fun x i wr => ∃ (A : Option Addr) (c k : Nat), x = .slice A k c ∧ i = .int .i64 k ∧ 1 ≤ k ∧ (k : Int) ≤ t ∧ k ≤ c ∧ c ≤ maxLen ∧ Owns wr w.heap.size 3 1 (.slice A k c) k (cellsI (coefL s seed k)) ∧ Q w wr) (fun _ i _ => t.toNat - (intOf i).toNat)
  case atStart => exact ⟨_, 1, 1, rfl, rfl, by omega, by omega, by omega, by simp [maxLen], hown0, hq0⟩
  case round =>
    obtain ⟨A, c, k, rfl, rfl, hk1, hk, hc, hcm, hown, hq⟩ := hrel
    by_cases hlt : (k : Int) < t
    · have hco : coefAt s seed k = gadd (hashI (textB seed ++ numB (k : Int))) 0 := by unfold coefAt; rw [if_neg (by omega)]
      have hsu := coefL_succ s seed k
      rw [hco] at hsu
      have HSU := Lib.hid hsu
      clear hco hsu
      go_wp2_with fail
      refine (RCoefficient_any _ _ _ (by omega) hsd).mono ?_
      rintro e w3 ⟨rfl, hqa⟩
      have hown := hown.q hqa
      have hq := Q.trans hq hqa
      clear hqa
      go_wp2_with (at_builtin; go_loud (refine wpList_append_owns _ rfl (.tmp 42) (.tmp 46) 55 rfl w.heap.size 3 j0 _ 1 8 Tryd.underlying55 hj hy0 hy1 hy2 rfl (by decide) _ k _ rfl (hown.alloc _) ⟨w3.heap.size, 0, none⟩ 1 1 [.int .i64 (gadd (hashI (textB seed ++ numB (k : Int))) 0)] rfl rfl (cell_one_new _ _ _) (by simp [Value.oneCell']) (by simp only [maxLen]; omega) (by omega) ?_ ?_))
      · have := hq.size
        simp
        omega
      intro v5 w5 hown5 hg5
      have hq5 := q_append hq hown hg5
      rw [← HSU.out] at hown5
      obtain ⟨A2, cap2, rfl, hn2, hm2⟩ := hown5.shape
      go_wp2
      exact ⟨⟨_, _, k + 1, rfl, by go_num, by omega, by omega, hn2, hm2, hown5, hq5⟩, by simp only [intOf]; omega⟩
    · have hkt : t.toNat = k := by omega
      rw [← hkt] at hown
      clear hkt
      have hspl := splitL_succ s seed t.toNat
      have HSPL := Lib.hid hspl
      clear hspl
      have hw1 : w.heap.size ≤ wr.heap.size := hq.size
      have hkn : t.toNat = k := by omega
      rw [hkn] at hown HSPL hcl ⊢
      obtain ⟨gc, rfl, -, hgc, -, -⟩ := hown.cellAt 0 _ (cellsI_get _ 0 (by omega))
      have hcell : ∀ j, j < k → ∀ W, Q wr W → W.cell? ⟨gc, j, none⟩ = some (.int .i64 ((coefL s seed k).getD j 0)) := fun j hj W hW => by
        obtain ⟨g', he, -, -, hc, -⟩ := (hown.q hW).cellAt j _ (cellsI_get _ j (by omega))
        obtain rfl : gc = g' := by injection he with h; injection h
        exact hc
      have HCELL := Lib.hid hcell
      clear hcell hown
      have hkt2 : t = (k : Int) := by omega
      clear hkn
      generalize coefL s seed k = cs at *
      have HKT := Lib.hid hkt2
      clear hkt2
      go_wp2_with fail
      go_loopw [12, 13] (fun sl i wr1 => ∃ (A : Option Addr) (c m : Nat), sl = .slice A m c ∧ i = .int .i64 ((m : Int) + 1) ∧ (m : Int) ≤ n ∧ m ≤ c ∧ c ≤ maxLen ∧ Owns wr1 wr.heap.size 61 2 (.slice A m c) m (cells2 (splitL s seed k m)) ∧ Q wr wr1) (fun _ i _ => n.toNat + 1 - (intOf i).toNat)
      case atStart => exact ⟨none, 0, 0, rfl, rfl, by omega, by omega, by simp [maxLen], Owns.nil_ _ _ _ _, Q.refl _⟩
      case round =>
        obtain ⟨A, c', m, rfl, rfl, hm, hc', hcm', hown, hq1⟩ := hrel
        by_cases hlt2 : (m : Int) + 1 ≤ n
        · have hsp := HSPL.out m
          rw [show ((m + 1 : Nat) : Int) = (m : Int) + 1 from rfl] at hsp
          have HSP := Lib.hid hsp
          clear hsp
          rename World => wr1
          have hw2 : wr.heap.size ≤ wr1.heap.size := hq1.size
          go_wp2_with fail
          go_loopw [14, 15] (fun y i wr2 => ∃ q : Int, i = .int .i64 q ∧ -1 ≤ q ∧ q < t ∧ y = .int .i64 (hor (cs.drop (q + 1).toNat) ((m : Int) + 1)) ∧ Q wr1 wr2) (fun _ i _ => (intOf i + 1).toNat)
          case atStart =>
            have hkt := HKT.out
            refine ⟨t - 1, rfl, by omega, by omega, ?_, Q.refl _⟩
            rw [show (t - 1 + 1).toNat = cs.length by omega, List.drop_length]
            rfl
          case round =>
            obtain ⟨q, rfl, hq0', hqt, rfl, hqq⟩ := hrel
            have hkt := HKT.out
            by_cases h0 : 0 ≤ q
            · have hcell := HCELL.out q.toNat (by omega) _ (Q.trans hq1 hqq)
              have hst := hor_step cs q.toNat (by omega) ((m : Int) + 1)
              have e6 : (q + 1).toNat = q.toNat + 1 := by omega
              have e7 : (q - 1 + 1).toNat = q.toNat := by omega
              have hst' : hor (cs.drop (q - 1 + 1).toNat) ((m : Int) + 1) = gadd (gmul (hor (cs.drop (q + 1).toNat) ((m : Int) + 1)) ((m : Int) + 1)) (cs.getD q.toNat 0) := by rw [e6, e7]; exact hst
              have HST := Lib.hid hst'
              have hqn : q < (k : Int) := by omega
              have hgz := Nat.lt_of_lt_of_le hgc (Q.trans hq1 hqq).size
              clear hst hst' e6 e7 hkt
              generalize hor (cs.drop (q + 1).toNat) ((m : Int) + 1) = V at *
              generalize cs.getD q.toNat 0 = U at *
              go_wp2_with fail
              go_region_held3 (fun w' => w'.cell? ⟨gc, q.toNat, none⟩ = some (.int .i64 U) ∧ gc < w'.heap.size ∧ Q wr1 w')
                (first | exact ⟨hcell, hgz, hqq.drew⟩ | (with_reducible assumption) | exact one_step (by assumption) hqz)
                (first
                  | (go_at_call 88; refine (RMul_any _ _ _).mono ?_; rintro e w' ⟨rfl, hqz⟩)
                  | (go_at_call 87; refine (RAdd_any _ _ _).mono ?_; rintro e w' ⟨rfl, rfl⟩))
              all_goals
                go_wp2
                exact ⟨⟨q - 1, rfl, by omega, by omega, by rw [HST.out], by rename_i hh; exact hh.2.2⟩, by simp only [intOf]; omega⟩
            · obtain rfl : q = -1 := by omega
              clear hkt
              have hown := hown.q hqq
              have hq1 := Q.trans hq1 hqq
              have hd0 : hor (cs.drop (-1 + 1 : Int).toNat) ((m : Int) + 1) = hor cs ((m : Int) + 1) := rfl
              rw [hd0]
              clear hd0
              generalize hV : hor cs ((m : Int) + 1) = V at *
              clear hV
              rename World => wr2
              go_wp2_with (at_builtin; go_loud (refine wpList_append_owns _ rfl (.tmp 67) (.tmp 71) 47 rfl wr.heap.size 61 i0 _ 2 16 Tryd.underlying47 hi hz0 hz1 hz2 rfl (by decide) _ m _ rfl (hown.alloc _) ⟨wr2.heap.size, 0, none⟩ 1 1 [.int .i64 ((m : Int) + 1), .int .i64 V] rfl rfl (cell_list_new _ _ _) ?_ (by simp only [maxLen]; omega) (by omega) ?_ ?_))
              · simp [Value.oneCell']
              · have := hq1.size
                simp
                omega
              intro v5 w5 hown5 hg5
              have hq5 := q_append hq1 hown hg5
              rw [← HSP.out] at hown5
              obtain ⟨A2, cap2, rfl, hn2, hm2⟩ := hown5.shape
              go_wp2
              exact ⟨⟨_, _, m + 1, rfl, by go_num, by omega, hn2, hm2, hown5, hq5⟩, by simp only [intOf]; omega⟩
        · have hkn : n.toNat = m := by omega
          have HKN := Lib.hid hkn
          clear hkn
          go_wp2
          go_ret2
          have ht2 : t.toNat = k := by have := HKT.out; omega
          exact ⟨A, c', by rw [HKN.out]; rfl, by rw [HKN.out, ht2]; exact hown.low hw1, Q.trans hq hq1⟩
end Go.Proofs.YtppbplchdfhnkaaDoor.Share
