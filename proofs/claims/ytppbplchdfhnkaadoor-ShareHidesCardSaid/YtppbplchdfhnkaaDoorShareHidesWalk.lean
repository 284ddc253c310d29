/-
  The walk of agoralaw07.ShareHides.
-/
import Derived.Test.YtppbplchdfhnkaaDoorShareSrc
import Derived.Test.YtppbplchdfhnkaaDoorShareLaw2
set_option linter.unusedVariables false
set_option linter.unusedSimpArgs false
namespace Go.Proofs.YtppbplchdfhnkaaDoor.Share
open Go.RowKit Grp Mem _root_.Go.Proofs.YtppbplchdfhnkaaDoor.Code Sha
open Sign (q_new)

/-- The last X is kept. -/
def Lst (w0 w : World) (b i : Nat) (X : Int) : Prop := w.cell? ⟨b, i, none⟩ = some (.int .i64 X) ∧ b < w.heap.size ∧ Q w0 w
/-- The last X is readable and kept. -/
theorem lst_held {w0 w w' : World} {b i : Nat} {X : Int} (h : w.cell? ⟨b, i, none⟩ = some (.int .i64 X) ∧ b < w.heap.size ∧ Q w0 w) (hq : Q w w') : w'.cell? ⟨b, i, none⟩ = some (.int .i64 X) ∧ b < w'.heap.size ∧ Q w0 w' := one_step h hq
theorem Lst.q {w0 w w' : World} {b i : Nat} {X : Int} (h : Lst w0 w b i X) (hq : Q w w') : Lst w0 w' b i X := one_step h hq

theorem oeC (w : World) : Owns (w.alloc (.cells #[] 61)) w.heap.size 61 2 (.slice (some ⟨w.heap.size, 0, none⟩) 0 0) 0 (cells2 []) := owns_empty w
theorem oeA (w : World) (x : Obj) : Owns ((w.alloc (.cells #[] 61)).alloc x) w.heap.size 61 2 (.slice (some ⟨w.heap.size, 0, none⟩) 0 0) 0 (cells2 []) := (owns_empty w).alloc _
theorem oeB (w : World) (x : Obj) : Owns ((w.alloc x).alloc (.cells #[] 61)) w.heap.size 61 2 (.slice (some ⟨w.heap.size + 1, 0, none⟩) 0 0) 0 (cells2 []) := by
  have h := owns_empty (w.alloc x)
  rw [World.size_alloc] at h
  exact h.low (by omega)
/-- A share that was laid before the append stays. -/
theorem keepA {w w' : World} {X y : Int} (hg : ((w.alloc (.cells #[] 61)).alloc (.cells #[.int .i64 X, .int .i64 y] 61)).grownBy w' (some w.heap.size)) : Shares w' (some ⟨w.heap.size + 1, 0, none⟩) [(X, y)] := by
  have hb := Blk.new' (w.alloc (.cells #[] 61)) 61 #[.int .i64 X, .int .i64 y] (g := w.heap.size + 1) (by simp)
  refine Shares.of (m := []) (t := 61) ?_
  exact (hg.block _ hb.lt (by simp)).trans hb
theorem keepB {w w' : World} {X y : Int} (hg : ((w.alloc (.cells #[.int .i64 X, .int .i64 y] 61)).alloc (.cells #[] 61)).grownBy w' (some (w.heap.size + 1))) : Shares w' (some ⟨w.heap.size, 0, none⟩) [(X, y)] := by
  have hb := (Blk.new w 61 #[.int .i64 X, .int .i64 y]).alloc (.cells #[] 61)
  refine Shares.of (m := []) (t := 61) ?_
  exact (hg.block _ hb.lt (by simp)).trans hb

set_option maxRecDepth 100000 in
set_option maxHeartbeats 4000000 in
theorem with_any (b o c m : Nat) (l : List (Int × Int)) (y : Int) (w : World) (hS : Shares w (some ⟨b, o, none⟩) l) (hm : l.length = m + 1) (hn : m ≤ 1000) (hc : l.length ≤ c) (hcm : c ≤ maxLen) :
    Calls Tryd.prog 45 #[.slice (some ⟨b, o, none⟩) l.length c, .int .i64 y] w fun e w' => e = .returned (.tuple #[.int .i64 (joinI (withL l y) l.length).1, .bool (joinI (withL l y) l.length).2]) ∧ Q w w' := by
  obtain ⟨b', o', e', hb, c0, -⟩ := shares_in hS m (by omega)
  cases e'
  have hS' := hS.take m
  have hw : withL l y = l.take m ++ [((pt l m).1, y)] := by unfold withL; rw [hm]; rfl
  have htl : (l.take m).length = m := by rw [List.length_take]; omega
  rw [hw]
  obtain ⟨n, hln⟩ : ∃ n, l.length = n := ⟨_, rfl⟩
  rw [hln] at hm hc ⊢
  clear hln
  generalize (pt l m).1 = X at *
  generalize l.take m = T at *
  have e1 : IntKind.i64.wrap ((n : Int) - 1) = (m : Int) := by rw [IntWalk.i64_in _ ⟨by omega, by omega⟩]; omega
  have b1 : (m : Int) ≤ (c : Int) := by omega
  have b2 : (0 : Int) ≤ (m : Int) := by omega
  have b3 : (m : Int) < (n : Int) := by omega
  have HT := Lib.hid htl
  have hl2 : (T ++ [(X, y)]).length = m + 1 := by rw [List.length_append, htl]; rfl
  have HL := Lib.hid hl2
  have hz : n = (T ++ [(X, y)]).length := by rw [hl2, hm]
  have HZ := Lib.hid hz
  clear hw hm htl hl2 hz
  go_enter Tryd.func45, Tryd.ntmps45
  go_wp2_with fail
  go_region_held3 (fun w' => w'.cell? ⟨b, o + m * 2, none⟩ = some (.int .i64 X) ∧ b < w'.heap.size ∧ Q w w')
    (first
      | exact ⟨c0, hb, (Q.refl _).drew⟩
      | (with_reducible assumption)
      | exact lst_held (by with_reducible assumption) (q_new _ _ _)
      | exact lst_held (by with_reducible assumption) hq7)
    (first
      | (refine step_append_first (by rfl) (.tmp 9) (.tmp 13) (by rfl) w.heap.size _ (by rfl) (oeC w.drew) (some ⟨b, o, none⟩) m c T (by rfl) (hS'.q (Q.trans (Q.refl w).drew (q_new _ _ _))) HT.out (by omega) (by simp; try omega) ?_; intro A6 c6 w6 hc6 hm6 hown6 hg6; have hq6 : Q w w6 := q_append0 (w0 := w) (Q.trans (Q.refl w).drew (q_new _ _ _)) (oeC w.drew) hg6; have hs6 := lst_held ⟨c0, hb, Q.refl w⟩ hq6; have hsh6 := True.intro)
      | (refine step_append_first (by rfl) (.tmp 9) (.tmp 13) (by rfl) w.heap.size _ (by rfl) (oeA w.drew _) (some ⟨b, o, none⟩) m c T (by rfl) (hS'.q (Q.trans (Q.trans (Q.refl w).drew (q_new _ _ _)) (q_new _ _ _))) HT.out (by omega) (by simp; try omega) ?_; intro A6 c6 w6 hc6 hm6 hown6 hg6; have hq6 : Q w w6 := q_append0 (w0 := w) (Q.trans (Q.trans (Q.refl w).drew (q_new _ _ _)) (q_new _ _ _)) (oeA w.drew _) hg6; have hs6 := lst_held ⟨c0, hb, Q.refl w⟩ hq6; have hsh6 := keepA (w := w.drew) hg6)
      | (refine step_append_first (by rfl) (.tmp 9) (.tmp 13) (by rfl) w.heap.size _ (by rfl) (oeB w.drew _) (some ⟨b, o, none⟩) m c T (by rfl) (hS'.q (Q.trans (Q.trans (Q.refl w).drew (q_new _ _ _)) (q_new _ _ _))) HT.out (by omega) (by simp; try omega) ?_; intro A6 c6 w6 hc6 hm6 hown6 hg6; have hq6 : Q w w6 := q_append0 (w0 := w) (Q.trans (Q.trans (Q.refl w).drew (q_new _ _ _)) (q_new _ _ _)) (oeB w.drew _) hg6; have hs6 := lst_held ⟨c0, hb, Q.refl w⟩ hq6; have hsh6 := keepB (w := w.drew) hg6)
      | (refine step_append_shares (by rfl) (.tmp 14) (.tmp 23) (by rfl) w.heap.size _ m T (by rfl) (hown6.alloc _) (some ⟨w6.heap.size, 0, none⟩) 1 1 [(X, y)] (by rfl) (Shares.new w6 61 [(X, y)]) rfl (by omega) (by have := hq6.size; simp; try omega) ?_; intro A7 c7 w7 hc7 hm7 hown7 hg7; have hq7 : Q w w7 := q_append hq6 hown6 hg7; have hs7 := lst_held ⟨c0, hb, Q.refl w⟩ hq7)
      | (refine step_append_shares (by rfl) (.tmp 14) (.tmp 23) (by rfl) w.heap.size _ m T (by rfl) (hown6) _ 1 1 [(X, y)] (by rfl) (hsh6) rfl (by omega) (by have := hq6.size; simp; try omega) ?_; intro A7 c7 w7 hc7 hm7 hown7 hg7; have hq7 : Q w w7 := q_append0 hq6 hown6 hg7; have hs7 := lst_held ⟨c0, hb, Q.refl w⟩ hq7)
      | (go_at_call 39; refine (Join_at _ _ _ (T ++ [(X, y)]) _ _ _ _ HL.out rfl (Shares.owns hown7 HL.out) hc7 hm7 (by omega)).mono ?_; rintro e w8 ⟨rfl, hq8⟩; have hs8 := lst_held hs7 hq8))
  all_goals
    go_wp2
    go_ret2
    exact ⟨rfl, hs8.2.2⟩

theorem with_at (b o n c : Nat) (l : List (Int × Int)) (y v : Int) (r : Bool) (w : World) (hn' : l.length = n) (hj : joinI (withL l y) n = (v, r)) (hS : Shares w (some ⟨b, o, none⟩) l) (h0 : 0 < n) (hn : n ≤ 1000) (hc : n ≤ c) (hcm : c ≤ maxLen) :
    Calls Tryd.prog 45 #[.slice (some ⟨b, o, none⟩) n c, .int .i64 y] w fun e w' => e = .returned (.tuple #[.int .i64 v, .bool r]) ∧ Q w w' := by
  subst hn'
  have := with_any b o c (l.length - 1) l y w hS (by omega) (by omega) hc hcm
  rw [hj] at this
  exact this
theorem join_with (l : List (Int × Int)) (y : Int) (hv : validI l = true) (h0 : 0 < l.length) (y0 : 0 ≤ y) (y1 : y < 2305843009213693951) : joinI (withL l y) (l.length : Int) = (val (interp (withL l y)) 0, true) := by
  have hl := withL_length l y h0
  have ht : (withL l y).take (l.length : Int).toNat = withL l y := by rw [Int.toNat_natCast, ← hl, List.take_length]
  have := join_yes (withL l y) (l.length : Int) (by omega) (by omega) (by rw [ht]; exact with_valid l y hv h0 y0 y1)
  rw [ht] at this
  exact this

set_option maxHeartbeats 1000000 in
theorem hides_big (A : Option Addr) (n c : Nat) (s : Int) (w : World) (hT : Tab w) (h : n < 1 ∨ 12 < n ∨ s < 0 ∨ 2305843009213693951 ≤ s) :
    Calls Tryd.prog 10 #[.slice A n c, .int .i64 s] w fun e w' => e = .returned (.bool true) ∧ Q w w' := by
  have hc : (n : Int) < 1 ∨ (¬ (n : Int) < 1 ∧ 12 < (n : Int)) ∨ (¬ (n : Int) < 1 ∧ ¬ 12 < (n : Int) ∧ s < 0) ∨ (¬ (n : Int) < 1 ∧ ¬ 12 < (n : Int) ∧ ¬ s < 0 ∧ 2305843009213693951 ≤ s) := by omega
  clear h
  rcases hc with g1 | ⟨g1, g2⟩ | ⟨g1, g2, g3⟩ | ⟨g1, g2, g3, g4⟩
  all_goals
    go_enter Tryd.func10, Tryd.ntmps10
    go_wp2_with fail
    refine (small_any _ hT).mono ?_
    rintro e w1 ⟨rfl, hq1⟩
    go_wp2
    go_ret
    exact ⟨rfl, hq1⟩
set_option maxHeartbeats 2000000 in
theorem hides_core (b o n c : Nat) (l : List (Int × Int)) (s : Int) (w : World) (hT : Tab w) (hS : Shares w (some ⟨b, o, none⟩) l) (hln : l.length = n) (hc : n ≤ c) (hcm : c ≤ maxLen) (h1 : 1 ≤ n) (h2 : n ≤ 12) (s0 : 0 ≤ s) (s1 : s < 2305843009213693951) (hv : validI l = true) :
    Calls Tryd.prog 10 #[.slice (some ⟨b, o, none⟩) n c, .int .i64 s] w fun e w' => e = .returned (.bool true) ∧ Q w w' := by
  obtain ⟨Ac, K, hK, hlin⟩ := with_lin l hv (by omega)
  have hj := fun y y0 y1 => join_with l y hv (by omega) y0 y1
  rw [hln] at hj
  obtain ⟨hne, hyes, hno⟩ := hides_law hK (fun y => val (interp (withL l y)) 0) hlin (fun y => val_bd _ _) s s0 s1
  have hj0 := hj 0 (by decide) (by decide)
  have hj1 := hj 1 (by decide) (by decide)
  generalize val (interp (withL l 0)) 0 = J0 at *
  generalize val (interp (withL l 1)) 0 = J1 at *
  have hjy := hj (gmul (gsub s J0) (ginv (gsub J1 J0))) (emod_bd _ (by decide)).1 (emod_bd _ (by decide)).2
  have hjz := hj (gadd (gmul (gsub s J0) (ginv (gsub J1 J0))) 1) (emod_bd _ (by decide)).1 (emod_bd _ (by decide)).2
  rw [hyes] at hjy
  generalize val (interp (withL l (gadd (gmul (gsub s J0) (ginv (gsub J1 J0))) 1))) 0 = JZ at *
  have hnb : (JZ != s) = true := by simpa using hno
  have HJ0 := Lib.hid hj0
  have HJ1 := Lib.hid hj1
  have HJY := Lib.hid hjy
  have HJZ := Lib.hid hjz
  have hc1 : ¬ (n : Int) < 1 := by omega
  have hc2 : ¬ 12 < (n : Int) := by omega
  have hc3 : ¬ s < 0 := by omega
  have hc4 : ¬ 2305843009213693951 ≤ s := by omega
  clear hj hj0 hj1 hjy hjz hyes hno hlin hK
  go_enter Tryd.func10, Tryd.ntmps10
  go_wp2_with fail
  refine (small_any _ hT).mono ?_
  rintro e w1 ⟨rfl, hq1⟩
  go_wp2_with fail
  refine (RValid_at _ _ _ l true _ hln hv (hS.q hq1) (by omega)).mono ?_
  rintro e w2 ⟨rfl, hq2⟩
  have hq := Q.trans hq1 hq2
  clear hq1 hq2
  go_wp2_with fail
  refine (with_at b o n c l _ _ true _ hln HJ0.out (hS.q hq) (by omega) (by omega) hc hcm).mono ?_
  rintro e w3 ⟨rfl, hq3⟩
  have hq := Q.trans hq hq3
  clear hq3
  go_wp2_with fail
  refine (with_at b o n c l _ _ true _ hln HJ1.out (hS.q hq) (by omega) (by omega) hc hcm).mono ?_
  rintro e w3 ⟨rfl, hq3⟩
  have hq := Q.trans hq hq3
  clear hq3
  go_wp2_with fail
  refine (Sub_any _ _ _).mono ?_
  rintro e w4 ⟨rfl, rfl⟩
  go_wp2_with fail
  refine (Inv_yes _ _ hne).mono ?_
  rintro e w4 ⟨rfl, hq4⟩
  have hq := Q.trans hq hq4
  clear hq4
  go_wp2_with fail
  refine (Sub_any _ _ _).mono ?_
  rintro e w5 ⟨rfl, rfl⟩
  go_wp2_with fail
  refine (Mul_any _ _ _).mono ?_
  rintro e w5 ⟨rfl, hq5⟩
  have hq := Q.trans hq hq5
  clear hq5
  go_wp2_with fail
  refine (with_at b o n c l _ _ true _ hln HJY.out (hS.q hq) (by omega) (by omega) hc hcm).mono ?_
  rintro e w6 ⟨rfl, hq6⟩
  have hq := Q.trans hq hq6
  clear hq6
  go_wp2_with fail
  refine (Add_any _ _ _).mono ?_
  rintro e w7 ⟨rfl, rfl⟩
  go_wp2_with fail
  refine (with_at b o n c l _ _ true _ hln HJZ.out (hS.q hq) (by omega) (by omega) hc hcm).mono ?_
  rintro e w6 ⟨rfl, hq6⟩
  have hq := Q.trans hq hq6
  clear hq6
  go_wp2
  go_ret
  exact ⟨by first | rfl | simp, hq⟩
set_option maxHeartbeats 1000000 in
theorem hides_no (A : Option Addr) (n c : Nat) (l : List (Int × Int)) (s : Int) (w : World) (hT : Tab w) (hS : Shares w A l) (hln : l.length = n) (h1 : 1 ≤ n) (h2 : n ≤ 12) (s0 : 0 ≤ s) (s1 : s < 2305843009213693951) (hv : validI l = false) :
    Calls Tryd.prog 10 #[.slice A n c, .int .i64 s] w fun e w' => e = .returned (.bool true) ∧ Q w w' := by
  have hc1 : ¬ (n : Int) < 1 := by omega
  have hc2 : ¬ 12 < (n : Int) := by omega
  have hc3 : ¬ s < 0 := by omega
  have hc4 : ¬ 2305843009213693951 ≤ s := by omega
  have HV := Lib.hid hv
  have HL := Lib.hid hln
  clear hv hln
  go_enter Tryd.func10, Tryd.ntmps10
  go_wp2_with fail
  refine (small_any _ hT).mono ?_
  rintro e w1 ⟨rfl, hq1⟩
  go_wp2_with fail
  refine (RValid_at _ _ _ l false _ HL.out HV.out (hS.q hq1) (by omega)).mono ?_
  rintro e w2 ⟨rfl, hq2⟩
  go_wp2
  go_ret
  exact ⟨rfl, Q.trans hq1 hq2⟩
theorem hides_any (A : Option Addr) (c : Nat) (l : List (Int × Int)) (s : Int) (w : World) (hT : Tab w) (hS : Shares w A l) (hc : l.length ≤ c) (hcm : c ≤ maxLen) :
    Calls Tryd.prog 10 #[.slice A l.length c, .int .i64 s] w fun e w' => e = .returned (.bool true) ∧ Q w w' := by
  by_cases h : l.length < 1 ∨ 12 < l.length ∨ s < 0 ∨ 2305843009213693951 ≤ s
  · exact hides_big A l.length c s w hT h
  · cases hv : validI l with
    | false => exact hides_no A l.length c l s w hT hS rfl (by omega) (by omega) (by omega) (by omega) hv
    | true =>
      obtain ⟨b, o, rfl, -, -⟩ := hS (by omega)
      exact hides_core b o l.length c l s w hT hS rfl hc hcm (by omega) (by omega) (by omega) (by omega) hv
end Go.Proofs.YtppbplchdfhnkaaDoor.Share
