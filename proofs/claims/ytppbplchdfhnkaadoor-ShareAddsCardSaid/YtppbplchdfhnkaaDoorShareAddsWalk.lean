/-
  The walk of agoralaw07.ShareAdds.
-/
import Derived.Test.YtppbplchdfhnkaaDoorShareSrc
import Derived.Test.YtppbplchdfhnkaaDoorShareLaw2
import Derived.Test.YtppbplchdfhnkaaDoorRowAt
set_option linter.unusedVariables false
set_option linter.unusedSimpArgs false
namespace Go.Proofs.YtppbplchdfhnkaaDoor.Share
open Go.RowKit Grp Mem _root_.Go.Proofs.YtppbplchdfhnkaaDoor.Code Sha
open Sign (q_new)

def mTo (l : List (Int × Int)) (ys : List Int) (k : Nat) : List (Int × Int) := (List.range k).map fun i => ((pt l i).1, ys.getD i 0)
def sTo (l : List (Int × Int)) (ys : List Int) (k : Nat) : List (Int × Int) := (List.range k).map fun i => ((pt l i).1, gadd (pt l i).2 (ys.getD i 0))
theorem mTo_length (l : List (Int × Int)) (ys : List Int) (k : Nat) : (mTo l ys k).length = k := by simp [mTo]
theorem sTo_length (l : List (Int × Int)) (ys : List Int) (k : Nat) : (sTo l ys k).length = k := by simp [sTo]
theorem mTo_succ (l : List (Int × Int)) (ys : List Int) (k : Nat) : mTo l ys (k + 1) = mTo l ys k ++ [((pt l k).1, ys.getD k 0)] := by simp [mTo, List.range_succ]
theorem sTo_succ (l : List (Int × Int)) (ys : List Int) (k : Nat) : sTo l ys (k + 1) = sTo l ys k ++ [((pt l k).1, gadd (pt l k).2 (ys.getD k 0))] := by simp [sTo, List.range_succ]

theorem step_append_shares_at {w : World} {ops : Array Oper} {o : Oper} {a : Act} {K : Act → World → Prop} {Q : Exit → Act → World → Prop} {E : Prop} (hgd : o.guard = none) (s x : Operand)
    (ho : o.op = .call { callee := .builtin .append, args := #[s, x], argTypes := #[47, 47] })
    (base : Nat) (v : Value) (n : Nat) (L : List (Int × Int)) (hs : a.eval s = v) (hown : Owns w base 61 2 v n (cells2 L)) (b off c : Nat) (X Y : Int) (hx : a.eval x = .slice (some ⟨b, off, none⟩) 1 c) (hS : Shares w (some ⟨b, off, none⟩) [(X, Y)])
    (hsz : n + 1 ≤ 1000000) (hbase : base ≤ w.heap.size)
    (h : ∀ A' cap w', n + 1 ≤ cap → cap ≤ maxLen → Owns w' base 61 2 (.slice A' (n + 1) cap) (n + 1) (cells2 (L ++ [(X, Y)])) → w.grownBy w' v.ownBlock → ((Value.slice A' (n + 1) cap).ownBlock = v.ownBlock ∨ (Value.slice A' (n + 1) cap).ownBlock = some w.heap.size) → K (a.put o.dst (.slice A' (n + 1) cap)) w') :
    if Region.wanted o (yielded ops a.tmps) = true then Oper.wp Tryd.prog o a w K Q else E := by
  have hw : Region.wanted o (yielded ops a.tmps) = true := by simp [Region.wanted, hgd]
  rw [if_pos hw]
  obtain ⟨i0, hi, hz0, hz1, hz2⟩ := info_parts share_info
  have hcl : (cells2 [(X, Y)]).length = 1 * 2 := rfl
  have hc2 := hS.news (by simp)
  have hone := cells2_one [(X, Y)]
  obtain ⟨v', w', hr, h2, h3⟩ := run_append_owns (P := Tryd.prog) w base 47 o.type 61 i0 _ 2 16 Tryd.underlying47 hi hz0 hz1 hz2 rfl (by decide) v n (cells2 L) hown ⟨b, off, none⟩ 1 c (cells2 [(X, Y)]) hcl hc2 hone (by simp only [maxLen]; omega) (by omega) hbase
  have h5 := run_append_where (P := Tryd.prog) w base 47 o.type 61 i0 _ 2 16 Tryd.underlying47 hi hz0 hz1 hz2 rfl (by decide) v n (cells2 L) hown ⟨b, off, none⟩ 1 c (cells2 [(X, Y)]) hcl hc2 hone (by simp only [maxLen]; omega) (by omega) hbase v' w' hr
  rw [← cells2_append] at h2
  obtain ⟨A', cap, rfl, hc1, hc2⟩ := h2.shape
  unfold Oper.wp execOp
  simp only [ho, resolve, invoke, builtin, Sem.run_bind, Sem.run_pure, Result.andThen_ok, List.map_toArray, List.map_cons, List.map_nil, hs, hx, hr]
  exact h A' cap w' hc1 hc2 h2 h3 h5
/-- A share and a number are readable. -/
def Thr (w0 w : World) (b i b' i' : Nat) (X Y Z : Int) : Prop := w.cell? ⟨b, i, none⟩ = some (.int .i64 X) ∧ w.cell? ⟨b, i + 1, none⟩ = some (.int .i64 Y) ∧ w.cell? ⟨b', i', none⟩ = some (.int .i64 Z) ∧ Q w0 w
theorem thr_alloc {w0 w : World} {b i b' i' : Nat} {X Y Z : Int} (H : Hid (∀ W, Q w0 W → Thr w0 W b i b' i' X Y Z)) (h : w.cell? ⟨b, i, none⟩ = some (.int .i64 X) ∧ w.cell? ⟨b, i + 1, none⟩ = some (.int .i64 Y) ∧ w.cell? ⟨b', i', none⟩ = some (.int .i64 Z) ∧ Q w0 w) (o : Obj) :
    (w.alloc o).cell? ⟨b, i, none⟩ = some (.int .i64 X) ∧ (w.alloc o).cell? ⟨b, i + 1, none⟩ = some (.int .i64 Y) ∧ (w.alloc o).cell? ⟨b', i', none⟩ = some (.int .i64 Z) ∧ Q w0 (w.alloc o) := H.out _ (q_alloc h.2.2.2 o)

set_option maxHeartbeats 1000000 in
theorem adds_big (A B : Option Addr) (n c m d : Nat) (t : Int) (w : World) (hT : Tab w) (h : 16 < n ∨ m ≠ n) :
    Calls Tryd.prog 11 #[.slice A n c, .slice B m d, .int .i64 t] w fun e w' => e = .returned (.bool true) ∧ Q w w' := by
  have hc : 16 < (n : Int) ∨ (¬ 16 < (n : Int) ∧ ((m : Int) != (n : Int)) = true) := by
    rcases h with h | h
    · left; omega
    · by_cases h2 : 16 < (n : Int)
      · exact .inl h2
      · exact .inr ⟨h2, by simp; omega⟩
  clear h
  rcases hc with g1 | ⟨g1, g2⟩
  all_goals
    go_enter Tryd.func11, Tryd.ntmps11
    go_wp2_with fail
    refine (small_any _ hT).mono ?_
    rintro e w1 ⟨rfl, hq1⟩
    go_wp2
    go_ret
    exact ⟨rfl, hq1⟩
set_option maxHeartbeats 1000000 in
theorem adds_no (A B : Option Addr) (n c m d : Nat) (l : List (Int × Int)) (t : Int) (w : World) (hT : Tab w) (hS : Shares w A l) (hln : l.length = n) (h1 : n ≤ 16) (h2 : m = n) (hv : validI l = false) :
    Calls Tryd.prog 11 #[.slice A n c, .slice B m d, .int .i64 t] w fun e w' => e = .returned (.bool true) ∧ Q w w' := by
  have g1 : ¬ 16 < (n : Int) := by omega
  have g2 : ((m : Int) != (n : Int)) = false := by simp [h2]
  have HV := Lib.hid hv
  have HL := Lib.hid hln
  clear hv hln h2
  go_enter Tryd.func11, Tryd.ntmps11
  go_wp2_with fail
  refine (small_any _ hT).mono ?_
  rintro e w1 ⟨rfl, hq1⟩
  go_wp2_with fail
  refine (RValid_at _ _ _ l false _ HL.out HV.out (hS.q hq1) (by omega)).mono ?_
  rintro e w2 ⟨rfl, hq2⟩
  go_wp2
  go_ret
  exact ⟨rfl, Q.trans hq1 hq2⟩

set_option maxRecDepth 100000 in
set_option maxHeartbeats 8000000 in
theorem adds_yes (A B : Option Addr) (n c m d : Nat) (l : List (Int × Int)) (ys : List Int) (t : Int) (w : World) (hT : Tab w) (hS : Shares w A l) (hO : Ints w B ys) (hln : l.length = n) (hym : ys.length = m) (hlc : n ≤ c) (hcm : c ≤ maxLen) (h1 : n ≤ 16) (h2 : m = n) (hv : validI l = true) :
    Calls Tryd.prog 11 #[.slice A n c, .slice B m d, .int .i64 t] w fun e w' => e = .returned (.bool true) ∧ Q w w' := by
  have g1 : ¬ 16 < (n : Int) := by omega
  have g2 : ((m : Int) != (n : Int)) = false := by simp [h2]
  have hmn : n ≤ m := by omega
  have HV := Lib.hid hv
  have HL := Lib.hid hln
  have HY := Lib.hid hym
  clear hv hln h2 hym
  go_enter Tryd.func11, Tryd.ntmps11
  go_wp2_with fail
  refine (small_any _ hT).mono ?_
  rintro e w1 ⟨rfl, hq1⟩
  go_wp2_with fail
  refine (RValid_at _ _ _ l true _ HL.out HV.out (hS.q hq1) (by omega)).mono ?_
  rintro e w2 ⟨rfl, hq2⟩
  have hq := Q.trans hq1 hq2
  clear hq1 hq2
  go_wp2_with fail
  go_loopw [8, 9, 10] (fun x y i wr => ∃ (C : Option Addr) (cc : Nat) (D : Option Addr) (dd k : Nat), x = .slice C k cc ∧ y = .slice D k dd ∧ i = .int .i64 k ∧ k ≤ n ∧ k ≤ cc ∧ cc ≤ maxLen ∧ k ≤ dd ∧ dd ≤ maxLen ∧ Owns wr w.heap.size 61 2 (.slice C k cc) k (cells2 (mTo l ys k)) ∧ Owns wr w.heap.size 61 2 (.slice D k dd) k (cells2 (sTo l ys k)) ∧ Apart (.slice C k cc) (.slice D k dd) ∧ Hid (∀ i, i < k → 0 ≤ ys.getD i 0 ∧ ys.getD i 0 < 2305843009213693951) ∧ Q w wr) (fun _ _ i _ => n - (intOf i).toNat)
  case atStart => exact ⟨none, 0, none, 0, 0, rfl, rfl, rfl, Nat.zero_le _, Nat.zero_le _, Nat.zero_le _, Nat.zero_le _, Nat.zero_le _, Owns.nil_ _ _ _ _, Owns.nil_ _ _ _ _, (fun g h => by cases h), Lib.hid (fun i h => by omega), hq⟩
  case round =>
    obtain ⟨C, cc, D, dd, k, rfl, rfl, rfl, hk, hkc, hccm, hkd, hddm, hownM, hownS, hap, hbds, hq⟩ := hrel
    by_cases hlt : k < n
    · have hlk : k < l.length := by have := HL.out; omega
      have hyk : k < ys.length := by have := HY.out; omega
      obtain ⟨b', o', rfl, hb', cy⟩ := int_cell hO k hyk
      obtain ⟨b, o, rfl, hb, c0, c1⟩ := shares_in hS k hlk
      have hms := mTo_succ l ys k
      have hss := sTo_succ l ys k
      obtain ⟨Z, hZ⟩ : ∃ Z, ys.getD k 0 = Z := ⟨_, rfl⟩
      rw [hZ] at hms hss cy
      generalize (pt l k).1 = X at *
      generalize (pt l k).2 = Y at *
      have HMS := Lib.hid hms
      have HSS := Lib.hid hss
      have HZ := Lib.hid hZ
      have HTH : Hid (∀ W, Q w W → Thr w W b (o + k * 2) b' (o' + k) X Y Z) := Lib.hid fun W hW => ⟨(hW.cell (p := ⟨b, o + k * 2, none⟩) hb).trans c0, (hW.cell (p := ⟨b, o + k * 2 + 1, none⟩) hb).trans c1, (hW.cell (p := ⟨b', o' + k, none⟩) hb').trans cy, hW⟩
      clear hms hss hZ c0 c1 cy hlk hyk
      obtain ⟨c0, c1, cy, -⟩ := HTH.out _ hq
      have k0 : (0 : Int) ≤ (k : Int) := by omega
      have k1 : (k : Int) < (n : Int) := by omega
      have k2 : (k : Int) < (m : Int) := by omega
      by_cases hz : Z < 0 ∨ 2305843009213693951 ≤ Z
      · have hcond : (decide (Z < 0) || decide (2305843009213693951 ≤ Z)) = true := by simp; omega
        go_wp2
        all_goals
          go_ret
          exact ⟨rfl, hq⟩
      · have z0 : ¬ Z < 0 := by omega
        have z1 : ¬ 2305843009213693951 ≤ Z := by omega
        have hws : w.heap.size ≤ wr.heap.size := hq.size
        have hbds2 : ∀ i, i < k + 1 → 0 ≤ ys.getD i 0 ∧ ys.getD i 0 < 2305843009213693951 := by
          intro i hi
          by_cases e : i = k
          · subst e; rw [HZ.out]; omega
          · exact hbds.out i (by omega)
        have HB := Lib.hid hbds2
        clear hbds hbds2 hz
        go_wp2_with fail
        go_region_held3 (fun w' => w'.cell? ⟨b, o + k * 2, none⟩ = some (.int .i64 X) ∧ w'.cell? ⟨b, o + k * 2 + 1, none⟩ = some (.int .i64 Y) ∧ w'.cell? ⟨b', o' + k, none⟩ = some (.int .i64 Z) ∧ Q w w')
          (first
            | exact HTH.out _ hq.drew
            | (with_reducible assumption)
            | exact thr_alloc HTH (by with_reducible assumption) _
            | exact HTH.out _ hq1)
          ((refine step_append_shares_at (by rfl) _ _ (by rfl) w.heap.size _ k _ (by rfl) (hownM.drew.alloc _) wr.heap.size 0 1 X Z (by rfl) (Shares.new wr.drew 61 [(X, Z)]) (by omega) (by simp; omega) ?_; intro C1 cc1 w1 hn1 hm1 hown1 hg1 hat1; have hq1 : Q w w1 := q_append hq.drew hownM.drew hg1; have hS1 := (hownS.drew.alloc _).grown hg1 hap.ne; have hap1 := hap.left hat1 (fun g hg => by have := (hownS.lt g hg).2; simp; omega)))
        rw [← HMS.out] at hown1
        have hws1 : w.heap.size ≤ w1.heap.size := hq1.size
        have htt := HTH.out _ hq1
        clear c0 c1 cy
        obtain ⟨c0, c1, cy, -⟩ := htt
        go_wp2_with fail
        go_region_held3 (fun w' => w'.cell? ⟨b, o + k * 2, none⟩ = some (.int .i64 X) ∧ w'.cell? ⟨b, o + k * 2 + 1, none⟩ = some (.int .i64 Y) ∧ w'.cell? ⟨b', o' + k, none⟩ = some (.int .i64 Z) ∧ Q w w')
          (first
            | exact HTH.out _ hq1.drew
            | (with_reducible assumption)
            | exact thr_alloc HTH (by with_reducible assumption) _
            | exact HTH.out _ hq2)
          (first
            | (go_at_call 49; refine (Add_any _ _ _).mono ?_; rintro e w' ⟨rfl, rfl⟩)
            | (refine step_append_shares_at (by rfl) (.tmp 66) (.tmp 83) (by rfl) w.heap.size _ k _ (by rfl) (hS1.drew.alloc _) w1.heap.size 0 1 X (gadd Y Z) (by rfl) (Shares.new w1.drew 61 [(X, gadd Y Z)]) (by omega) (by simp; omega) ?_; intro D2 dd2 w2 hn2 hm2 hown2 hg2 hat2; have hq2 : Q w w2 := q_append hq1.drew hS1.drew hg2; have hM2 := (hown1.drew.alloc _).grown hg2 hap1.ne'; have hap2 := hap1.right hat2 (fun g hg => by have := (hown1.lt g hg).2; simp; omega)))
        rw [← HSS.out] at hown2
        go_wp2
        exact ⟨⟨C1, cc1, D2, dd2, k + 1, rfl, rfl, by go_num, by omega, hn1, hm1, hn2, hm2, hM2, hown2, hap2, HB, hq2⟩, by simp only [intOf]; omega⟩
    · obtain rfl : k = n := by omega
      have hys : ysOk l ys := fun i hi => hbds.out i (by have := HL.out; omega)
      have hv := HV.out
      have hjs := adds_join l ys t hv hys
      have hfs := adds_fits l ys t hv hys
      have em : mTo l ys k = withYs l ys := by unfold mTo withYs; rw [HL.out]
      have es : sTo l ys k = sumYs l ys := by unfold sTo sumYs; rw [HL.out]
      rw [em] at hownM
      rw [es] at hownS
      have lm : (withYs l ys).length = k := by rw [withYs_length, HL.out]
      have ls : (sumYs l ys).length = k := by rw [sumYs_length, HL.out]
      have hSM := Shares.owns hownM lm
      have hSS := Shares.owns hownS ls
      have HLM := Lib.hid lm
      have HLS := Lib.hid ls
      clear em es lm ls hownM hownS hap hbds hys hv
      generalize withYs l ys = M at *
      generalize sumYs l ys = U at *
      have HFS := Lib.hid hfs
      clear hfs
      rcases hjs with ⟨j1, j2, j3⟩ | ⟨a, b, j1, j2, j3⟩
      all_goals
        have HJ1 := Lib.hid j1
        have HJ2 := Lib.hid j2
        have HJ3 := Lib.hid j3
        clear j1 j2 j3
        go_wp2_with fail
        refine (Join_at _ _ _ l _ _ _ _ HL.out HJ1.out (hS.q hq) hlc hcm (by omega)).mono ?_
        rintro e w3 ⟨rfl, hq3⟩
        go_wp2_with fail
        refine (Join_at _ _ _ M _ _ _ _ HLM.out HJ2.out (hSM.q hq3) hkc hccm (by omega)).mono ?_
        rintro e w4 ⟨rfl, hq4⟩
        have hq34 := Q.trans hq3 hq4
        go_wp2_with fail
        refine (Join_at _ _ _ U _ _ _ _ HLS.out HJ3.out (hSS.q hq34) hkd hddm (by omega)).mono ?_
        rintro e w5 ⟨rfl, hq5⟩
        have hq35 := Q.trans hq34 hq5
        have hSM := hSM.q hq35
        have hSS := hSS.q hq35
        have hq := Q.trans hq hq35
        clear hq3 hq4 hq34 hq5 hq35
        go_wp2_with ((go_at_call 49; refine (Add_any _ _ _).mono ?_; rintro e w' ⟨rfl, rfl⟩))
        cases hf : fitsI l t with
        | false =>
          have HF := Lib.hid hf
          clear hf
          refine (Fits_at _ _ _ l _ false _ HL.out HF.out (hS.q hq) hlc hcm (by omega)).mono ?_
          rintro e w6 ⟨rfl, hq6⟩
          go_wp2
          go_ret
          exact ⟨rfl, Q.trans hq hq6⟩
        | true =>
          have hfs := HFS.out hf
          have HF := Lib.hid hf
          have HF2 := Lib.hid hfs
          clear hf hfs
          refine (Fits_at _ _ _ l _ true _ HL.out HF.out (hS.q hq) hlc hcm (by omega)).mono ?_
          rintro e w6 ⟨rfl, hq6⟩
          go_wp2_with fail
          refine (Fits_at _ _ _ M _ _ _ HLM.out HF2.out (hSM.q hq6) hkc hccm (by omega)).mono ?_
          rintro e w7 ⟨rfl, hq7⟩
          have hq67 := Q.trans hq6 hq7
          go_wp2_with fail
          refine (Fits_at _ _ _ U _ _ _ HLS.out rfl (hSS.q hq67) hkd hddm (by omega)).mono ?_
          rintro e w8 ⟨rfl, hq8⟩
          go_wp2
          go_ret
          exact ⟨by first | rfl | simp, Q.trans hq (Q.trans hq67 hq8)⟩
theorem adds_any (A B : Option Addr) (c d : Nat) (l : List (Int × Int)) (ys : List Int) (t : Int) (w : World) (hT : Tab w) (hS : Shares w A l) (hO : Ints w B ys) (hlc : l.length ≤ c) (hcm : c ≤ maxLen) :
    Calls Tryd.prog 11 #[.slice A l.length c, .slice B ys.length d, .int .i64 t] w fun e w' => e = .returned (.bool true) ∧ Q w w' := by
  by_cases h : 16 < l.length ∨ ys.length ≠ l.length
  · exact adds_big A B l.length c ys.length d t w hT h
  · cases hv : validI l with
    | false => exact adds_no A B l.length c ys.length d l t w hT hS rfl (by omega) (by omega) hv
    | true => exact adds_yes A B l.length c ys.length d l ys t w hT hS hO rfl rfl hlc hcm (by omega) (by omega) hv
end Go.Proofs.YtppbplchdfhnkaaDoor.Share
