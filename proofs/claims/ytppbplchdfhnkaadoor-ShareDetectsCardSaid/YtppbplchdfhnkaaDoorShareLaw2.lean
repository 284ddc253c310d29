/-
  Plain laws of the shares: one last Y for each secret; sums of shares; a changed share is found. No program in this text.
-/
import Derived.Test.YtppbplchdfhnkaaDoorShareLaw
set_option linter.unusedVariables false
set_option linter.unusedSimpArgs false
namespace Go.Proofs.YtppbplchdfhnkaaDoor.Share
open Grp

/-! ### The last Y -/
def withL (l : List (Int × Int)) (y : Int) : List (Int × Int) := l.take (l.length - 1) ++ [((pt l (l.length - 1)).1, y)]
theorem withL_length (l : List (Int × Int)) (y : Int) (h : 0 < l.length) : (withL l y).length = l.length := by
  unfold withL
  rw [List.length_append, List.length_take, List.length_singleton]
  omega
theorem eqv_mul_ne {a b : Int} (ha : ¬ Eqv a 0) (hb : ¬ Eqv b 0) : ¬ Eqv (a * b) 0 := fun h => hb (eqv_mul_zero h ha)
theorem with_valid (l : List (Int × Int)) (y : Int) (hv : validI l = true) (h : 0 < l.length) (y0 : 0 ≤ y) (y1 : y < 2305843009213693951) : validI (withL l y) = true := by
  obtain ⟨h1, h2⟩ := (valid_iff l).1 hv
  have hlast : l.length - 1 < l.length := by omega
  refine (valid_iff _).2 ⟨fun s hs => ?_, ?_⟩
  · unfold withL at hs
    rcases List.mem_append.1 hs with hs | hs
    · exact h1 s (List.mem_of_mem_take hs)
    · rw [List.mem_singleton] at hs
      subst hs
      rw [pt_get l _ hlast]
      have := h1 _ (List.getElem_mem hlast)
      exact ⟨this.1, this.2.1, y0, y1⟩
  · unfold withL
    rw [List.pairwise_append]
    refine ⟨List.Pairwise.sublist (List.take_sublist _ _) h2, List.pairwise_singleton _ _, fun a ha b hb => ?_⟩
    rw [List.mem_singleton] at hb
    subst hb
    rw [pt_get l _ hlast]
    obtain ⟨i, hi, rfl⟩ := List.getElem_of_mem ha
    rw [List.length_take] at hi
    rw [List.getElem_take]
    exact (List.pairwise_iff_getElem.1 h2) i (l.length - 1) (by omega) hlast (by omega)
theorem with_lin (l : List (Int × Int)) (hv : validI l = true) (h : 0 < l.length) : ∃ A K : Int, ¬ Eqv K 0 ∧ ∀ y, Eqv (val (interp (withL l y)) 0) (A + y * K) := by
  obtain ⟨h1, h2⟩ := (valid_iff l).1 hv
  have hd := valid_dist hv
  have hlast : l.length - 1 < l.length := by omega
  have hpn := prod_ne l hd (l.length - 1) hlast
  rw [← pt_get l _ hlast] at hpn
  have hdt : Dist (l.take (l.length - 1)) := List.Pairwise.sublist (List.take_sublist _ l) hd
  have hfst := interp_fst _ hdt
  unfold withL
  generalize hF : interp (l.take (l.length - 1)) = F at *
  generalize (pt l (l.length - 1)).1 = xn at *
  have hx0 : ¬ Eqv (prodX F 0) 0 := by
    refine prodX_ne 0 F fun s hs he => ?_
    have hm : s.1 ∈ F.map Prod.fst := List.mem_map_of_mem hs
    rw [hfst] at hm
    obtain ⟨u, hu, hus⟩ := List.mem_map.1 hm
    have hb := h1 u (List.mem_of_mem_take hu)
    rw [← hus] at he
    obtain ⟨k, he⟩ := he
    omega
  have hinv : Eqv (prodI F xn * ginv (prodI F xn)) 1 := eqv_iff.2 (by rw [ginv_mul _ hpn]; decide)
  have hi0 : ¬ Eqv (ginv (prodI F xn)) 0 := by
    intro h0
    have h3 : Eqv (0 : Int) 1 := ((Eqv.of_eq (Int.mul_zero (prodI F xn)).symm).trans ((Eqv.refl _).mul h0.symm)).trans hinv
    rw [eqv_iff] at h3
    revert h3
    decide
  refine ⟨val F 0 - val F xn * (ginv (prodI F xn) * prodX F 0), ginv (prodI F xn) * prodX F 0, eqv_mul_ne hi0 hx0, fun y => ?_⟩
  have e : interp (l.take (l.length - 1) ++ [(xn, y)]) = addPt F (xn, y) := by
    unfold interp at hF ⊢
    rw [List.foldl_append, hF]
    rfl
  rw [e]
  unfold addPt
  dsimp only
  refine (val_snoc _ 0 F).trans ?_
  dsimp only
  refine ((Eqv.refl _).add (((gmul_eqv _ _).trans ((gsub_eqv _ _).mul (Eqv.refl _))).mul (Eqv.refl _))).trans (Eqv.of_eq ?_)
  grind
theorem hides_law {A K : Int} (hK : ¬ Eqv K 0) (J : Int → Int) (hJ : ∀ y, Eqv (J y) (A + y * K)) (hb : ∀ y, 0 ≤ J y ∧ J y < 2305843009213693951) (s : Int) (s0 : 0 ≤ s) (s1 : s < 2305843009213693951) :
    gsub (J 1) (J 0) % 2305843009213693951 ≠ 0 ∧ J (gmul (gsub s (J 0)) (ginv (gsub (J 1) (J 0)))) = s ∧ J (gadd (gmul (gsub s (J 0)) (ginv (gsub (J 1) (J 0)))) 1) ≠ s := by
  have e1 : Eqv (gsub (J 1) (J 0)) K := (gsub_eqv _ _).trans (((hJ 1).sub (hJ 0)).trans (Eqv.of_eq (by grind)))
  have hne : gsub (J 1) (J 0) % 2305843009213693951 ≠ 0 := fun h => hK (e1.symm.trans (eqv_zero.2 h))
  have hinv : Eqv (gsub (J 1) (J 0) * ginv (gsub (J 1) (J 0))) 1 := eqv_iff.2 (by rw [ginv_mul _ hne]; decide)
  generalize gsub (J 1) (J 0) = D at *
  have e2 : Eqv (gmul (gsub s (J 0)) (ginv D) * K) (s - A) := by
    have h1 : Eqv (gmul (gsub s (J 0)) (ginv D)) ((s - A) * ginv D) := (gmul_eqv _ _).trans (((gsub_eqv _ _).trans ((Eqv.refl s).sub ((hJ 0).trans (Eqv.of_eq (by grind))))).mul (Eqv.refl _))
    refine (h1.mul e1.symm).trans ((Eqv.of_eq (show (s - A) * ginv D * D = (s - A) * (D * ginv D) by grind)).trans (((Eqv.refl _).mul hinv).trans (Eqv.of_eq (Int.mul_one _))))
  refine ⟨hne, ?_, ?_⟩
  · refine eqv_eq ((hJ _).trans (((Eqv.refl A).add e2).trans (Eqv.of_eq (by grind)))) (hb _).1 (hb _).2 s0 s1
  · intro h
    refine hK ?_
    generalize gmul (gsub s (J 0)) (ginv D) = Y at *
    have h1 : Eqv (J (gadd Y 1)) (A + (Y + 1) * K) := (hJ _).trans ((Eqv.refl A).add ((gadd_eqv _ _).mul (Eqv.refl K)))
    rw [h] at h1
    have h2 : Eqv (A + (Y + 1) * K) (s + K) := (Eqv.of_eq (show A + (Y + 1) * K = A + Y * K + K by grind)).trans ((((Eqv.refl A).add e2).trans (Eqv.of_eq (show A + (s - A) = s by grind))).add (Eqv.refl K))
    obtain ⟨k, h3⟩ := h1.trans h2
    exact ⟨-k, by omega⟩

/-! ### Sums -/
def withYs (l : List (Int × Int)) (ys : List Int) : List (Int × Int) := (List.range l.length).map fun i => ((pt l i).1, ys.getD i 0)
def sumYs (l : List (Int × Int)) (ys : List Int) : List (Int × Int) := (List.range l.length).map fun i => ((pt l i).1, gadd (pt l i).2 (ys.getD i 0))
theorem withYs_length (l : List (Int × Int)) (ys : List Int) : (withYs l ys).length = l.length := by simp [withYs]
theorem sumYs_length (l : List (Int × Int)) (ys : List Int) : (sumYs l ys).length = l.length := by simp [sumYs]
theorem list_pt (l : List (Int × Int)) : l = (List.range l.length).map fun i => ((pt l i).1, (pt l i).2) := by
  apply List.ext_getElem (by simp)
  intro i h1 h2
  simp only [List.getElem_map, List.getElem_range]
  rw [pt_get l i h1]
theorem map_valid (l : List (Int × Int)) (hv : validI l = true) (g : Nat → Int) (hg : ∀ i, i < l.length → 0 ≤ g i ∧ g i < 2305843009213693951) : validI ((List.range l.length).map fun i => ((pt l i).1, g i)) = true := by
  obtain ⟨h1, h2⟩ := (valid_iff l).1 hv
  refine (valid_iff _).2 ⟨fun s hs => ?_, ?_⟩
  · obtain ⟨i, hi, rfl⟩ := List.mem_map.1 hs
    rw [List.mem_range] at hi
    have := h1 _ (List.getElem_mem hi)
    rw [← pt_get l i hi] at this
    exact ⟨this.1, this.2.1, hg i hi⟩
  · rw [List.pairwise_iff_getElem]
    intro i j hi hj hij
    rw [List.length_map, List.length_range] at hi hj
    simp only [List.getElem_map, List.getElem_range]
    rw [pt_get l i hi, pt_get l j hj]
    exact (List.pairwise_iff_getElem.1 h2) i j hi hj hij
def ysOk (l : List (Int × Int)) (ys : List Int) : Prop := ∀ i, i < l.length → 0 ≤ ys.getD i 0 ∧ ys.getD i 0 < 2305843009213693951
theorem withYs_valid {l : List (Int × Int)} {ys : List Int} (hv : validI l = true) (hy : ysOk l ys) : validI (withYs l ys) = true := map_valid l hv _ hy
theorem sumYs_valid {l : List (Int × Int)} {ys : List Int} (hv : validI l = true) : validI (sumYs l ys) = true := map_valid l hv _ fun i _ => emod_bd _ (by decide)
theorem mem_at (l : List (Int × Int)) (k i : Nat) (h : i < k) (h2 : i < l.length) (g : Nat → Int) : ((pt l i).1, g i) ∈ ((List.range l.length).map fun i => ((pt l i).1, g i)).take k := by
  rw [List.mem_take_iff_getElem]
  refine ⟨i, by simp; omega, ?_⟩
  simp
theorem of_mem (l : List (Int × Int)) (k : Nat) (g : Nat → Int) (s : Int × Int) (h : s ∈ ((List.range l.length).map fun i => ((pt l i).1, g i)).take k) : ∃ i, i < k ∧ i < l.length ∧ s = ((pt l i).1, g i) := by
  rw [List.mem_take_iff_getElem] at h
  obtain ⟨i, hi, rfl⟩ := h
  simp only [List.length_map, List.length_range] at hi
  exact ⟨i, by omega, by omega, by simp⟩
/-- Join of the sums. -/
theorem adds_join (l : List (Int × Int)) (ys : List Int) (t : Int) (hv : validI l = true) (hy : ysOk l ys) :
    (joinI l t = (0, false) ∧ joinI (withYs l ys) t = (0, false) ∧ joinI (sumYs l ys) t = (0, false)) ∨
    ∃ a b, joinI l t = (a, true) ∧ joinI (withYs l ys) t = (b, true) ∧ joinI (sumYs l ys) t = (gadd a b, true) := by
  by_cases h : t < 1 ∨ (l.length : Int) < t
  · left
    refine ⟨join_no l t (by rcases h with h | h <;> simp [h]), join_no _ t ?_, join_no _ t ?_⟩
    · rw [withYs_length]; rcases h with h | h <;> simp [h]
    · rw [sumYs_length]; rcases h with h | h <;> simp [h]
  · right
    have h1 : 1 ≤ t := by omega
    have h2 : t ≤ l.length := by omega
    have v1 : validI (l.take t.toNat) = true := valid_take l [] _ hv
    have v2 : validI ((withYs l ys).take t.toNat) = true := valid_take _ [] _ (withYs_valid hv hy)
    have v3 : validI ((sumYs l ys).take t.toNat) = true := valid_take _ [] _ (sumYs_valid hv)
    have e1 := join_yes l t h1 h2 v1
    have e2 := join_yes (withYs l ys) t h1 (by rw [withYs_length]; exact h2) v2
    have p1 := val_poly (interp (l.take t.toNat))
    have p2 := val_poly (interp ((withYs l ys).take t.toNat))
    rw [interp_len _ (valid_dist v1), List.length_take] at p1
    rw [interp_len _ (valid_dist v2), List.length_take, withYs_length] at p2
    rw [Nat.min_eq_left (by omega)] at p1 p2
    obtain ⟨c, e3, h4, c0, c1⟩ := join_poly (sumYs l ys) t h1 (by rw [sumYs_length]; exact h2) v3 (poly_add p1 p2) (fun s hs => by
      obtain ⟨i, hi, hil, rfl⟩ := of_mem l t.toNat _ s hs
      have k1 := interp_at _ (valid_dist v1) ((pt l i).1, (pt l i).2) (by
        have := mem_at l t.toNat i hi hil (fun i => (pt l i).2)
        rw [← list_pt l] at this
        exact this)
      have k2 := interp_at _ (valid_dist v2) ((pt l i).1, ys.getD i 0) (mem_at l t.toNat i hi hil (fun i => ys.getD i 0))
      exact (k1.add k2).trans (gadd_eqv _ _).symm)
    refine ⟨_, _, e1, e2, ?_⟩
    rw [e3]
    have hg := emod_bd (val (interp (l.take t.toNat)) 0 + val (interp ((withYs l ys).take t.toNat)) 0) (m := 2305843009213693951) (by decide)
    rw [eqv_eq (h4.trans (gadd_eqv _ _).symm) c0 c1 hg.1 hg.2]
/-- Sums of lists that fit. -/
theorem adds_fits (l : List (Int × Int)) (ys : List Int) (t : Int) (hv : validI l = true) (hy : ysOk l ys) (h : fitsI l t = true) : fitsI (withYs l ys) t = fitsI (sumYs l ys) t := by
  obtain ⟨ht, _, f, hf, hs⟩ := (fits_iff l t).1 h
  have hfi : ∀ i, i < l.length → Eqv (f (pt l i).1) (pt l i).2 := fun i hi => by
    have := hs _ (List.getElem_mem hi)
    rw [← pt_get l i hi] at this
    exact this
  rw [Bool.eq_iff_iff, fits_iff, fits_iff]
  constructor
  · rintro ⟨_, _, g, hg, hgs⟩
    refine ⟨ht, sumYs_valid hv, _, poly_add hf hg, fun s hm => ?_⟩
    obtain ⟨i, hi, rfl⟩ := List.mem_map.1 hm
    rw [List.mem_range] at hi
    have h2 := hgs ((pt l i).1, ys.getD i 0) (List.mem_map.2 ⟨i, List.mem_range.2 hi, rfl⟩)
    exact ((hfi i hi).add h2).trans (gadd_eqv _ _).symm
  · rintro ⟨_, _, g, hg, hgs⟩
    refine ⟨ht, withYs_valid hv hy, _, poly_sub hg hf, fun s hm => ?_⟩
    obtain ⟨i, hi, rfl⟩ := List.mem_map.1 hm
    rw [List.mem_range] at hi
    have h2 := hgs ((pt l i).1, gadd (pt l i).2 (ys.getD i 0)) (List.mem_map.2 ⟨i, List.mem_range.2 hi, rfl⟩)
    exact ((h2.trans (gadd_eqv _ _)).sub (hfi i hi)).trans (Eqv.of_eq (by dsimp only; omega))

/-! ### A changed share -/
theorem detects (s t : Int) (seed : ByteArray) (n a : Nat) (y : Int) (hn : n ≤ 64) (ht : 1 ≤ t) (htn : t < n) (ha : a < n) (y0 : 0 ≤ y) (y1 : y < 2305843009213693951) :
    fitsI ((splitL s seed t.toNat n).set a ((pt (splitL s seed t.toNat n) a).1, y)) t = decide ((pt (splitL s seed t.toNat n) a).2 = y) := by
  have hlen := splitL_length s seed t.toNat n
  have hC : Chosen s seed t.toNat n (splitL s seed t.toNat n) := ⟨fun p hp => hp, split_dist _ _ _ _⟩
  have hmem := fun p => split_mem s seed t.toNat n p
  have hbd := fun p => split_bd s seed t.toNat n hn p
  have hpoly := split_poly s seed t.toNat
  by_cases he : (pt (splitL s seed t.toNat n) a).2 = y
  · have hset : (splitL s seed t.toNat n).set a ((pt (splitL s seed t.toNat n) a).1, y) = splitL s seed t.toNat n := by
      rw [← he]
      have : ((pt (splitL s seed t.toNat n) a).1, (pt (splitL s seed t.toNat n) a).2) = (splitL s seed t.toNat n)[a]'(by omega) := pt_get _ a (by omega)
      rw [this, List.set_getElem_self]
    rw [hset, hC.fits hn ht]
    simp [he]
  · rw [decide_eq_false he]
    cases hf : fitsI ((splitL s seed t.toNat n).set a ((pt (splitL s seed t.toNat n) a).1, y)) t with
    | false => rfl
    | true =>
      exfalso
      obtain ⟨_, hv, f, hp, hs⟩ := (fits_iff _ t).1 hf
      have hd := hC.dist
      generalize splitL s seed t.toNat n = L at *
      apply he
      have ha' : a < L.length := by omega
      have hx : (pt L a).2 = hor (coefL s seed t.toNat) (pt L a).1 := by
        rw [pt_get L a ha']
        exact (hmem _ (List.getElem_mem ha')).2
      have hxs : Eqv (f (pt L a).1) y := hs ((pt L a).1, y) (List.mem_iff_getElem.2 ⟨a, by simpa using ha', by simp⟩)
      have hb := hbd _ (List.getElem_mem ha')
      rw [← pt_get L a ha'] at hb
      refine eqv_eq ?_ hb.2.2.1 hb.2.2.2 y0 y1
      rw [hx]
      refine Eqv.trans ?_ hxs
      have hd2 : (L.eraseIdx a).Pairwise (fun u v => u.1 ≠ v.1) := List.Pairwise.sublist (List.eraseIdx_sublist _ _) hd
      refine poly_unique ((L.eraseIdx a).map Prod.fst) hpoly hp ?_ ?_ ?_ _
      · rw [List.length_map, List.length_eraseIdx, if_pos ha']; omega
      · rw [List.pairwise_map]
        refine List.Pairwise.imp_of_mem (fun hu hw hne heq => hne ?_) hd2
        have k1 := hbd _ (List.mem_of_mem_eraseIdx hu)
        have k2 := hbd _ (List.mem_of_mem_eraseIdx hw)
        exact eqv_eq heq (by omega) (by omega) (by omega) (by omega)
      · intro r hr
        obtain ⟨u, hu, rfl⟩ := List.mem_map.1 hr
        have h1 := (hmem u (List.mem_of_mem_eraseIdx hu)).2
        rw [← h1]
        refine (hs u ?_).symm
        obtain ⟨i, hia, hne, hiu⟩ := List.mem_eraseIdx_iff_getElem.1 hu
        rw [List.mem_iff_getElem]
        refine ⟨i, by simpa using hia, ?_⟩
        rw [List.getElem_set_ne (by omega), hiu]
theorem Chosen.erase (s : Int) (seed : ByteArray) (t n a : Nat) : Chosen s seed t n ((splitL s seed t n).take a ++ (splitL s seed t n).drop (a + 1)) := by
  have e : (splitL s seed t n).take a ++ (splitL s seed t n).drop (a + 1) = (splitL s seed t n).eraseIdx a := by rw [List.eraseIdx_eq_take_drop_succ]
  rw [e]
  exact ⟨fun p hp => List.mem_of_mem_eraseIdx hp, List.Pairwise.sublist (List.eraseIdx_sublist _ _) (split_dist _ _ _ _)⟩
end Go.Proofs.YtppbplchdfhnkaaDoor.Share
