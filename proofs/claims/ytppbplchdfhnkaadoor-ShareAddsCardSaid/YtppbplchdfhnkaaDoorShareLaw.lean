/-
  Plain laws of the shares: Lagrange's formula is Newton's form; what fits; what is joined. No program in this text.
-/
import Derived.Test.YtppbplchdfhnkaaDoorShareSplit
import Derived.Test.YtppbplchdfhnkaaDoorShareJoin
set_option linter.unusedVariables false
set_option linter.unusedSimpArgs false
namespace Go.Proofs.YtppbplchdfhnkaaDoor.Share
open Grp

/-! ### Lagrange's formula, as the reference computes it -/
def pt (l : List (Int × Int)) (i : Nat) : Int × Int := l.getD i (0, 0)
theorem pt_get (l : List (Int × Int)) (i : Nat) (h : i < l.length) : pt l i = l[i] := by
  unfold pt
  rw [List.getD_eq_getElem?_getD, List.getElem?_eq_getElem h]
  rfl
def overTo (l : List (Int × Int)) (i : Nat) (x : Int) : Nat → Int
  | 0 => (pt l i).2
  | k + 1 => if k = i then overTo l i x k else gmul (overTo l i x k) (gsub x (pt l k).1)
def underTo (l : List (Int × Int)) (i : Nat) : Nat → Int
  | 0 => 1
  | k + 1 => if k = i then underTo l i k else gmul (underTo l i k) (gsub (pt l i).1 (pt l k).1)
def lagTo (l : List (Int × Int)) (x : Int) : Nat → Int
  | 0 => 0
  | i + 1 => gadd (lagTo l x i) (gmul (overTo l i x l.length) (ginv (underTo l i l.length)))

theorem fac (f : Int → Int) (s : Int) (x : Int) : Eqv (gmul (f x) (gsub x s)) ((x - s) * f x + 0) :=
  (gmul_eqv _ _).trans (((Eqv.refl _).mul (gsub_eqv _ _)).trans (Eqv.of_eq (by rw [Int.mul_comm]; simp)))
theorem overTo_poly (l : List (Int × Int)) (i : Nat) : ∀ k, Poly (if i < k then k else k + 1) (fun x => overTo l i x k) := by
  intro k
  induction k with
  | zero => rw [if_neg (by omega)]; exact poly_const _ (by omega)
  | succ k ih =>
    by_cases e : k = i
    · subst e
      rw [if_neg (by omega)] at ih
      rw [if_pos (by omega)]
      refine poly_congr (fun x => Eqv.of_eq ?_) ih
      rw [overTo, if_pos rfl]
    · have h1 := poly_shift (pt l k).1 0 ih
      have h2 : (if i < k then k else k + 1) + 1 = if i < k + 1 then k + 1 else k + 1 + 1 := by split <;> split <;> omega
      rw [← h2]
      refine poly_congr (fun x => ?_) h1
      rw [overTo, if_neg e]
      exact fac (fun x => overTo l i x k) (pt l k).1 x
theorem overTo_zero (l : List (Int × Int)) (i j : Nat) (x : Int) (hx : Eqv x (pt l j).1) (hij : j ≠ i) : ∀ k, j < k → Eqv (overTo l i x k) 0 := by
  intro k
  induction k with
  | zero => intro h; omega
  | succ k ih =>
    intro h
    rw [overTo]
    by_cases e : k = i
    · rw [if_pos e]
      exact ih (by omega)
    · rw [if_neg e]
      by_cases e2 : j = k
      · subst e2
        refine (gmul_eqv _ _).trans (((Eqv.refl _).mul ((gsub_eqv _ _).trans ((hx.sub (Eqv.refl _)).trans (Eqv.of_eq (by omega))))).trans (Eqv.of_eq (Int.mul_zero _)))
      · exact (gmul_eqv _ _).trans (((ih (by omega)).mul (Eqv.refl _)).trans (Eqv.of_eq (Int.zero_mul _)))
theorem overTo_here (l : List (Int × Int)) (i : Nat) : ∀ k, Eqv (overTo l i (pt l i).1 k) ((pt l i).2 * underTo l i k) := by
  intro k
  induction k with
  | zero => exact Eqv.of_eq (by simp [overTo, underTo])
  | succ k ih =>
    rw [overTo, underTo]
    by_cases e : k = i
    · rw [if_pos e, if_pos e]; exact ih
    · rw [if_neg e, if_neg e]
      refine (gmul_eqv _ _).trans ((ih.mul (Eqv.refl _)).trans ?_)
      exact (Eqv.of_eq (Int.mul_assoc _ _ _)).trans ((Eqv.refl _).mul (gmul_eqv _ _).symm)
theorem underTo_ne (l : List (Int × Int)) (i : Nat) (hd : ∀ k, k < l.length → k ≠ i → ¬ Eqv (pt l i).1 (pt l k).1) : ∀ k, k ≤ l.length → underTo l i k % 2305843009213693951 ≠ 0 := by
  intro k
  induction k with
  | zero => intro _; rw [underTo]; decide
  | succ k ih =>
    intro hk
    rw [underTo]
    by_cases e : k = i
    · rw [if_pos e]; exact ih (by omega)
    · rw [if_neg e]
      have h1 := ih (by omega)
      have h2 := hd k (by omega) e
      have h3 : gsub (pt l i).1 (pt l k).1 % 2305843009213693951 ≠ 0 := by
        intro h
        refine h2 ?_
        have h4 : Eqv ((pt l i).1 - (pt l k).1) 0 := (gsub_eqv _ _).symm.trans (eqv_zero.2 h)
        obtain ⟨q, h4⟩ := h4
        exact ⟨q, by omega⟩
      have h4 := gmul_ne _ _ h1 h3
      unfold gmul
      rw [Int.emod_emod]
      exact h4
theorem dist_pt {l : List (Int × Int)} (hd : Dist l) (i : Nat) (hi : i < l.length) : ∀ k, k < l.length → k ≠ i → ¬ Eqv (pt l i).1 (pt l k).1 := by
  intro k hk hne
  rw [pt_get l i hi, pt_get l k hk]
  rcases Nat.lt_or_gt_of_ne hne with h | h
  · intro he
    exact (List.pairwise_iff_getElem.1 hd) k i hk hi h he.symm
  · exact (List.pairwise_iff_getElem.1 hd) i k hi hk h
theorem lag_inv (l : List (Int × Int)) (hd : Dist l) (i : Nat) (hi : i < l.length) : underTo l i l.length % 2305843009213693951 ≠ 0 := underTo_ne l i (dist_pt hd i hi) _ (Nat.le_refl _)
theorem lagTo_poly (l : List (Int × Int)) : ∀ i, i ≤ l.length → Poly l.length (fun x => lagTo l x i) := by
  intro i
  induction i with
  | zero =>
    intro _
    refine poly_le (Nat.zero_le _) (fun x => ?_)
    exact Eqv.refl 0
  | succ i ih =>
    intro hi
    have h1 := overTo_poly l i l.length
    rw [if_pos (by omega)] at h1
    refine poly_congr (fun x => ?_) (poly_add (ih (by omega)) (poly_smul (ginv (underTo l i l.length)) h1))
    rw [lagTo]
    exact (gadd_eqv _ _).trans ((Eqv.refl _).add ((gmul_eqv _ _).trans (Eqv.of_eq (Int.mul_comm _ _))))
theorem lagTo_at (l : List (Int × Int)) (hd : Dist l) (j : Nat) (hj : j < l.length) : ∀ i, i ≤ l.length → Eqv (lagTo l (pt l j).1 i) (if j < i then (pt l j).2 else 0) := by
  intro i
  induction i with
  | zero => intro _; rw [if_neg (by omega)]; exact Eqv.refl 0
  | succ i ih =>
    intro hi
    have h1 := ih (by omega)
    rw [lagTo]
    refine (gadd_eqv _ _).trans ?_
    by_cases e : j = i
    · subst e
      rw [if_neg (by omega)] at h1
      rw [if_pos (by omega)]
      have hinv : Eqv (underTo l j l.length * ginv (underTo l j l.length)) 1 := eqv_iff.2 (by rw [ginv_mul _ (lag_inv l hd j hj)]; decide)
      have h2 : Eqv (gmul (overTo l j (pt l j).1 l.length) (ginv (underTo l j l.length))) (pt l j).2 := by
        refine (gmul_eqv _ _).trans (((overTo_here l j l.length).mul (Eqv.refl _)).trans ?_)
        refine (Eqv.of_eq (Int.mul_assoc _ _ _)).trans (((Eqv.refl _).mul hinv).trans (Eqv.of_eq (Int.mul_one _)))
      exact (h1.add h2).trans (Eqv.of_eq (Int.zero_add _))
    · have h2 : Eqv (gmul (overTo l i (pt l j).1 l.length) (ginv (underTo l i l.length))) 0 :=
        (gmul_eqv _ _).trans (((overTo_zero l i j _ (Eqv.refl _) e l.length hj).mul (Eqv.refl _)).trans (Eqv.of_eq (Int.zero_mul _)))
      refine (h1.add h2).trans (Eqv.of_eq ?_)
      rw [Int.add_zero]
      by_cases h : j < i
      · rw [if_pos h, if_pos (by omega)]
      · rw [if_neg h, if_neg (by omega)]
theorem lagTo_bd (l : List (Int × Int)) (x : Int) (i : Nat) : 0 ≤ lagTo l x i ∧ lagTo l x i < 2305843009213693951 := by
  cases i with
  | zero => exact ⟨Int.le_refl _, show (0 : Int) < 2305843009213693951 by decide⟩
  | succ i => exact emod_bd _ (by decide)
/-- Lagrange's formula is Newton's form. -/
theorem lag_val (l : List (Int × Int)) (hd : Dist l) (x : Int) : lagTo l x l.length = val (interp l) x := by
  have h1 := interp_unique l hd (f := fun x => lagTo l x l.length) (lagTo_poly l l.length (Nat.le_refl _)) (fun s hs => by
    obtain ⟨j, hj, rfl⟩ := List.getElem_of_mem hs
    have h := lagTo_at l hd j hj l.length (Nat.le_refl _)
    rw [if_pos hj, pt_get l j hj] at h
    exact h) x
  exact (eqv_eq h1 (val_bd _ _).1 (val_bd _ _).2 (lagTo_bd _ _ _).1 (lagTo_bd _ _ _).2).symm

/-! ### Validity -/
theorem valid_of : ∀ (l : List (Int × Int)) (seen : List Int), (∀ s ∈ l, 1 ≤ s.1 ∧ s.1 < 2305843009213693951 ∧ 0 ≤ s.2 ∧ s.2 < 2305843009213693951 ∧ s.1 ∉ seen) → l.Pairwise (fun a b => a.1 ≠ b.1) → validFrom seen l = true := by
  intro l
  induction l with
  | nil => intro seen _ _; rfl
  | cons s r ih =>
    intro seen h hd
    rw [List.pairwise_cons] at hd
    obtain ⟨h1, h2, h3, h4, h5⟩ := h s (by simp)
    rw [validFrom, if_neg (by simp only [h5, or_false]; omega)]
    refine ih _ (fun t ht => ?_) hd.2
    obtain ⟨k1, k2, k3, k4, k5⟩ := h t (by simp [ht])
    refine ⟨k1, k2, k3, k4, ?_⟩
    intro hm
    rcases List.mem_cons.1 hm with e | e
    · exact hd.1 t ht e.symm
    · exact k5 e
theorem valid_iff (l : List (Int × Int)) : validI l = true ↔ (∀ s ∈ l, 1 ≤ s.1 ∧ s.1 < 2305843009213693951 ∧ 0 ≤ s.2 ∧ s.2 < 2305843009213693951) ∧ l.Pairwise (fun a b => a.1 ≠ b.1) := by
  constructor
  · intro h
    exact ⟨valid_bd h, (valid_all l [] h).2⟩
  · rintro ⟨h1, h2⟩
    refine valid_of l [] (fun s hs => ?_) h2
    obtain ⟨k1, k2, k3, k4⟩ := h1 s hs
    exact ⟨k1, k2, k3, k4, by simp⟩

/-! ### What fits -/
theorem fitsFrom_iff (form : List (Int × Int)) : ∀ r : List (Int × Int), fitsFrom form r = true ↔ ∀ s ∈ r, val form s.1 = s.2 := by
  intro r
  induction r with
  | nil => simp [fitsFrom]
  | cons s r ih =>
    rw [fitsFrom]
    by_cases h : val form s.1 = s.2
    · rw [if_pos h, ih]
      constructor
      · intro h2 t ht
        rcases List.mem_cons.1 ht with rfl | ht
        · exact h
        · exact h2 t ht
      · intro h2 t ht
        exact h2 t (by simp [ht])
    · rw [if_neg h]
      constructor
      · intro h2; cases h2
      · intro h2; exact absurd (h2 s (by simp)) h
/-- A list fits exactly if a polynomial of a degree less than t goes through all its shares. -/
theorem fits_iff (l : List (Int × Int)) (t : Int) : fitsI l t = true ↔ 1 ≤ t ∧ validI l = true ∧ ∃ f, Poly t.toNat f ∧ ∀ s ∈ l, Eqv (f s.1) s.2 := by
  unfold fitsI
  by_cases h1 : t < 1 ∨ validI l = false
  · rw [if_pos h1]
    constructor
    · intro h; cases h
    · rintro ⟨h2, h3, _⟩
      rcases h1 with h | h
      · omega
      · rw [h] at h3; cases h3
  · rw [if_neg h1]
    have ht : 1 ≤ t := by omega
    have hv : validI l = true := by
      cases h : validI l with
      | true => rfl
      | false => exact absurd (.inr h) h1
    have hd := valid_dist hv
    by_cases h2 : (l.length : Int) ≤ t
    · rw [if_pos h2]
      refine ⟨fun _ => ⟨ht, hv, val (interp l), ?_, interp_at l hd⟩, fun _ => rfl⟩
      have := val_poly (interp l)
      rw [interp_len l hd] at this
      exact poly_le (by omega) this
    · rw [if_neg h2, fitsFrom_iff]
      have hdt : Dist (l.take t.toNat) := List.Pairwise.sublist (List.take_sublist _ l) hd
      have hlt : (l.take t.toNat).length = t.toNat := by rw [List.length_take]; omega
      constructor
      · intro h
        refine ⟨ht, hv, val (interp (l.take t.toNat)), ?_, fun s hs => ?_⟩
        · have := val_poly (interp (l.take t.toNat))
          rw [interp_len _ hdt, hlt] at this
          exact this
        · rw [← List.take_append_drop t.toNat l] at hs
          rcases List.mem_append.1 hs with hs | hs
          · exact interp_at _ hdt s hs
          · exact Eqv.of_eq (h s hs)
      · rintro ⟨_, _, f, hf, hs⟩ s hm
        have hm' := List.mem_of_mem_drop hm
        have hb := valid_bd hv s hm'
        have h3 := interp_unique (l.take t.toNat) hdt (f := f) (by rw [hlt]; exact hf) (fun u hu => hs u (List.mem_of_mem_take hu)) s.1
        exact eqv_eq (h3.trans (hs s hm')) (val_bd _ _).1 (val_bd _ _).2 hb.2.2.1 hb.2.2.2

/-! ### What is joined -/
theorem join_no (l : List (Int × Int)) (t : Int) (h : t < 1 ∨ (l.length : Int) < t ∨ validI (l.take t.toNat) = false) : joinI l t = (0, false) := if_pos h
theorem join_yes (l : List (Int × Int)) (t : Int) (h1 : 1 ≤ t) (h2 : t ≤ l.length) (hv : validI (l.take t.toNat) = true) : joinI l t = (val (interp (l.take t.toNat)) 0, true) := by
  unfold joinI
  rw [if_neg]
  rw [hv]
  simp
  omega
theorem join_poly (l : List (Int × Int)) (t : Int) (h1 : 1 ≤ t) (h2 : t ≤ l.length) (hv : validI (l.take t.toNat) = true) {f : Int → Int} (hf : Poly t.toNat f) (h : ∀ s ∈ l.take t.toNat, Eqv (f s.1) s.2) :
    ∃ v, joinI l t = (v, true) ∧ Eqv v (f 0) ∧ 0 ≤ v ∧ v < 2305843009213693951 := by
  refine ⟨_, join_yes l t h1 h2 hv, ?_, val_bd _ _⟩
  have hlt : (l.take t.toNat).length = t.toNat := by rw [List.length_take]; omega
  exact interp_unique _ (valid_dist hv) (by rw [hlt]; exact hf) h 0

/-! ### A split -/
theorem hor_poly : ∀ cs : List Int, Poly cs.length (hor cs) := by
  intro cs
  induction cs with
  | nil => exact fun x => Eqv.refl 0
  | cons c r ih =>
    refine poly_congr (fun x => ?_) (poly_shift 0 c ih)
    exact (gadd_eqv _ _).trans (((gmul_eqv _ _).trans (Eqv.of_eq (by rw [Int.mul_comm]; simp))).add (Eqv.refl _))
theorem hor_bd (cs : List Int) (x : Int) : 0 ≤ hor cs x ∧ hor cs x < 2305843009213693951 := by
  cases cs with
  | nil => exact ⟨Int.le_refl _, show (0 : Int) < 2305843009213693951 by decide⟩
  | cons c r => exact emod_bd _ (by decide)
theorem coef_zero (s : Int) (seed : ByteArray) (t : Nat) (ht : 1 ≤ t) : Eqv (hor (coefL s seed t) 0) s := by
  obtain ⟨n, rfl⟩ : ∃ n, t = n + 1 := ⟨t - 1, by omega⟩
  have h : coefL s seed (n + 1) = s :: (List.range n).map (fun i => coefAt s seed (i + 1)) := by
    unfold coefL
    rw [List.range_succ_eq_map, List.map_cons, List.map_map]
    rfl
  rw [h, hor]
  exact (gadd_eqv _ _).trans (((gmul_eqv _ _).trans (Eqv.of_eq (Int.mul_zero _))).add (Eqv.refl _) |>.trans (Eqv.of_eq (Int.zero_add _)))
theorem split_mem (s : Int) (seed : ByteArray) (t n : Nat) (p : Int × Int) (h : p ∈ splitL s seed t n) : (1 ≤ p.1 ∧ p.1 ≤ n) ∧ p.2 = hor (coefL s seed t) p.1 := by
  unfold splitL at h
  obtain ⟨j, hj, rfl⟩ := List.mem_map.1 h
  rw [List.mem_range] at hj
  exact ⟨by dsimp only; omega, rfl⟩
theorem split_bd (s : Int) (seed : ByteArray) (t n : Nat) (hn : n ≤ 64) (p : Int × Int) (h : p ∈ splitL s seed t n) : 1 ≤ p.1 ∧ p.1 < 2305843009213693951 ∧ 0 ≤ p.2 ∧ p.2 < 2305843009213693951 := by
  obtain ⟨h1, h2⟩ := split_mem s seed t n p h
  have := hor_bd (coefL s seed t) p.1
  rw [h2]
  omega
theorem split_poly (s : Int) (seed : ByteArray) (t : Nat) : Poly t (hor (coefL s seed t)) := by
  have := hor_poly (coefL s seed t)
  rw [coefL_length] at this
  exact this
/-- A choice out of a split. -/
structure Chosen (s : Int) (seed : ByteArray) (t n : Nat) (l : List (Int × Int)) : Prop where
  sub : ∀ p ∈ l, p ∈ splitL s seed t n
  dist : l.Pairwise fun a b => a.1 ≠ b.1
theorem Chosen.valid {s : Int} {seed : ByteArray} {t n : Nat} {l : List (Int × Int)} (h : Chosen s seed t n l) (hn : n ≤ 64) : validI l = true :=
  (valid_iff l).2 ⟨fun p hp => split_bd s seed t n hn p (h.sub p hp), h.dist⟩
theorem Chosen.take {s : Int} {seed : ByteArray} {t n : Nat} {l : List (Int × Int)} (h : Chosen s seed t n l) (k : Nat) : Chosen s seed t n (l.take k) :=
  ⟨fun p hp => h.sub p (List.mem_of_mem_take hp), List.Pairwise.sublist (List.take_sublist _ _) h.dist⟩
theorem Chosen.fits {s t : Int} {seed : ByteArray} {n : Nat} {l : List (Int × Int)} (h : Chosen s seed t.toNat n l) (hn : n ≤ 64) (ht : 1 ≤ t) : fitsI l t = true :=
  (fits_iff l t).2 ⟨ht, h.valid hn, hor (coefL s seed t.toNat), split_poly _ _ _, fun p hp => Eqv.of_eq (split_mem _ _ _ _ p (h.sub p hp)).2.symm⟩
theorem Chosen.join {s t : Int} {seed : ByteArray} {n : Nat} {l : List (Int × Int)} (h : Chosen s seed t.toNat n (l.take t.toNat)) (hn : n ≤ 64) (ht : 1 ≤ t) (hl : t ≤ l.length) (h0 : 0 ≤ s) (h1 : s < 2305843009213693951) : joinI l t = (s, true) := by
  obtain ⟨v, hv, he, v0, v1⟩ := join_poly l t ht hl (h.valid hn) (split_poly s seed t.toNat) (fun p hp => Eqv.of_eq (split_mem _ _ _ _ p (h.sub p hp)).2.symm)
  rw [hv, eqv_eq (he.trans (coef_zero s seed t.toNat (by omega))) v0 v1 h0 h1]
theorem split_dist (s : Int) (seed : ByteArray) (t n : Nat) : (splitL s seed t n).Pairwise fun a b => a.1 ≠ b.1 := by
  unfold splitL
  rw [List.pairwise_map]
  refine List.Pairwise.imp ?_ (List.nodup_range (n := n))
  intro a b hab h
  apply hab
  dsimp only at h
  omega
end Go.Proofs.YtppbplchdfhnkaaDoor.Share
