/-
  Interpolation over the residues modulo P, in plain Lean. No program in this text.
-/
import Derived.Test.YtppbplchdfhnkaaDoorGrpLaw
set_option linter.unusedVariables false
set_option linter.unusedSimpArgs false
namespace Go.Proofs.YtppbplchdfhnkaaDoor.Share
open Grp

/-- Equal residues. -/
def Eqv (a b : Int) : Prop := ∃ k : Int, a = b + 2305843009213693951 * k
theorem Eqv.refl (a : Int) : Eqv a a := ⟨0, by omega⟩
theorem Eqv.of_eq {a b : Int} (h : a = b) : Eqv a b := h ▸ Eqv.refl a
theorem Eqv.symm {a b : Int} (h : Eqv a b) : Eqv b a := by obtain ⟨k, h⟩ := h; exact ⟨-k, by omega⟩
theorem Eqv.trans {a b c : Int} (h : Eqv a b) (k : Eqv b c) : Eqv a c := by obtain ⟨i, h⟩ := h; obtain ⟨j, k⟩ := k; exact ⟨i + j, by omega⟩
theorem Eqv.add {a b c d : Int} (h : Eqv a b) (k : Eqv c d) : Eqv (a + c) (b + d) := by obtain ⟨i, h⟩ := h; obtain ⟨j, k⟩ := k; exact ⟨i + j, by omega⟩
theorem Eqv.sub {a b c d : Int} (h : Eqv a b) (k : Eqv c d) : Eqv (a - c) (b - d) := by obtain ⟨i, h⟩ := h; obtain ⟨j, k⟩ := k; exact ⟨i - j, by omega⟩
theorem Eqv.mul {a b c d : Int} (h : Eqv a b) (k : Eqv c d) : Eqv (a * c) (b * d) := by
  obtain ⟨i, h⟩ := h
  obtain ⟨j, k⟩ := k
  exact ⟨i * d + b * j + 2305843009213693951 * (i * j), by subst h k; grind⟩
theorem Eqv.mod (a : Int) : Eqv (a % 2305843009213693951) a := ⟨-(a / 2305843009213693951), by omega⟩
theorem eqv_iff {a b : Int} : Eqv a b ↔ a % 2305843009213693951 = b % 2305843009213693951 := by
  constructor
  · rintro ⟨k, h⟩; omega
  · intro h; exact ⟨a / 2305843009213693951 - b / 2305843009213693951, by omega⟩
theorem eqv_zero {a : Int} : Eqv a 0 ↔ a % 2305843009213693951 = 0 := by rw [eqv_iff]; simp
theorem eqv_eq {a b : Int} (h : Eqv a b) (a0 : 0 ≤ a) (a1 : a < 2305843009213693951) (b0 : 0 ≤ b) (b1 : b < 2305843009213693951) : a = b := by
  obtain ⟨k, h⟩ := h; omega
theorem eqv_mul_zero {a b : Int} (h : Eqv (a * b) 0) (ha : ¬ Eqv a 0) : Eqv b 0 := by
  apply Classical.byContradiction
  intro hb
  rw [eqv_zero] at h ha hb
  exact gmul_ne a b ha hb h
theorem gadd_eqv (a b : Int) : Eqv (gadd a b) (a + b) := Eqv.mod _
theorem gsub_eqv (a b : Int) : Eqv (gsub a b) (a - b) := Eqv.mod _
theorem gmul_eqv (a b : Int) : Eqv (gmul a b) (a * b) := Eqv.mod _

/-- A function that is a polynomial of a degree less than n, up to residues. -/
def Poly : Nat → (Int → Int) → Prop
  | 0, f => ∀ x, Eqv (f x) 0
  | n + 1, f => ∀ r, ∃ g, Poly n g ∧ ∀ x, Eqv (f x) ((x - r) * g x + f r)
theorem poly_congr : ∀ {n : Nat} {f h : Int → Int}, (∀ x, Eqv (h x) (f x)) → Poly n f → Poly n h := by
  intro n f h hh hp
  cases n with
  | zero => exact fun x => (hh x).trans (hp x)
  | succ n =>
    intro r
    obtain ⟨g, hg, hx⟩ := hp r
    exact ⟨g, hg, fun x => (hh x).trans ((hx x).trans ((Eqv.refl _).add (hh r).symm))⟩
theorem poly_mono : ∀ {n : Nat} {f : Int → Int}, Poly n f → Poly (n + 1) f := by
  intro n
  induction n with
  | zero =>
    intro f hp r
    exact ⟨fun _ => 0, fun _ => Eqv.refl 0, fun x => (hp x).trans ((Eqv.of_eq (by simp)).trans ((Eqv.refl _).add (hp r).symm))⟩
  | succ n ih =>
    intro f hp r
    obtain ⟨g, hg, hx⟩ := hp r
    exact ⟨g, ih hg, hx⟩
theorem poly_le {n m : Nat} {f : Int → Int} (h : n ≤ m) (hp : Poly n f) : Poly m f := by
  induction m with
  | zero => obtain rfl : n = 0 := by omega
            exact hp
  | succ m ih =>
    by_cases e : n = m + 1
    · subst e; exact hp
    · exact poly_mono (ih (by omega))
theorem poly_add : ∀ {n : Nat} {f h : Int → Int}, Poly n f → Poly n h → Poly n (fun x => f x + h x) := by
  intro n
  induction n with
  | zero => intro f h hf hh x; exact ((hf x).add (hh x)).trans (Eqv.of_eq (by simp))
  | succ n ih =>
    intro f h hf hh r
    obtain ⟨g1, k1, x1⟩ := hf r
    obtain ⟨g2, k2, x2⟩ := hh r
    exact ⟨_, ih k1 k2, fun x => ((x1 x).add (x2 x)).trans (Eqv.of_eq (by grind))⟩
theorem poly_smul (c : Int) : ∀ {n : Nat} {f : Int → Int}, Poly n f → Poly n (fun x => c * f x) := by
  intro n
  induction n with
  | zero => intro f hf x; exact ((Eqv.refl c).mul (hf x)).trans (Eqv.of_eq (by simp))
  | succ n ih =>
    intro f hf r
    obtain ⟨g, k, hx⟩ := hf r
    exact ⟨_, ih k, fun x => ((Eqv.refl c).mul (hx x)).trans (Eqv.of_eq (by grind))⟩
theorem poly_sub {n : Nat} {f h : Int → Int} (hf : Poly n f) (hh : Poly n h) : Poly n (fun x => f x - h x) :=
  poly_congr (fun x => Eqv.of_eq (by grind)) (poly_add hf (poly_smul (-1) hh))
theorem poly_shift (s c : Int) : ∀ {n : Nat} {f : Int → Int}, Poly n f → Poly (n + 1) (fun x => (x - s) * f x + c) := by
  intro n f hf
  cases n with
  | zero =>
    intro r
    refine ⟨fun _ => 0, fun _ => Eqv.refl 0, fun x => ?_⟩
    have h1 : Eqv ((x - s) * f x + c) ((x - s) * 0 + c) := ((Eqv.refl _).mul (hf x)).add (Eqv.refl c)
    have h2 : Eqv ((r - s) * f r + c) ((r - s) * 0 + c) := ((Eqv.refl _).mul (hf r)).add (Eqv.refl c)
    exact h1.trans ((Eqv.of_eq (by grind)).trans ((Eqv.refl _).add h2.symm))
  | succ n =>
    intro r
    obtain ⟨g, hg, hx⟩ := hf r
    refine ⟨fun x => f x + (r - s) * g x, poly_add hf (poly_mono (poly_smul (r - s) hg)), fun x => ?_⟩
    have h1 : Eqv ((x - s) * f x + c) ((x - r) * f x + (r - s) * ((x - r) * g x + f r) + c) :=
      (Eqv.of_eq (show (x - s) * f x + c = (x - r) * f x + (r - s) * f x + c by grind)).trans (((Eqv.refl _).add ((Eqv.refl _).mul (hx x))).add (Eqv.refl c))
    exact h1.trans (Eqv.of_eq (by grind))
theorem poly_const (c : Int) {n : Nat} (h : 0 < n) : Poly n (fun _ => c) :=
  poly_le (n := 1) h (poly_congr (fun x => Eqv.of_eq (by simp)) (poly_shift 0 c (n := 0) (f := fun _ => 0) fun _ => Eqv.refl 0))

/-- A polynomial of a degree less than n with n roots vanishes. -/
theorem poly_roots : ∀ {n : Nat} {f : Int → Int} (l : List Int), Poly n f → n ≤ l.length → l.Pairwise (fun a b => ¬ Eqv a b) → (∀ r ∈ l, Eqv (f r) 0) → ∀ x, Eqv (f x) 0 := by
  intro n
  induction n with
  | zero => intro f l hp _ _ _ x; exact hp x
  | succ n ih =>
    intro f l hp hl hd hr x
    match l, hl, hd, hr with
    | r :: rs, hl, hd, hr =>
      obtain ⟨g, hg, hx⟩ := hp r
      have hr0 := hr r (by simp)
      rw [List.pairwise_cons] at hd
      have hg0 : ∀ s ∈ rs, Eqv (g s) 0 := by
        intro s hs
        have h1 : Eqv ((s - r) * g s + f r) 0 := (hx s).symm.trans (hr s (by simp [hs]))
        have h2 : Eqv ((s - r) * g s) 0 := (Eqv.of_eq (show (s - r) * g s = (s - r) * g s + f r - f r by grind)).trans ((h1.sub hr0).trans (Eqv.of_eq (by simp)))
        refine eqv_mul_zero h2 fun h3 => hd.1 s hs ?_
        obtain ⟨k, h3⟩ := h3
        exact ⟨-k, by omega⟩
      have h4 := ih rs hg (by simpa using hl) hd.2 hg0 x
      have h5 : Eqv ((x - r) * g x + f r) ((x - r) * 0 + 0) := ((Eqv.refl _).mul h4).add hr0
      exact (hx x).trans (h5.trans (Eqv.of_eq (by simp)))
theorem poly_unique {n : Nat} {f h : Int → Int} (l : List Int) (hf : Poly n f) (hh : Poly n h) (hl : n ≤ l.length) (hd : l.Pairwise (fun a b => ¬ Eqv a b)) (hr : ∀ r ∈ l, Eqv (f r) (h r)) (x : Int) : Eqv (f x) (h x) := by
  have h1 := poly_roots l (poly_sub hf hh) hl hd (fun r hm => ((hr r hm).sub (Eqv.refl _)).trans (Eqv.of_eq (by simp))) x
  exact (Eqv.of_eq (show f x = f x - h x + h x by grind)).trans ((h1.add (Eqv.refl _)).trans (Eqv.of_eq (by simp)))

/-! ### Newton's form -/
/-- The value of a form (points and coefficients) at x. -/
def val : List (Int × Int) → Int → Int
  | [], _ => 0
  | s :: r, x => gadd (gmul (val r x) (gsub x s.1)) s.2
theorem val_cons (s : Int × Int) (r : List (Int × Int)) (x : Int) : Eqv (val (s :: r) x) ((x - s.1) * val r x + s.2) :=
  (gadd_eqv _ _).trans (((gmul_eqv _ _).trans (((Eqv.refl _).mul (gsub_eqv _ _)).trans (Eqv.of_eq (Int.mul_comm _ _)))).add (Eqv.refl _))
theorem val_bd (l : List (Int × Int)) (x : Int) : 0 ≤ val l x ∧ val l x < 2305843009213693951 := by
  cases l with
  | nil => exact ⟨Int.le_refl _, show (0 : Int) < 2305843009213693951 by decide⟩
  | cons s r => exact emod_bd _ (by decide)
theorem val_poly : ∀ l : List (Int × Int), Poly l.length (val l) := by
  intro l
  induction l with
  | nil => exact fun x => Eqv.refl 0
  | cons s r ih => exact poly_congr (val_cons s r) (poly_shift s.1 s.2 ih)
def prodX : List (Int × Int) → Int → Int
  | [], _ => 1
  | s :: r, x => (x - s.1) * prodX r x
theorem val_snoc (s : Int × Int) (x : Int) : ∀ l : List (Int × Int), Eqv (val (l ++ [s]) x) (val l x + s.2 * prodX l x) := by
  intro l
  induction l with
  | nil =>
    refine (val_cons s [] x).trans (Eqv.of_eq ?_)
    simp [val, prodX]
  | cons t r ih =>
    have h1 := val_cons t (r ++ [s]) x
    have h2 := val_cons t r x
    have h3 : Eqv ((x - t.1) * val (r ++ [s]) x + t.2) ((x - t.1) * (val r x + s.2 * prodX r x) + t.2) := ((Eqv.refl _).mul ih).add (Eqv.refl _)
    refine h1.trans (h3.trans ?_)
    refine (Eqv.of_eq (show _ = ((x - t.1) * val r x + t.2) + s.2 * ((x - t.1) * prodX r x) by grind)).trans ?_
    exact h2.symm.add (Eqv.refl _)
theorem prodX_zero (x : Int) : ∀ l : List (Int × Int), (∃ s ∈ l, s.1 = x) → prodX l x = 0 := by
  intro l
  induction l with
  | nil => rintro ⟨s, h, _⟩; cases h
  | cons t r ih =>
    rintro ⟨s, h, hx⟩
    rcases List.mem_cons.1 h with rfl | h
    · subst hx; simp [prodX]
    · simp [prodX, ih ⟨s, h, hx⟩]
theorem prodX_ne (x : Int) : ∀ l : List (Int × Int), (∀ s ∈ l, ¬ Eqv x s.1) → ¬ Eqv (prodX l x) 0 := by
  intro l
  induction l with
  | nil =>
    intro _ h
    rw [eqv_zero] at h
    exact absurd h (by show ¬ (1 : Int) % 2305843009213693951 = 0; decide)
  | cons t r ih =>
    intro h hz
    refine ih (fun s hs => h s (by simp [hs])) (eqv_mul_zero hz fun h3 => h t (by simp) ?_)
    obtain ⟨k, h3⟩ := h3
    exact ⟨k, by omega⟩
/-- The product as the program computes it. -/
def prodI (l : List (Int × Int)) (x : Int) : Int := l.foldl (fun a s => gmul a (gsub x s.1)) 1
theorem prodI_from (x : Int) : ∀ (l : List (Int × Int)) (a : Int), Eqv (l.foldl (fun a s => gmul a (gsub x s.1)) a) (a * prodX l x) := by
  intro l
  induction l with
  | nil => intro a; exact Eqv.of_eq (by simp [prodX])
  | cons t r ih =>
    intro a
    refine (ih _).trans ?_
    exact (((gmul_eqv _ _).trans ((Eqv.refl _).mul (gsub_eqv _ _))).mul (Eqv.refl _)).trans (Eqv.of_eq (by simp [prodX]; grind))
theorem prodI_eqv (l : List (Int × Int)) (x : Int) : Eqv (prodI l x) (prodX l x) := (prodI_from x l 1).trans (Eqv.of_eq (by simp))
/-- One share more. -/
def addPt (l : List (Int × Int)) (s : Int × Int) : List (Int × Int) := l ++ [(s.1, gmul (gsub s.2 (val l s.1)) (ginv (prodI l s.1)))]
def interp (l : List (Int × Int)) : List (Int × Int) := l.foldl addPt []
def Dist (l : List (Int × Int)) : Prop := l.Pairwise fun a b => ¬ Eqv a.1 b.1
theorem addPt_len (l : List (Int × Int)) (s : Int × Int) : (addPt l s).length = l.length + 1 := by simp [addPt]
theorem addPt_fst (l : List (Int × Int)) (s : Int × Int) : (addPt l s).map Prod.fst = l.map Prod.fst ++ [s.1] := by simp [addPt]
theorem addPt_new (l : List (Int × Int)) (s : Int × Int) (h : ∀ t ∈ l, ¬ Eqv s.1 t.1) : Eqv (val (addPt l s) s.1) s.2 := by
  have h1 := val_snoc (s.1, gmul (gsub s.2 (val l s.1)) (ginv (prodI l s.1))) s.1 l
  have hne := prodX_ne s.1 l h
  have hpi := prodI_eqv l s.1
  have hne2 : prodI l s.1 % 2305843009213693951 ≠ 0 := fun h0 => hne (hpi.symm.trans (eqv_zero.2 h0))
  have hinv : Eqv (prodI l s.1 * ginv (prodI l s.1)) 1 := eqv_iff.2 (by rw [ginv_mul _ hne2]; decide)
  have h2 : Eqv (gmul (gsub s.2 (val l s.1)) (ginv (prodI l s.1)) * prodX l s.1) ((s.2 - val l s.1) * 1) := by
    refine (((gmul_eqv _ _).trans ((gsub_eqv _ _).mul (Eqv.refl _))).mul hpi.symm).trans ?_
    exact (Eqv.of_eq (show _ = (s.2 - val l s.1) * (prodI l s.1 * ginv (prodI l s.1)) by grind)).trans ((Eqv.refl _).mul hinv)
  exact h1.trans (((Eqv.refl _).add h2).trans (Eqv.of_eq (by grind)))
theorem addPt_old (l : List (Int × Int)) (s t : Int × Int) (h : ∃ u ∈ l, u.1 = t.1) : Eqv (val (addPt l s) t.1) (val l t.1) := by
  have h1 := val_snoc (s.1, gmul (gsub s.2 (val l s.1)) (ginv (prodI l s.1))) t.1 l
  rw [prodX_zero t.1 l h] at h1
  exact h1.trans (Eqv.of_eq (by simp))
theorem interp_from : ∀ (l done acc : List (Int × Int)), acc.map Prod.fst = done.map Prod.fst → (∀ s ∈ done, Eqv (val acc s.1) s.2) → Dist (done ++ l) →
    (l.foldl addPt acc).map Prod.fst = (done ++ l).map Prod.fst ∧ ∀ s ∈ done ++ l, Eqv (val (l.foldl addPt acc) s.1) s.2 := by
  intro l
  induction l with
  | nil => intro done acc hf hv hd; rw [List.append_nil]; exact ⟨hf, hv⟩
  | cons s r ih =>
    intro done acc hf hv hd
    have hd' : Dist ((done ++ [s]) ++ r) := by simpa using hd
    have hmem : ∀ t ∈ acc, ∃ u ∈ done, u.1 = t.1 := by
      intro t ht
      have h1 : t.1 ∈ done.map Prod.fst := hf ▸ List.mem_map_of_mem ht
      obtain ⟨u, hu, he⟩ := List.mem_map.1 h1
      exact ⟨u, hu, he⟩
    have hmem2 : ∀ t ∈ done, ∃ u ∈ acc, u.1 = t.1 := by
      intro t ht
      have h1 : t.1 ∈ acc.map Prod.fst := hf.symm ▸ List.mem_map_of_mem ht
      obtain ⟨u, hu, he⟩ := List.mem_map.1 h1
      exact ⟨u, hu, he⟩
    have hnew : ∀ t ∈ acc, ¬ Eqv s.1 t.1 := by
      intro t ht he
      obtain ⟨u, hu, hut⟩ := hmem t ht
      have := (List.pairwise_append.1 hd).2.2 u hu s (by simp)
      exact this (by rw [hut]; exact he.symm)
    have h := ih (done ++ [s]) (addPt acc s) (by rw [addPt_fst, hf]; simp) (by
      intro t ht
      rcases List.mem_append.1 ht with ht | ht
      · exact (addPt_old acc s t (hmem2 t ht)).trans (hv t ht)
      · simp at ht
        subst ht
        exact addPt_new acc t hnew) hd'
    simpa using h
theorem interp_fst (l : List (Int × Int)) (hd : Dist l) : (interp l).map Prod.fst = l.map Prod.fst := by
  exact (interp_from l [] [] rfl (by simp) (by simpa using hd)).1
theorem interp_len (l : List (Int × Int)) (hd : Dist l) : (interp l).length = l.length := by
  have := congrArg List.length (interp_fst l hd)
  simpa using this
theorem interp_at (l : List (Int × Int)) (hd : Dist l) (s : Int × Int) (h : s ∈ l) : Eqv (val (interp l) s.1) s.2 := by
  exact (interp_from l [] [] rfl (by simp) (by simpa using hd)).2 s h
/-- The form through the shares is the polynomial that they lie on. -/
theorem interp_unique (l : List (Int × Int)) (hd : Dist l) {f : Int → Int} (hf : Poly l.length f) (h : ∀ s ∈ l, Eqv (f s.1) s.2) (x : Int) : Eqv (val (interp l) x) (f x) := by
  have h1 := val_poly (interp l)
  rw [interp_len l hd] at h1
  refine poly_unique (l.map Prod.fst) h1 hf (by simp) (List.pairwise_map.2 hd) (fun r hr => ?_) x
  obtain ⟨s, hs, rfl⟩ := List.mem_map.1 hr
  exact (interp_at l hd s hs).trans (h s hs).symm
end Go.Proofs.YtppbplchdfhnkaaDoor.Share
