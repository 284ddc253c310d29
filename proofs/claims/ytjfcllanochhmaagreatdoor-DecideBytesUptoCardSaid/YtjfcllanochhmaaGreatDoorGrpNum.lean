/-
  The arithmetic of the group of layer 4, in plain Lean: 2^61 - 1 is a modulus for which 37 generates all nonzero residues. No program in this text.
-/
namespace Go.Proofs.YtjfcllanochhmaaGreatDoor.Grp

/-- Square and multiply: acc * b^e modulo m, with fuel. -/
def mpw (m : Nat) : Nat → Nat → Nat → Nat → Nat
  | 0, acc, _, _ => acc
  | f + 1, acc, b, e => if e = 0 then acc else mpw m f (if e % 2 = 1 then acc * b % m else acc) (b * b % m) (e / 2)

theorem mpw_mod (m : Nat) : ∀ (f acc b e : Nat), e < 2 ^ f → mpw m f acc b e % m = acc * b ^ e % m := by
  intro f
  induction f with
  | zero =>
    intro acc b e he
    have : e = 0 := by omega
    subst this
    simp [mpw]
  | succ f ih =>
    intro acc b e he
    rw [mpw]
    by_cases h0 : e = 0
    · subst h0; simp
    · rw [if_neg h0, ih _ _ _ (by omega)]
      have hs : b ^ e = (b * b) ^ (e / 2) * b ^ (e % 2) := by
        rw [← Nat.pow_two, ← Nat.pow_mul, ← Nat.pow_add, Nat.div_add_mod]
      by_cases h1 : e % 2 = 1
      · rw [if_pos h1, hs, h1, Nat.pow_one, Nat.mul_mod, Nat.mod_mod, ← Nat.pow_mod, ← Nat.mul_mod]
        congr 1
        rw [Nat.mul_assoc, Nat.mul_comm b]
      · have h2 : e % 2 = 0 := by omega
        rw [if_neg h1, hs, h2, Nat.pow_zero, Nat.mul_one, Nat.mul_mod, ← Nat.pow_mod, ← Nat.mul_mod]

theorem mpw_lt (m : Nat) (hm : 0 < m) : ∀ (f acc b e : Nat), acc < m → mpw m f acc b e < m := by
  intro f
  induction f with
  | zero => intro acc b e h; exact h
  | succ f ih =>
    intro acc b e h
    rw [mpw]
    split
    · exact h
    · apply ih
      split
      · exact Nat.mod_lt _ hm
      · exact h

/-- The power of a natural number, modulo 2^61 - 1. -/
def pow (b e : Nat) : Nat := mpw 2305843009213693951 64 1 b e

theorem pow_eq (b e : Nat) (he : e < 18446744073709551616) : pow b e = b ^ e % 2305843009213693951 := by
  have h1 := mpw_mod 2305843009213693951 64 1 b e he
  have h2 := mpw_lt 2305843009213693951 (by decide) 64 1 b e (by decide)
  rw [Nat.mod_eq_of_lt h2, Nat.one_mul] at h1
  exact h1

/-- 37^k is 1. -/
def S (k : Nat) : Prop := 37 ^ k % 2305843009213693951 = 1

theorem S_mul {a : Nat} (h : S a) (k : Nat) : S (a * k) := by
  unfold S at *
  rw [Nat.pow_mul, Nat.pow_mod, h, Nat.one_pow]

theorem S_mod {a b : Nat} (ha : S a) (hb : S b) : S (b % a) := by
  have h1 := S_mul ha (b / a)
  unfold S at *
  have e : 37 ^ b = 37 ^ (a * (b / a)) * 37 ^ (b % a) := by rw [← Nat.pow_add, Nat.div_add_mod]
  rw [e, Nat.mul_mod, h1, Nat.one_mul, Nat.mod_mod] at hb
  exact hb

theorem S_zero : S 0 := by unfold S; decide

theorem S_gcd (a b : Nat) : S a → S b → S (Nat.gcd a b) := by
  induction a, b using Nat.gcd.induction with
  | H0 n => intro _ h; rw [Nat.gcd_zero_left]; exact h
  | H1 m n hm ih =>
    intro h1 h2
    rw [Nat.gcd_rec]
    exact ih (S_mod h1 h2) h1

theorem S_iff (k : Nat) (hk : k < 18446744073709551616) : S k ↔ pow 37 k = 1 := by
  rw [pow_eq _ _ hk]; exact Iff.rfl

theorem S_N : S 2305843009213693950 := (S_iff _ (by decide)).2 (by decide +kernel)

/-- A number above 1 with no divisor but 1 and itself. -/
def Prim (q : Nat) : Prop := ∀ d, d ∣ q → d = 1 ∨ d = q

theorem prim_of (q : Nat) (hq : 0 < q) (h : ∀ d, d < q + 1 → d ∣ q → d = 1 ∨ d = q) : Prim q :=
  fun d hd => h d (Nat.lt_succ_of_le (Nat.le_of_dvd hq hd)) hd

theorem cop_of {q h : Nat} (hp : Prim q) (hn : ¬ q ∣ h) : Nat.Coprime h q := by
  rcases hp (Nat.gcd h q) (Nat.gcd_dvd_right h q) with e | e
  · exact e
  · exact absurd (e ▸ Nat.gcd_dvd_left h q) hn

theorem p2 : Prim 2 := prim_of _ (by decide) (by decide +kernel)
theorem p3 : Prim 3 := prim_of _ (by decide) (by decide +kernel)
theorem p5 : Prim 5 := prim_of _ (by decide) (by decide +kernel)
theorem p7 : Prim 7 := prim_of _ (by decide) (by decide +kernel)
theorem p11 : Prim 11 := prim_of _ (by decide) (by decide +kernel)
theorem p13 : Prim 13 := prim_of _ (by decide) (by decide +kernel)
theorem p31 : Prim 31 := prim_of _ (by decide) (by decide +kernel)
theorem p41 : Prim 41 := prim_of _ (by decide) (by decide +kernel)
theorem p61 : Prim 61 := prim_of _ (by decide) (by decide +kernel)
theorem p151 : Prim 151 := prim_of _ (by decide) (by decide +kernel)
theorem p331 : Prim 331 := prim_of _ (by decide) (by decide +kernel)
theorem p1321 : Prim 1321 := prim_of _ (by decide) (by decide +kernel)

/-- If 37^(N/q) is not 1, then q does not divide the cofactor of a period. -/
theorem not_dvd {g h q r : Nat} (hg : S g) (hN : 2305843009213693950 = g * h) (hr : 2305843009213693950 = r * q) (hq : 0 < q) (hrl : r < 18446744073709551616) (hne : pow 37 r ≠ 1) : ¬ q ∣ h := by
  rintro ⟨c, rfl⟩
  apply hne
  rw [← S_iff _ hrl]
  have : r = g * c := by
    have h1 : r * q = g * c * q := by rw [← hr, hN, Nat.mul_assoc, Nat.mul_comm c q]
    exact Nat.eq_of_mul_eq_mul_right hq h1
  rw [this]
  exact S_mul hg c

theorem order_of {k : Nat} (hk : S k) : 2305843009213693950 ∣ k := by
  have hg := S_gcd k 2305843009213693950 hk S_N
  obtain ⟨h, hN⟩ := Nat.gcd_dvd_right k 2305843009213693950
  have hcop : Nat.Coprime h 2305843009213693950 := by
    have e : 2305843009213693950 = 2 * (3 * (3 * (5 * (5 * (7 * (11 * (13 * (31 * (41 * (61 * (151 * (331 * 1321)))))))))))) := by decide +kernel
    rw [e]
    have c2 := cop_of p2 (not_dvd hg hN (r := 1152921504606846975) (by decide +kernel) (by decide) (by decide) (by decide +kernel))
    have c3 := cop_of p3 (not_dvd hg hN (r := 768614336404564650) (by decide +kernel) (by decide) (by decide) (by decide +kernel))
    have c5 := cop_of p5 (not_dvd hg hN (r := 461168601842738790) (by decide +kernel) (by decide) (by decide) (by decide +kernel))
    have c7 := cop_of p7 (not_dvd hg hN (r := 329406144173384850) (by decide +kernel) (by decide) (by decide) (by decide +kernel))
    have c11 := cop_of p11 (not_dvd hg hN (r := 209622091746699450) (by decide +kernel) (by decide) (by decide) (by decide +kernel))
    have c13 := cop_of p13 (not_dvd hg hN (r := 177372539170284150) (by decide +kernel) (by decide) (by decide) (by decide +kernel))
    have c31 := cop_of p31 (not_dvd hg hN (r := 74382032555280450) (by decide +kernel) (by decide) (by decide) (by decide +kernel))
    have c41 := cop_of p41 (not_dvd hg hN (r := 56240073395455950) (by decide +kernel) (by decide) (by decide) (by decide +kernel))
    have c61 := cop_of p61 (not_dvd hg hN (r := 37800705069076950) (by decide +kernel) (by decide) (by decide) (by decide +kernel))
    have c151 := cop_of p151 (not_dvd hg hN (r := 15270483504726450) (by decide +kernel) (by decide) (by decide) (by decide +kernel))
    have c331 := cop_of p331 (not_dvd hg hN (r := 6966293079195450) (by decide +kernel) (by decide) (by decide) (by decide +kernel))
    have c1321 := cop_of p1321 (not_dvd hg hN (r := 1745528394559950) (by decide +kernel) (by decide) (by decide) (by decide +kernel))
    exact c2.mul_right (c3.mul_right (c3.mul_right (c5.mul_right (c5.mul_right (c7.mul_right (c11.mul_right (c13.mul_right (c31.mul_right (c41.mul_right (c61.mul_right (c151.mul_right (c331.mul_right c1321))))))))))))
  have h1 : h = 1 := Nat.Coprime.eq_one_of_dvd hcop ⟨Nat.gcd k 2305843009213693950, by rw [Nat.mul_comm]; exact hN⟩
  subst h1
  rw [Nat.mul_one] at hN
  rw [hN]
  exact Nat.gcd_dvd_left k _

/-- An injective map of the numbers below n into themselves meets each of them. -/
theorem pigeon : ∀ (n : Nat) (f : Nat → Nat), (∀ i, i < n → f i < n) → (∀ i j, i < n → j < n → f i = f j → i = j) → ∀ y, y < n → ∃ i, i < n ∧ f i = y := by
  intro n
  induction n with
  | zero => intro f _ _ y hy; omega
  | succ n ih =>
    intro f hf hi y hy
    by_cases hv : f n = n
    · by_cases hyn : y = n
      · exact ⟨n, by omega, by omega⟩
      · obtain ⟨i, hin, e⟩ := ih f (fun i h => by
          have h1 := hf i (by omega)
          have h2 : f i ≠ n := fun e => by have := hi i n (by omega) (by omega) (by omega); omega
          omega) (fun i j h1 h2 e => hi i j (by omega) (by omega) e) y (by omega)
        exact ⟨i, by omega, e⟩
    · have hvn : f n < n := by have := hf n (by omega); omega
      have hg := ih (fun i => if f i = n then f n else f i) (fun i h => by
          have h1 := hf i (by omega)
          show (if f i = n then f n else f i) < n
          split <;> omega) (fun i j h1 h2 e => by
          have e' : (if f i = n then f n else f i) = (if f j = n then f n else f j) := e
          by_cases a : f i = n <;> by_cases b : f j = n <;> simp only [a, b, if_true, if_false] at e'
          · exact hi i j (by omega) (by omega) (by omega)
          · have := hi n j (by omega) (by omega) e'; omega
          · have := hi i n (by omega) (by omega) e'; omega
          · exact hi i j (by omega) (by omega) e')
      by_cases hyn : y = n
      · obtain ⟨i, hin, e⟩ := hg (f n) hvn
        have e' : (if f i = n then f n else f i) = f n := e
        by_cases a : f i = n
        · exact ⟨i, by omega, by omega⟩
        · rw [if_neg a] at e'
          have := hi i n (by omega) (by omega) e'; omega
      · obtain ⟨i, hin, e⟩ := hg y (by omega)
        have e' : (if f i = n then f n else f i) = y := e
        by_cases a : f i = n
        · rw [if_pos a] at e'
          exact ⟨n, by omega, e'⟩
        · rw [if_neg a] at e'
          exact ⟨i, by omega, e'⟩

theorem g_inv (k : Nat) : 37 ^ k * 37 ^ (k * 2305843009213693949) % 2305843009213693951 = 1 := by
  rw [← Nat.pow_add]
  have e : k + k * 2305843009213693949 = 2305843009213693950 * k := by omega
  rw [e]
  exact S_mul S_N k

theorem g_ne (k : Nat) : 37 ^ k % 2305843009213693951 ≠ 0 := by
  intro h
  have h1 := g_inv k
  rw [Nat.mul_mod, h, Nat.zero_mul] at h1
  exact absurd h1 (by decide)

theorem g_sub {d e : Nat} (hde : d ≤ e) (h : 37 ^ d % 2305843009213693951 = 37 ^ e % 2305843009213693951) : S (e - d) := by
  have h1 : 37 ^ e = 37 ^ d * 37 ^ (e - d) := by rw [← Nat.pow_add]; congr 1; omega
  have h2 := g_inv d
  rw [Nat.mul_mod, h, ← Nat.mul_mod, h1] at h2
  have h3 : 37 ^ d * 37 ^ (e - d) * 37 ^ (d * 2305843009213693949) = 37 ^ (e - d) * (37 ^ d * 37 ^ (d * 2305843009213693949)) := by
    rw [Nat.mul_comm (37 ^ d), Nat.mul_assoc]
  rw [h3, Nat.mul_mod, g_inv d, Nat.mul_one, Nat.mod_mod] at h2
  exact h2

/-- Powers of 37 are equal exactly if the exponents are equal modulo N. -/
theorem g_inj {d e : Nat} (h : 37 ^ d % 2305843009213693951 = 37 ^ e % 2305843009213693951) : d % 2305843009213693950 = e % 2305843009213693950 := by
  rcases Nat.le_total d e with hde | hde
  · have := order_of (g_sub hde h); omega
  · have := order_of (g_sub hde h.symm); omega

theorem is_pow (a : Nat) (h0 : a % 2305843009213693951 ≠ 0) : ∃ i, a % 2305843009213693951 = 37 ^ i % 2305843009213693951 := by
  have key := pigeon 2305843009213693950 (fun i => 37 ^ i % 2305843009213693951 - 1) (fun i _ => by
      have h1 := g_ne i
      have h2 : 37 ^ i % 2305843009213693951 < 2305843009213693951 := Nat.mod_lt _ (by decide)
      show 37 ^ i % 2305843009213693951 - 1 < 2305843009213693950
      omega) (fun i j hi hj e => by
      have h1 := g_ne i
      have h2 := g_ne j
      have e' : 37 ^ i % 2305843009213693951 - 1 = 37 ^ j % 2305843009213693951 - 1 := e
      have h3 : 37 ^ i % 2305843009213693951 = 37 ^ j % 2305843009213693951 := by omega
      have := g_inj h3
      omega) (a % 2305843009213693951 - 1) (by
      have h2 : a % 2305843009213693951 < 2305843009213693951 := Nat.mod_lt _ (by decide)
      omega)
  obtain ⟨i, _, e⟩ := key
  have e' : 37 ^ i % 2305843009213693951 - 1 = a % 2305843009213693951 - 1 := e
  have h1 := g_ne i
  exact ⟨i, by omega⟩

/-- N and N - 1, under names (as exponents). -/
def NN : Nat := 2305843009213693950
def NM : Nat := 2305843009213693949
theorem NN_eq : NN = NM + 1 := rfl

/-- Fermat. -/
theorem fermat (a : Nat) (h0 : a % 2305843009213693951 ≠ 0) : a ^ NN % 2305843009213693951 = 1 := by
  obtain ⟨i, e⟩ := is_pow a h0
  rw [Nat.pow_mod, e, ← Nat.pow_mod, ← Nat.pow_mul, Nat.mul_comm]
  have h := S_mul S_N i
  unfold S at h
  unfold NN
  exact h

theorem mul_ne (a b : Nat) (ha : a % 2305843009213693951 ≠ 0) (hb : b % 2305843009213693951 ≠ 0) : a * b % 2305843009213693951 ≠ 0 := by
  obtain ⟨i, e⟩ := is_pow a ha
  obtain ⟨j, e'⟩ := is_pow b hb
  rw [Nat.mul_mod, e, e', ← Nat.mul_mod, ← Nat.pow_add]
  exact g_ne _

/-- The inverse by a power. -/
theorem inv_pow (a : Nat) (h0 : a % 2305843009213693951 ≠ 0) : a * a ^ NM % 2305843009213693951 = 1 := by
  have h := fermat a h0
  rwa [NN_eq, Nat.pow_succ, Nat.mul_comm] at h

/-- Exponents count modulo N. -/
theorem exp_mod (a : Nat) (h0 : a % 2305843009213693951 ≠ 0) (e : Nat) : a ^ (e % NN) % 2305843009213693951 = a ^ e % 2305843009213693951 := by
  have hs : a ^ e = (a ^ NN) ^ (e / NN) * a ^ (e % NN) := by
    rw [← Nat.pow_mul, ← Nat.pow_add, Nat.div_add_mod]
  have h2 : (a ^ NN) ^ (e / NN) % 2305843009213693951 = 1 := by
    rw [Nat.pow_mod, fermat a h0, Nat.one_pow]
  rw [hs, Nat.mul_mod, h2, Nat.one_mul, Nat.mod_mod]

theorem pow_ne (a : Nat) (h0 : a % 2305843009213693951 ≠ 0) (e : Nat) : a ^ e % 2305843009213693951 ≠ 0 := by
  obtain ⟨i, h⟩ := is_pow a h0
  rw [Nat.pow_mod, h, ← Nat.pow_mod, ← Nat.pow_mul]
  exact g_ne _

end Go.Proofs.YtjfcllanochhmaaGreatDoor.Grp
