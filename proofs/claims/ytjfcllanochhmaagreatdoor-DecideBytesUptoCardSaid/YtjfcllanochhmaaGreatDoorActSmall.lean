/-
  An activity that is right is small: the sizes of its texts and lists, the ranges of its integers.
-/
import Derived.Test.YtjfcllanochhmaaGreatDoorItemSpec
set_option linter.unusedVariables false
set_option linter.unusedSimpArgs false
namespace Go.Proofs.YtjfcllanochhmaaGreatDoor.Item
open Go.RowKit Grp Mem _root_.Go.Proofs.YtjfcllanochhmaaGreatDoor.Code Sha Sign

def usedU (b0 b1 b2 b3 b4 b5 b6 b7 b8 b9 b10 : Bool) : Int :=
  orIf (orIf (orIf (orIf (orIf (orIf (orIf (orIf (orIf (orIf (orIf 0 1 b0) 2 b1) 4 b2) 8 b3) 16 b4) 32 b5) 64 b6) 128 b7) 256 b8) 512 b9) 1024 b10
def inMask (m : Int) (i : Nat) : Bool := decide (m.toNat / 2 ^ i % 2 = 1)
def maskOk (m : Int) (b0 b1 b2 b3 b4 b5 b6 b7 b8 b9 b10 : Bool) : Bool :=
  conj [b0 || inMask m 0, b1 || inMask m 1, b2 || inMask m 2, b3 || inMask m 3, b4 || inMask m 4, b5 || inMask m 5, b6 || inMask m 6, b7 || inMask m 7, b8 || inMask m 8, b9 || inMask m 9, b10 || inMask m 10]
theorem mask_ok : ∀ (k : Fin 24) (b0 b1 b2 b3 b4 b5 b6 b7 b8 b9 b10 : Bool), decide (bits .andNot .i64 (usedU b0 b1 b2 b3 b4 b5 b6 b7 b8 b9 b10) (ruleF k) = 0) = maskOk (ruleF k) b0 b1 b2 b3 b4 b5 b6 b7 b8 b9 b10 := by decide +kernel
theorem usedI_eq (a : ActR) : usedI a = usedU (noneB a.object) (noneB a.target) (decide (a.scope = 0)) (noneB a.group) (decide (a.to.length = 0)) (noneB a.text) (bodyNone a) (decide (a.epoch = 0)) (decide (a.wraps.length = 0)) (decide (a.n = 0)) (decide (a.m = 0)) := rfl
theorem mask_of (a : ActR) (k : Nat) (hk : k < 24) : decide (bits .andNot .i64 (usedI a) (ruleF k) = 0) = maskOk (ruleF k) (noneB a.object) (noneB a.target) (decide (a.scope = 0)) (noneB a.group) (decide (a.to.length = 0)) (noneB a.text) (bodyNone a) (decide (a.epoch = 0)) (decide (a.wraps.length = 0)) (decide (a.n = 0)) (decide (a.m = 0)) := by
  rw [usedI_eq]
  exact mask_ok ⟨k, hk⟩ _ _ _ _ _ _ _ _ _ _ _

structure SmallAct (a : ActR) : Prop where
  author : a.author.size ≤ 16
  prev : a.prev.size ≤ 32
  object : a.object.size ≤ 32
  target : a.target.size ≤ 16
  group : a.group.size ≤ 24
  text : a.text.size ≤ 500
  body : a.bn.size ≤ 32 ∧ a.bd.size ≤ 500 ∧ a.bt.size ≤ 16
  to : a.to.length ≤ 64
  ids : ∀ s ∈ a.to, s.size ≤ 16
  wraps : a.wraps.length ≤ 64
  each : ∀ v ∈ a.wraps, wrapOk v = true
  seq : 0 ≤ a.seq ∧ a.seq ≤ 1073741824
  kind : 0 ≤ a.kind ∧ a.kind < 24
  time : 0 ≤ a.time ∧ a.time ≤ 1099511627776
  scope : 0 ≤ a.scope ∧ a.scope ≤ 3
  epoch : 0 ≤ a.epoch ∧ a.epoch ≤ 1073741824
  n : 0 ≤ a.n ∧ a.n ≤ 2305843009213693950
  m : 0 ≤ a.m ∧ a.m ≤ 2305843009213693950
  e : 0 ≤ a.e ∧ a.e ≤ 2305843009213693949
  s : 0 ≤ a.s ∧ a.s ≤ 2305843009213693949

theorem idB_size {s : ByteArray} (h : idB s = true) : s.size = 16 := by
  simp [idB] at h
  exact h.1
theorem nameB_size {s : ByteArray} (h : nameB s = true) : s.size ≤ 24 := by
  simp [nameB] at h
  exact h.1
theorem idsB_facts {l : List ByteArray} (h : idsB l = true) : l.length ≤ 64 ∧ ∀ s ∈ l, s.size ≤ 16 := by
  simp [idsB] at h
  exact ⟨h.1.1, fun s hs => by rw [idB_size (h.1.2 s hs)]; exact Nat.le_refl _⟩
theorem noneB_size {s : ByteArray} (h : noneB s = true) : s.size = 0 := by simpa [noneB] using h
theorem sealedB_facts {n d t : ByteArray} (h : sealedB n d t = true) : n.size ≤ 32 ∧ d.size ≤ 500 ∧ t.size ≤ 16 := by
  simp [sealedB, shortB] at h
  omega
theorem bodyNone_facts {a : ActR} (h : bodyNone a = true) : a.bn.size ≤ 32 ∧ a.bd.size ≤ 500 ∧ a.bt.size ≤ 16 := by
  simp only [bodyNone, Bool.and_eq_true] at h
  have h1 := noneB_size h.1
  have h2 := noneB_size h.2.1
  have h3 := noneB_size h.2.2
  omega
theorem scope_facts {n : Int} {s : ByteArray} (h : sealedScopeB n s = true) : 0 ≤ n ∧ n ≤ 3 ∧ s.size ≤ 24 := by
  unfold sealedScopeB at h
  split at h
  · have := nameB_size h
    omega
  · split at h
    · have := noneB_size h
      omega
    · cases h
theorem audience_facts {a : ActR} (h : audienceB a = true) : (a.to.length ≤ 64 ∧ ∀ s ∈ a.to, s.size ≤ 16) ∧ a.group.size ≤ 24 ∧ (0 ≤ a.epoch ∧ a.epoch ≤ 1073741824) ∧ a.text.size ≤ 500 ∧ (a.bn.size ≤ 32 ∧ a.bd.size ≤ 500 ∧ a.bt.size ≤ 16) ∧ 0 ≤ a.scope ∧ a.scope ≤ 3 := by
  unfold audienceB at h
  rw [Bool.and_eq_true] at h
  refine ⟨idsB_facts h.1, ?_⟩
  have h2 := h.2
  split at h2
  · simp only [Bool.and_eq_true, decide_eq_true_eq] at h2
    obtain ⟨h3, h4, h5, h6⟩ := h2
    have := noneB_size h3
    have := bodyNone_facts h6
    simp [shortB] at h5
    omega
  · simp only [Bool.and_eq_true, decide_eq_true_eq] at h2
    obtain ⟨-, h3, h4, h5, h6⟩ := h2
    have := scope_facts h3
    have := noneB_size h5
    have := sealedB_facts h6
    simp [withinB] at h4
    omega
theorem wrapped_facts {a : ActR} (h : wrappedB a = true) : (∀ v ∈ a.wraps, wrapOk v = true) ∧ a.wraps.length = a.to.length := by
  simp [wrappedB] at h
  exact ⟨h.1, h.2⟩
theorem nil_all {α : Type} {l : List α} (h : l.length = 0) (p : α → Prop) : ∀ v ∈ l, p v := by
  intro v hv
  rw [List.eq_nil_of_length_eq_zero h] at hv
  cases hv
theorem mask_imp {m : Int} {b0 b1 b2 b3 b4 b5 b6 b7 b8 b9 b10 : Bool} (h : maskOk m b0 b1 b2 b3 b4 b5 b6 b7 b8 b9 b10 = true) : (inMask m 0 = false → b0 = true) ∧ (inMask m 1 = false → b1 = true) ∧ (inMask m 2 = false → b2 = true) ∧ (inMask m 3 = false → b3 = true) ∧ (inMask m 4 = false → b4 = true) ∧ (inMask m 5 = false → b5 = true) ∧ (inMask m 6 = false → b6 = true) ∧ (inMask m 7 = false → b7 = true) ∧ (inMask m 8 = false → b8 = true) ∧ (inMask m 9 = false → b9 = true) ∧ (inMask m 10 = false → b10 = true) := by
  simp only [maskOk, conj, List.foldr, Bool.and_eq_true, Bool.or_eq_true] at h
  obtain ⟨h0, h1, h2, h3, h4, h5, h6, h7, h8, h9, h10, -⟩ := h
  refine ⟨?_, ?_, ?_, ?_, ?_, ?_, ?_, ?_, ?_, ?_, ?_⟩ <;> (intro hm; simp_all)
structure Small11 (a : ActR) : Prop where
  object : a.object.size ≤ 32
  target : a.target.size ≤ 16
  scope : 0 ≤ a.scope ∧ a.scope ≤ 3
  group : a.group.size ≤ 24
  to : a.to.length ≤ 64 ∧ ∀ s ∈ a.to, s.size ≤ 16
  text : a.text.size ≤ 500
  body : a.bn.size ≤ 32 ∧ a.bd.size ≤ 500 ∧ a.bt.size ≤ 16
  epoch : 0 ≤ a.epoch ∧ a.epoch ≤ 1073741824
  wraps : a.wraps.length ≤ 64 ∧ ∀ v ∈ a.wraps, wrapOk v = true
  n : 0 ≤ a.n ∧ a.n ≤ 2305843009213693950
  m : 0 ≤ a.m ∧ a.m ≤ 2305843009213693950
theorem objectB_size {a : ActR} (h : objectB a = true) : a.object.size ≤ 32 := by
  simp [objectB, digestB] at h
  omega
theorem targetB_size {a : ActR} (h : targetB a = true) : a.target.size ≤ 16 := by
  have := idB_size h
  omega
theorem shortB_size {s : ByteArray} (h : shortB s = true) : s.size ≤ 500 := by simpa [shortB] using h
theorem publicB_facts {n : Int} (h : publicB n = true) : 0 ≤ n ∧ n ≤ 2305843009213693950 := by
  simp [publicB, withinB] at h
  omega
theorem within_facts {n lo hi : Int} (h : withinB n lo hi = true) : lo ≤ n ∧ n ≤ hi := by simpa [withinB] using h
theorem none_le {s : ByteArray} (k : Nat) (h : noneB s = true) : s.size ≤ k := by
  have := noneB_size h
  omega
theorem zero_le (k : Int) (hk : 0 ≤ k) {n : Int} (h : decide (n = 0) = true) : 0 ≤ n ∧ n ≤ k := by
  simp at h
  omega
theorem len_zero {α : Type} {l : List α} (h : decide (l.length = 0) = true) : l.length = 0 := by simpa using h
theorem small11 (a : ActR) : ∀ k, k < 24 → maskOk (ruleF k) (noneB a.object) (noneB a.target) (decide (a.scope = 0)) (noneB a.group) (decide (a.to.length = 0)) (noneB a.text) (bodyNone a) (decide (a.epoch = 0)) (decide (a.wraps.length = 0)) (decide (a.n = 0)) (decide (a.m = 0)) = true → ruleB k a = true → Small11 a := by
  intro k hk hm hr
  obtain ⟨z0, z1, z2, z3, z4, z5, z6, z7, z8, z9, z10⟩ := mask_imp hm
  clear hm
  match k, hk with
  | 0, _ =>
    simp only [ruleB, homeB, Bool.and_eq_true] at hr
    have hh := hr.2
    exact ⟨none_le _ (z0 rfl), none_le _ (z1 rfl), zero_le _ (by decide) (z2 rfl), none_le _ (z3 rfl), ⟨by rw [len_zero (z4 rfl)]; decide, nil_all (len_zero (z4 rfl)) _⟩, by have := nameB_size hr.1; omega, bodyNone_facts (z6 rfl), zero_le _ (by decide) (z7 rfl), ⟨by rw [len_zero (z8 rfl)]; decide, nil_all (len_zero (z8 rfl)) _⟩, publicB_facts hh.1, ⟨(within_facts hh.2).1, by have := (within_facts hh.2).2; omega⟩⟩
  | 1, _ =>
    simp only [ruleB] at hr
    exact ⟨none_le _ (z0 rfl), none_le _ (z1 rfl), (audience_facts hr).2.2.2.2.2, (audience_facts hr).2.1, (audience_facts hr).1, (audience_facts hr).2.2.2.1, (audience_facts hr).2.2.2.2.1, (audience_facts hr).2.2.1, ⟨by rw [len_zero (z8 rfl)]; decide, nil_all (len_zero (z8 rfl)) _⟩, zero_le _ (by decide) (z9 rfl), zero_le _ (by decide) (z10 rfl)⟩
  | 2, _ =>
    simp only [ruleB, Bool.and_eq_true] at hr
    exact ⟨objectB_size hr.1, none_le _ (z1 rfl), (audience_facts hr.2).2.2.2.2.2, (audience_facts hr.2).2.1, (audience_facts hr.2).1, (audience_facts hr.2).2.2.2.1, (audience_facts hr.2).2.2.2.2.1, (audience_facts hr.2).2.2.1, ⟨by rw [len_zero (z8 rfl)]; decide, nil_all (len_zero (z8 rfl)) _⟩, zero_le _ (by decide) (z9 rfl), zero_le _ (by decide) (z10 rfl)⟩
  | 3, _ =>
    simp only [ruleB, Bool.and_eq_true] at hr
    exact ⟨objectB_size hr.1, none_le _ (z1 rfl), (audience_facts hr.2).2.2.2.2.2, (audience_facts hr.2).2.1, (audience_facts hr.2).1, (audience_facts hr.2).2.2.2.1, (audience_facts hr.2).2.2.2.2.1, (audience_facts hr.2).2.2.1, ⟨by rw [len_zero (z8 rfl)]; decide, nil_all (len_zero (z8 rfl)) _⟩, zero_le _ (by decide) (z9 rfl), zero_le _ (by decide) (z10 rfl)⟩
  | 4, _ =>
    simp only [ruleB] at hr
    exact ⟨objectB_size hr, none_le _ (z1 rfl), zero_le _ (by decide) (z2 rfl), none_le _ (z3 rfl), ⟨by rw [len_zero (z4 rfl)]; decide, nil_all (len_zero (z4 rfl)) _⟩, none_le _ (z5 rfl), bodyNone_facts (z6 rfl), zero_le _ (by decide) (z7 rfl), ⟨by rw [len_zero (z8 rfl)]; decide, nil_all (len_zero (z8 rfl)) _⟩, zero_le _ (by decide) (z9 rfl), zero_le _ (by decide) (z10 rfl)⟩
  | 5, _ =>
    simp only [ruleB] at hr
    exact ⟨objectB_size hr, none_le _ (z1 rfl), zero_le _ (by decide) (z2 rfl), none_le _ (z3 rfl), ⟨by rw [len_zero (z4 rfl)]; decide, nil_all (len_zero (z4 rfl)) _⟩, none_le _ (z5 rfl), bodyNone_facts (z6 rfl), zero_le _ (by decide) (z7 rfl), ⟨by rw [len_zero (z8 rfl)]; decide, nil_all (len_zero (z8 rfl)) _⟩, zero_le _ (by decide) (z9 rfl), zero_le _ (by decide) (z10 rfl)⟩
  | 6, _ =>
    simp only [ruleB] at hr
    exact ⟨objectB_size hr, none_le _ (z1 rfl), zero_le _ (by decide) (z2 rfl), none_le _ (z3 rfl), ⟨by rw [len_zero (z4 rfl)]; decide, nil_all (len_zero (z4 rfl)) _⟩, none_le _ (z5 rfl), bodyNone_facts (z6 rfl), zero_le _ (by decide) (z7 rfl), ⟨by rw [len_zero (z8 rfl)]; decide, nil_all (len_zero (z8 rfl)) _⟩, zero_le _ (by decide) (z9 rfl), zero_le _ (by decide) (z10 rfl)⟩
  | 7, _ =>
    simp only [ruleB] at hr
    exact ⟨none_le _ (z0 rfl), targetB_size hr, zero_le _ (by decide) (z2 rfl), none_le _ (z3 rfl), ⟨by rw [len_zero (z4 rfl)]; decide, nil_all (len_zero (z4 rfl)) _⟩, none_le _ (z5 rfl), bodyNone_facts (z6 rfl), zero_le _ (by decide) (z7 rfl), ⟨by rw [len_zero (z8 rfl)]; decide, nil_all (len_zero (z8 rfl)) _⟩, zero_le _ (by decide) (z9 rfl), zero_le _ (by decide) (z10 rfl)⟩
  | 8, _ =>
    simp only [ruleB] at hr
    exact ⟨none_le _ (z0 rfl), targetB_size hr, zero_le _ (by decide) (z2 rfl), none_le _ (z3 rfl), ⟨by rw [len_zero (z4 rfl)]; decide, nil_all (len_zero (z4 rfl)) _⟩, none_le _ (z5 rfl), bodyNone_facts (z6 rfl), zero_le _ (by decide) (z7 rfl), ⟨by rw [len_zero (z8 rfl)]; decide, nil_all (len_zero (z8 rfl)) _⟩, zero_le _ (by decide) (z9 rfl), zero_le _ (by decide) (z10 rfl)⟩
  | 9, _ =>
    simp only [ruleB] at hr
    exact ⟨none_le _ (z0 rfl), targetB_size hr, zero_le _ (by decide) (z2 rfl), none_le _ (z3 rfl), ⟨by rw [len_zero (z4 rfl)]; decide, nil_all (len_zero (z4 rfl)) _⟩, none_le _ (z5 rfl), bodyNone_facts (z6 rfl), zero_le _ (by decide) (z7 rfl), ⟨by rw [len_zero (z8 rfl)]; decide, nil_all (len_zero (z8 rfl)) _⟩, zero_le _ (by decide) (z9 rfl), zero_le _ (by decide) (z10 rfl)⟩
  | 10, _ =>
    simp only [ruleB] at hr
    exact ⟨none_le _ (z0 rfl), targetB_size hr, zero_le _ (by decide) (z2 rfl), none_le _ (z3 rfl), ⟨by rw [len_zero (z4 rfl)]; decide, nil_all (len_zero (z4 rfl)) _⟩, none_le _ (z5 rfl), bodyNone_facts (z6 rfl), zero_le _ (by decide) (z7 rfl), ⟨by rw [len_zero (z8 rfl)]; decide, nil_all (len_zero (z8 rfl)) _⟩, zero_le _ (by decide) (z9 rfl), zero_le _ (by decide) (z10 rfl)⟩
  | 11, _ =>
    simp only [ruleB] at hr
    exact ⟨none_le _ (z0 rfl), targetB_size hr, zero_le _ (by decide) (z2 rfl), none_le _ (z3 rfl), ⟨by rw [len_zero (z4 rfl)]; decide, nil_all (len_zero (z4 rfl)) _⟩, none_le _ (z5 rfl), bodyNone_facts (z6 rfl), zero_le _ (by decide) (z7 rfl), ⟨by rw [len_zero (z8 rfl)]; decide, nil_all (len_zero (z8 rfl)) _⟩, zero_le _ (by decide) (z9 rfl), zero_le _ (by decide) (z10 rfl)⟩
  | 12, _ =>
    simp only [ruleB, Bool.and_eq_true] at hr
    exact ⟨objectB_size hr.1, none_le _ (z1 rfl), zero_le _ (by decide) (z2 rfl), none_le _ (z3 rfl), ⟨by rw [len_zero (z4 rfl)]; decide, nil_all (len_zero (z4 rfl)) _⟩, shortB_size hr.2, bodyNone_facts (z6 rfl), zero_le _ (by decide) (z7 rfl), ⟨by rw [len_zero (z8 rfl)]; decide, nil_all (len_zero (z8 rfl)) _⟩, zero_le _ (by decide) (z9 rfl), zero_le _ (by decide) (z10 rfl)⟩
  | 13, _ =>
    simp only [ruleB] at hr
    exact ⟨objectB_size hr, none_le _ (z1 rfl), zero_le _ (by decide) (z2 rfl), none_le _ (z3 rfl), ⟨by rw [len_zero (z4 rfl)]; decide, nil_all (len_zero (z4 rfl)) _⟩, none_le _ (z5 rfl), bodyNone_facts (z6 rfl), zero_le _ (by decide) (z7 rfl), ⟨by rw [len_zero (z8 rfl)]; decide, nil_all (len_zero (z8 rfl)) _⟩, zero_le _ (by decide) (z9 rfl), zero_le _ (by decide) (z10 rfl)⟩
  | 14, _ =>
    simp only [ruleB, Bool.and_eq_true] at hr
    exact ⟨objectB_size hr.1, none_le _ (z1 rfl), (audience_facts hr.2).2.2.2.2.2, (audience_facts hr.2).2.1, (audience_facts hr.2).1, (audience_facts hr.2).2.2.2.1, (audience_facts hr.2).2.2.2.2.1, (audience_facts hr.2).2.2.1, ⟨by rw [len_zero (z8 rfl)]; decide, nil_all (len_zero (z8 rfl)) _⟩, zero_le _ (by decide) (z9 rfl), zero_le _ (by decide) (z10 rfl)⟩
  | 15, _ =>
    simp only [ruleB, Bool.and_eq_true] at hr
    exact ⟨none_le _ (z0 rfl), none_le _ (z1 rfl), zero_le _ (by decide) (z2 rfl), nameB_size hr.1, idsB_facts hr.2, none_le _ (z5 rfl), bodyNone_facts (z6 rfl), zero_le _ (by decide) (z7 rfl), ⟨by rw [len_zero (z8 rfl)]; decide, nil_all (len_zero (z8 rfl)) _⟩, zero_le _ (by decide) (z9 rfl), zero_le _ (by decide) (z10 rfl)⟩
  | 16, _ =>
    simp only [ruleB, grantB, Bool.and_eq_true] at hr
    obtain ⟨r1, r2, r3, r4⟩ := hr
    exact ⟨none_le _ (z0 rfl), none_le _ (z1 rfl), ⟨(scope_facts r1).1, (scope_facts r1).2.1⟩, (scope_facts r1).2.2, idsB_facts r3, none_le _ (z5 rfl), bodyNone_facts (z6 rfl), within_facts r2, ⟨by rw [(wrapped_facts r4).2]; exact (idsB_facts r3).1, (wrapped_facts r4).1⟩, zero_le _ (by decide) (z9 rfl), zero_le _ (by decide) (z10 rfl)⟩
  | 17, _ =>
    simp only [ruleB, labelB, Bool.and_eq_true, Bool.or_eq_true] at hr
    exact ⟨by rcases hr.2 with h | h; exact objectB_size h.1; exact none_le _ h.2, by rcases hr.2 with h | h; exact none_le _ h.2; exact targetB_size h.1, zero_le _ (by decide) (z2 rfl), none_le _ (z3 rfl), ⟨by rw [len_zero (z4 rfl)]; decide, nil_all (len_zero (z4 rfl)) _⟩, by have := nameB_size hr.1; omega, bodyNone_facts (z6 rfl), zero_le _ (by decide) (z7 rfl), ⟨by rw [len_zero (z8 rfl)]; decide, nil_all (len_zero (z8 rfl)) _⟩, zero_le _ (by decide) (z9 rfl), zero_le _ (by decide) (z10 rfl)⟩
  | 18, _ =>
    simp only [ruleB, homeB, Bool.and_eq_true] at hr
    have hh := hr
    exact ⟨none_le _ (z0 rfl), none_le _ (z1 rfl), zero_le _ (by decide) (z2 rfl), none_le _ (z3 rfl), ⟨by rw [len_zero (z4 rfl)]; decide, nil_all (len_zero (z4 rfl)) _⟩, none_le _ (z5 rfl), bodyNone_facts (z6 rfl), zero_le _ (by decide) (z7 rfl), ⟨by rw [len_zero (z8 rfl)]; decide, nil_all (len_zero (z8 rfl)) _⟩, publicB_facts hh.1, ⟨(within_facts hh.2).1, by have := (within_facts hh.2).2; omega⟩⟩
  | 19, _ =>
    simp only [ruleB, setupB, Bool.and_eq_true, decide_eq_true_eq] at hr
    obtain ⟨r1, r2, r3, r4, r5⟩ := hr
    exact ⟨none_le _ (z0 rfl), none_le _ (z1 rfl), zero_le _ (by decide) (z2 rfl), none_le _ (z3 rfl), idsB_facts r2, none_le _ (z5 rfl), bodyNone_facts (z6 rfl), zero_le _ (by decide) (z7 rfl), ⟨by rw [(wrapped_facts r3).2]; exact (idsB_facts r2).1, (wrapped_facts r3).1⟩, by have h1 := within_facts r4; have h2 := (idsB_facts r2).1; omega, publicB_facts r5⟩
  | 20, _ =>
    simp only [ruleB] at hr
    exact ⟨objectB_size hr, none_le _ (z1 rfl), zero_le _ (by decide) (z2 rfl), none_le _ (z3 rfl), ⟨by rw [len_zero (z4 rfl)]; decide, nil_all (len_zero (z4 rfl)) _⟩, none_le _ (z5 rfl), bodyNone_facts (z6 rfl), zero_le _ (by decide) (z7 rfl), ⟨by rw [len_zero (z8 rfl)]; decide, nil_all (len_zero (z8 rfl)) _⟩, zero_le _ (by decide) (z9 rfl), zero_le _ (by decide) (z10 rfl)⟩
  | 21, _ =>
    simp only [ruleB, Bool.and_eq_true] at hr
    exact ⟨objectB_size hr.1, none_le _ (z1 rfl), zero_le _ (by decide) (z2 rfl), none_le _ (z3 rfl), ⟨by rw [len_zero (z4 rfl)]; decide, nil_all (len_zero (z4 rfl)) _⟩, shortB_size hr.2, bodyNone_facts (z6 rfl), zero_le _ (by decide) (z7 rfl), ⟨by rw [len_zero (z8 rfl)]; decide, nil_all (len_zero (z8 rfl)) _⟩, zero_le _ (by decide) (z9 rfl), zero_le _ (by decide) (z10 rfl)⟩
  | 22, _ =>
    simp only [ruleB, Bool.and_eq_true] at hr
    exact ⟨objectB_size hr.1, none_le _ (z1 rfl), zero_le _ (by decide) (z2 rfl), none_le _ (z3 rfl), ⟨by rw [len_zero (z4 rfl)]; decide, nil_all (len_zero (z4 rfl)) _⟩, none_le _ (z5 rfl), bodyNone_facts (z6 rfl), zero_le _ (by decide) (z7 rfl), ⟨by rw [len_zero (z8 rfl)]; decide, nil_all (len_zero (z8 rfl)) _⟩, by have := within_facts hr.2; omega, zero_le _ (by decide) (z10 rfl)⟩
  | 23, _ =>
    simp only [ruleB, Bool.and_eq_true] at hr
    exact ⟨none_le _ (z0 rfl), targetB_size hr.1, zero_le _ (by decide) (z2 rfl), none_le _ (z3 rfl), ⟨by rw [len_zero (z4 rfl)]; decide, nil_all (len_zero (z4 rfl)) _⟩, shortB_size hr.2.1, bodyNone_facts (z6 rfl), zero_le _ (by decide) (z7 rfl), ⟨by rw [len_zero (z8 rfl)]; decide, nil_all (len_zero (z8 rfl)) _⟩, by have := within_facts hr.2.2; omega, zero_le _ (by decide) (z10 rfl)⟩
  | k + 24, hk => exact absurd hk (by omega)
theorem act_small {a : ActR} (h : actRight a = true) : SmallAct a := by
  simp only [actRight, fitsB, Bool.and_eq_true] at h
  obtain ⟨h1, h2, h3, h4, h5, hk0, hk1, hm, hr⟩ := h
  simp only [decide_eq_true_eq] at hk0 hk1
  have hmask := mask_of a a.kind.toNat (by omega)
  rw [hm] at hmask
  have hs := small11 a a.kind.toNat (by omega) hmask.symm hr
  have hp : a.prev.size ≤ 32 ∧ 0 ≤ a.seq ∧ a.seq ≤ 1073741824 := by
    unfold placedB at h2
    split at h2
    · simp only [Bool.and_eq_true] at h2
      have := noneB_size h2.2
      omega
    · simp only [Bool.and_eq_true, withinB, digestB, decide_eq_true_eq] at h2
      omega
  have := idB_size h1
  exact ⟨by omega, hp.1, hs.object, hs.target, hs.group, hs.text, hs.body, hs.to.1, hs.to.2, hs.wraps.1, hs.wraps.2, hp.2, ⟨hk0, hk1⟩, within_facts h3, hs.scope, hs.epoch, hs.n, hs.m, within_facts h4, within_facts h5⟩
end Go.Proofs.YtjfcllanochhmaaGreatDoor.Item
