/-
  The contracts of the functions of math/bits that package group calls: Div64, Rem64, Mul64, Len64, at the two moduli.
-/
import Derived.Test.YtjfcllanochhmaaGreatDoorRows
import Derived.Test.YtjfcllanochhmaaGreatDoorGrpNum
import Derived.Test.YtjfcllanochhmaaGreatDoorShelf
import Derived.Test.YtjfcllanochhmaaGreatDoorGrpBase
import Derived.WalkKit
import Derived.WalkSpells
import Derived.WalkLawsBesides
import Derived.Lib.Hide
import Derived.Lib.Mul64
import Derived.Laws.Bits64b
import Derived.Deep.QuietTactic
import Derived.BigQuiet
set_option linter.unusedVariables false
set_option linter.unusedSimpArgs false
namespace Go.Proofs.YtjfcllanochhmaaGreatDoor.Grp
open Go.RowKit

/-- The range of a uint64. -/
def U64 (x : Int) : Prop := 0 ≤ x ∧ x < 18446744073709551616

-- DIV64 BEGIN

theorem lz_P (w : World) : Calls Tryz.prog 184 #[.int .u64 2305843009213693951] w fun e w' => e = .returned (.int .i64 3) ∧ w = w' := by
  have h := Tryz.bits_LeadingZeros64 2305843009213693951 w (by decide) (by decide)
  have e : (64 - (Lib.bitLen (2305843009213693951 : Int).toNat : Int)) = 3 := by decide +kernel
  rw [e] at h
  exact h.mono fun e w' ⟨a, b⟩ => ⟨a, b.symm⟩

/-- The estimate of a digit is too large by at most what the loop takes back. -/
structure EstP (A B q r : Int) : Prop where
  sum : q * 4294967295 + r = A
  q0 : 0 ≤ q
  q1 : q ≤ 4294967296
  r0 : 0 ≤ r
  r1 : r < 4294967296
  up : A * 4294967296 + B < (q + 1) * 18446744073709551608
theorem estP_at (A B : Int) (_hA : 0 ≤ A) (_hA' : A < 18446744073709551608) (_hB' : B < 4294967296) : EstP A B (A / 4294967295) (A - A / 4294967295 * 4294967295) := by
  constructor <;> omega
theorem estP_dn {A B q r : Int} (h : EstP A B q r) (_hA' : A < 18446744073709551608) (_hB : 0 ≤ B) (_hB' : B < 4294967296) (_hq : 4294967296 ≤ q ∨ 4294967296 * r + B < q * 4294967288) (_hr : r + 4294967295 < 4294967296) : EstP A B (q - 1) (r + 4294967295) := by
  obtain ⟨h1, h2, h3, h4, h5, h6⟩ := h
  constructor <;> omega
theorem estP_pos {A B q r : Int} (h : EstP A B q r) (_hA : 0 ≤ A) (_hB : 0 ≤ B) (_hq : 4294967296 ≤ q ∨ 4294967296 * r + B < q * 4294967288) : 1 ≤ q := by
  obtain ⟨h1, h2, h3, h4, h5, h6⟩ := h
  omega
theorem estP_end {A B q r : Int} (h : EstP A B q r) (_hB : 0 ≤ B) (_h1 : ¬ 4294967296 ≤ q) (_h2 : ¬ 4294967296 * r + B < q * 4294967288) : q = (A * 4294967296 + B) / 18446744073709551608 := by
  obtain ⟨h3, h4, h5, h6, h7, h8⟩ := h
  omega
theorem estP_brk {A B q r : Int} (h : EstP A B q r) (_hA' : A < 18446744073709551608) (_hB : 0 ≤ B) (_hB' : B < 4294967296) (_hq : 4294967296 ≤ q ∨ 4294967296 * r + B < q * 4294967288) (_hr : ¬ r + 4294967295 < 4294967296) : q - 1 = (A * 4294967296 + B) / 18446744073709551608 := by
  obtain ⟨h3, h4, h5, h6, h7, h8⟩ := h
  omega
theorem restP (A B q : Int) (_hA : 0 ≤ A) (_hB : 0 ≤ B) (_hq : q = (A * 4294967296 + B) / 18446744073709551608) :
    IntKind.u64.wrap (IntKind.u64.wrap (IntKind.u64.wrap (A * 4294967296) + B) - IntKind.u64.wrap (q * 18446744073709551608)) = (A * 4294967296 + B) % 18446744073709551608 := by
  simp only [IntKind.wrap_u64]
  omega
theorem lastP (hi lo A B C : Int) (_h0 : 0 ≤ hi) (_h1 : hi < 2305843009213693951) (l0 : U64 lo) (_hA : A = hi * 8 + lo / 2305843009213693952) (_hB : B = lo * 8 % 18446744073709551616 / 4294967296) (_hC : C = lo * 8 % 18446744073709551616 % 4294967296) :
    ((A * 4294967296 + B) % 18446744073709551608 * 4294967296 + C) % 18446744073709551608 / 8 = (hi * 18446744073709551616 + lo) % 2305843009213693951 := by
  obtain ⟨l0, l1⟩ := l0
  have e : ((A * 4294967296 + B) % 18446744073709551608 * 4294967296 + C) % 18446744073709551608 = ((A * 4294967296 + B) * 4294967296 + C) % 18446744073709551608 := by
    omega
  rw [e]
  omega

theorem zmodP (lo : Int) (h : 0 ≤ lo) : (0 * 18446744073709551616 + lo) % 2305843009213693951 = lo % 2305843009213693951 := by rw [Int.zero_mul, Int.zero_add]
theorem orLP (hi lo : Int) (h0 : 0 ≤ hi) (h1 : hi < 2305843009213693951) (l0 : U64 lo) : bits .or .u64 (hi * 8) (lo / 2305843009213693952) = hi * 8 + lo / 2305843009213693952 := by
  obtain ⟨l0, l1⟩ := l0
  obtain ⟨h, rfl⟩ := Int.eq_ofNat_of_zero_le h0
  obtain ⟨l, rfl⟩ := Int.eq_ofNat_of_zero_le l0
  have e1 : ((h : Int) * 8) = ((h * 8 : Nat) : Int) := by omega
  have e2 : ((l : Int) / 2305843009213693952) = ((l / 2305843009213693952 : Nat) : Int) := by omega
  rw [e1, e2, bits_or_u64_nat _ _ (by omega) (by omega)]
  have e3 : h * 8 ||| l / 2305843009213693952 = h * 8 + l / 2305843009213693952 := by
    have := Nat.two_pow_add_eq_or_of_lt (i := 3) (b := l / 2305843009213693952) (by omega) h
    rw [Nat.mul_comm h 8]
    exact this.symm
  rw [e3]
  omega
theorem andCP : bits .and .u64 18446744073709551608 4294967295 = 4294967288 := by decide +kernel
theorem wrP (lo : Int) : IntKind.u64.wrap (lo * 8) = lo * 8 % 18446744073709551616 := IntKind.wrap_u64 _
theorem andP (lo : Int) : bits .and .u64 (lo * 8 % 18446744073709551616) 4294967295 = lo * 8 % 18446744073709551616 % 4294967296 := by
  obtain ⟨l, e⟩ := Int.eq_ofNat_of_zero_le (show 0 ≤ lo * 8 % 18446744073709551616 by omega)
  rw [e]
  have h := bits_and_u64_nat l 4294967295 (by omega) (by omega)
  have e2 : l &&& 4294967295 = l % 4294967296 := Nat.and_two_pow_sub_one_eq_mod l 32
  rw [e2] at h
  rw [show ((4294967295 : Nat) : Int) = 4294967295 from rfl] at h
  rw [h]
  omega
theorem quoP (A : Int) (h0 : 0 ≤ A) (h1 : A < 18446744073709551608) : IntKind.u64.wrap (A.tdiv 4294967295) = A / 4294967295 := by
  exact IntWalk.u64_quo _ _ ⟨h0, by omega, by omega⟩
theorem remP (A : Int) (h0 : 0 ≤ A) (h1 : A < 18446744073709551608) : IntKind.u64.wrap (A - IntKind.u64.wrap (A / 4294967295 * 4294967295)) = A - A / 4294967295 * 4294967295 := by
  simp only [IntKind.wrap_u64]; omega

set_option maxRecDepth 100000 in
set_option maxHeartbeats 400000 in
theorem div64_P (hi lo : Int) (w : World) (h0 : 0 ≤ hi) (h1 : hi < 2305843009213693951) (l0 : U64 lo) :
    Calls Tryz.prog 179 #[.int .u64 hi, .int .u64 lo, .int .u64 2305843009213693951] w fun e w' => (∃ q : Int, e = .returned (.tuple #[.int .u64 q, .int .u64 ((hi * 18446744073709551616 + lo) % 2305843009213693951)])) ∧ Q w w' := by
  by_cases hz : hi = 0
  · subst hz
    have l00 := l0.1
    go_enter Tryz.func179, Tryz.ntmps179
    go_wp2
    go_quiet (fail)
    go_wp2
    go_ret2
    exact ⟨⟨IntKind.u64.wrap (lo.tdiv 2305843009213693951), by rw [zmodP lo l00]; rfl⟩, below_drewN (Below.refl _ _) _⟩
  · have hz' : (hi == 0) = false := by simpa using hz
    have e1 := orLP hi lo h0 h1 l0
    have e2 := wrP lo
    have e3 := andP lo
    have hA0 : 0 ≤ hi * 8 + lo / 2305843009213693952 := by obtain ⟨a, b⟩ := l0; omega
    have hA1 : hi * 8 + lo / 2305843009213693952 < 18446744073709551608 := by obtain ⟨a, b⟩ := l0; omega
    have e4 := quoP _ hA0 hA1
    have e5 := remP _ hA0 hA1
    generalize hB : lo * 8 % 18446744073709551616 / 4294967296 = B at *
    generalize hC : lo * 8 % 18446744073709551616 % 4294967296 = C at *
    have hB0 : 0 ≤ B := by omega
    have hB1 : B < 4294967296 := by omega
    have hC0 : 0 ≤ C := by omega
    have hC1 : C < 4294967296 := by omega
    generalize hA : hi * 8 + lo / 2305843009213693952 = A at *
    have E1 := Lib.hid e1
    have E2 := Lib.hid e2
    have E3 := Lib.hid e3
    have E4 := Lib.hid e4
    have E5 := Lib.hid e5
    have L0 := Lib.hid l0
    have HA := Lib.hid hA
    have HB := Lib.hid hB
    have HC := Lib.hid hC
    have HA1 := Lib.hid hA1
    clear e1 e2 e3 e4 e5 l0 hA hB hC hA1
    go_enter Tryz.func179, Tryz.ntmps179
    go_wp2_with (go_at_call 184; refine (lz_P _).mono ?_; rintro e w' ⟨rfl, rfl⟩)
    simp only [andCP, E1.out, E2.out, E3.out, E4.out, E5.out, HB.out]
    go_loop [15, 16] (fun q r => ∃ q1 r1 : Int, q = .int .u64 q1 ∧ r = .int .u64 r1 ∧ EstP A B q1 r1) (fun q _ => (intOf q).toNat)
    case atStart => exact ⟨_, _, rfl, rfl, estP_at A B hA0 HA1.out hB1⟩
    case round =>
      obtain ⟨q1, r1, rfl, rfl, he⟩ := hrel
      have q0 := he.q0
      have q1' := he.q1
      have r0 := he.r0
      have r1' := he.r1
      by_cases t1 : 4294967296 ≤ q1
      · have HP := estP_pos he hA0 hB0 (Or.inl t1)
        by_cases hr : r1 + 4294967295 < 4294967296
        · have HE := Lib.hid (estP_dn he HA1.out hB0 hB1 (Or.inl t1) hr)
          clear he
          go_wp2
          exact ⟨⟨_, _, rfl, rfl, HE.out⟩, by simp only [intOf]; omega⟩
        · have HE := Lib.hid (estP_brk he HA1.out hB0 hB1 (Or.inl t1) hr)
          clear he
          go_wp2
          have er := restP A B _ hA0 hB0 HE.out
          simp only [er]
          clear er
          have hR0 : 0 ≤ (A * 4294967296 + B) % 18446744073709551608 := Int.emod_nonneg _ (by decide)
          have HR1 := Lib.hid (show (A * 4294967296 + B) % 18446744073709551608 < 18446744073709551608 from Int.emod_lt_of_pos _ (by decide))
          have HL := Lib.hid (lastP hi lo A B C h0 h1 L0.out HA.out.symm HB.out.symm HC.out.symm)
          simp only [quoP _ hR0 HR1.out, remP _ hR0 HR1.out]
          generalize (A * 4294967296 + B) % 18446744073709551608 = R at *
          clear t1 q0 q1' r0 r1' HE
          go_loop [18, 16] (fun q r => ∃ q1 r1 : Int, q = .int .u64 q1 ∧ r = .int .u64 r1 ∧ EstP R C q1 r1) (fun q _ => (intOf q).toNat)
          case atStart => exact ⟨_, _, rfl, rfl, estP_at R C hR0 HR1.out hC1⟩
          case round =>
            obtain ⟨q1, r1, rfl, rfl, he⟩ := hrel
            have q0 := he.q0
            have q1' := he.q1
            have r0 := he.r0
            have r1' := he.r1
            by_cases t1 : 4294967296 ≤ q1
            · have HP := estP_pos he hR0 hC0 (Or.inl t1)
              by_cases hr : r1 + 4294967295 < 4294967296
              · have HE := Lib.hid (estP_dn he HR1.out hC0 hC1 (Or.inl t1) hr)
                clear he
                go_wp2
                exact ⟨⟨_, _, rfl, rfl, HE.out⟩, by simp only [intOf]; omega⟩
              · have HE := Lib.hid (estP_brk he HR1.out hC0 hC1 (Or.inl t1) hr)
                clear he
                go_wp2
                have er := restP R C _ hR0 hC0 HE.out
                simp only [er, HL.out]
                clear er
                go_ret2
                exact ⟨⟨_, rfl⟩, Q.refl _⟩
            · by_cases t2 : 4294967296 * r1 + C < q1 * 4294967288
              · have HP := estP_pos he hR0 hC0 (Or.inr t2)
                by_cases hr : r1 + 4294967295 < 4294967296
                · have HE := Lib.hid (estP_dn he HR1.out hC0 hC1 (Or.inr t2) hr)
                  clear he
                  go_wp2
                  exact ⟨⟨_, _, rfl, rfl, HE.out⟩, by simp only [intOf]; omega⟩
                · have HE := Lib.hid (estP_brk he HR1.out hC0 hC1 (Or.inr t2) hr)
                  clear he
                  go_wp2
                  have er := restP R C _ hR0 hC0 HE.out
                  simp only [er, HL.out]
                  clear er
                  go_ret2
                  exact ⟨⟨_, rfl⟩, Q.refl _⟩
              · have HE := Lib.hid (estP_end he hC0 t1 t2)
                clear he
                go_wp2
                have er := restP R C _ hR0 hC0 HE.out
                simp only [er, HL.out]
                clear er
                go_ret2
                exact ⟨⟨_, rfl⟩, Q.refl _⟩
      · by_cases t2 : 4294967296 * r1 + B < q1 * 4294967288
        · have HP := estP_pos he hA0 hB0 (Or.inr t2)
          by_cases hr : r1 + 4294967295 < 4294967296
          · have HE := Lib.hid (estP_dn he HA1.out hB0 hB1 (Or.inr t2) hr)
            clear he
            go_wp2
            exact ⟨⟨_, _, rfl, rfl, HE.out⟩, by simp only [intOf]; omega⟩
          · have HE := Lib.hid (estP_brk he HA1.out hB0 hB1 (Or.inr t2) hr)
            clear he
            go_wp2
            have er := restP A B _ hA0 hB0 HE.out
            simp only [er]
            clear er
            have hR0 : 0 ≤ (A * 4294967296 + B) % 18446744073709551608 := Int.emod_nonneg _ (by decide)
            have HR1 := Lib.hid (show (A * 4294967296 + B) % 18446744073709551608 < 18446744073709551608 from Int.emod_lt_of_pos _ (by decide))
            have HL := Lib.hid (lastP hi lo A B C h0 h1 L0.out HA.out.symm HB.out.symm HC.out.symm)
            simp only [quoP _ hR0 HR1.out, remP _ hR0 HR1.out]
            generalize (A * 4294967296 + B) % 18446744073709551608 = R at *
            clear t1 q0 q1' r0 r1' HE
            go_loop [18, 16] (fun q r => ∃ q1 r1 : Int, q = .int .u64 q1 ∧ r = .int .u64 r1 ∧ EstP R C q1 r1) (fun q _ => (intOf q).toNat)
            case atStart => exact ⟨_, _, rfl, rfl, estP_at R C hR0 HR1.out hC1⟩
            case round =>
              obtain ⟨q1, r1, rfl, rfl, he⟩ := hrel
              have q0 := he.q0
              have q1' := he.q1
              have r0 := he.r0
              have r1' := he.r1
              by_cases t1 : 4294967296 ≤ q1
              · have HP := estP_pos he hR0 hC0 (Or.inl t1)
                by_cases hr : r1 + 4294967295 < 4294967296
                · have HE := Lib.hid (estP_dn he HR1.out hC0 hC1 (Or.inl t1) hr)
                  clear he
                  go_wp2
                  exact ⟨⟨_, _, rfl, rfl, HE.out⟩, by simp only [intOf]; omega⟩
                · have HE := Lib.hid (estP_brk he HR1.out hC0 hC1 (Or.inl t1) hr)
                  clear he
                  go_wp2
                  have er := restP R C _ hR0 hC0 HE.out
                  simp only [er, HL.out]
                  clear er
                  go_ret2
                  exact ⟨⟨_, rfl⟩, Q.refl _⟩
              · by_cases t2 : 4294967296 * r1 + C < q1 * 4294967288
                · have HP := estP_pos he hR0 hC0 (Or.inr t2)
                  by_cases hr : r1 + 4294967295 < 4294967296
                  · have HE := Lib.hid (estP_dn he HR1.out hC0 hC1 (Or.inr t2) hr)
                    clear he
                    go_wp2
                    exact ⟨⟨_, _, rfl, rfl, HE.out⟩, by simp only [intOf]; omega⟩
                  · have HE := Lib.hid (estP_brk he HR1.out hC0 hC1 (Or.inr t2) hr)
                    clear he
                    go_wp2
                    have er := restP R C _ hR0 hC0 HE.out
                    simp only [er, HL.out]
                    clear er
                    go_ret2
                    exact ⟨⟨_, rfl⟩, Q.refl _⟩
                · have HE := Lib.hid (estP_end he hC0 t1 t2)
                  clear he
                  go_wp2
                  have er := restP R C _ hR0 hC0 HE.out
                  simp only [er, HL.out]
                  clear er
                  go_ret2
                  exact ⟨⟨_, rfl⟩, Q.refl _⟩
        · have HE := Lib.hid (estP_end he hB0 t1 t2)
          clear he
          go_wp2
          have er := restP A B _ hA0 hB0 HE.out
          simp only [er]
          clear er
          have hR0 : 0 ≤ (A * 4294967296 + B) % 18446744073709551608 := Int.emod_nonneg _ (by decide)
          have HR1 := Lib.hid (show (A * 4294967296 + B) % 18446744073709551608 < 18446744073709551608 from Int.emod_lt_of_pos _ (by decide))
          have HL := Lib.hid (lastP hi lo A B C h0 h1 L0.out HA.out.symm HB.out.symm HC.out.symm)
          simp only [quoP _ hR0 HR1.out, remP _ hR0 HR1.out]
          generalize (A * 4294967296 + B) % 18446744073709551608 = R at *
          clear t1 q0 q1' r0 r1' HE
          go_loop [18, 16] (fun q r => ∃ q1 r1 : Int, q = .int .u64 q1 ∧ r = .int .u64 r1 ∧ EstP R C q1 r1) (fun q _ => (intOf q).toNat)
          case atStart => exact ⟨_, _, rfl, rfl, estP_at R C hR0 HR1.out hC1⟩
          case round =>
            obtain ⟨q1, r1, rfl, rfl, he⟩ := hrel
            have q0 := he.q0
            have q1' := he.q1
            have r0 := he.r0
            have r1' := he.r1
            by_cases t1 : 4294967296 ≤ q1
            · have HP := estP_pos he hR0 hC0 (Or.inl t1)
              by_cases hr : r1 + 4294967295 < 4294967296
              · have HE := Lib.hid (estP_dn he HR1.out hC0 hC1 (Or.inl t1) hr)
                clear he
                go_wp2
                exact ⟨⟨_, _, rfl, rfl, HE.out⟩, by simp only [intOf]; omega⟩
              · have HE := Lib.hid (estP_brk he HR1.out hC0 hC1 (Or.inl t1) hr)
                clear he
                go_wp2
                have er := restP R C _ hR0 hC0 HE.out
                simp only [er, HL.out]
                clear er
                go_ret2
                exact ⟨⟨_, rfl⟩, Q.refl _⟩
            · by_cases t2 : 4294967296 * r1 + C < q1 * 4294967288
              · have HP := estP_pos he hR0 hC0 (Or.inr t2)
                by_cases hr : r1 + 4294967295 < 4294967296
                · have HE := Lib.hid (estP_dn he HR1.out hC0 hC1 (Or.inr t2) hr)
                  clear he
                  go_wp2
                  exact ⟨⟨_, _, rfl, rfl, HE.out⟩, by simp only [intOf]; omega⟩
                · have HE := Lib.hid (estP_brk he HR1.out hC0 hC1 (Or.inr t2) hr)
                  clear he
                  go_wp2
                  have er := restP R C _ hR0 hC0 HE.out
                  simp only [er, HL.out]
                  clear er
                  go_ret2
                  exact ⟨⟨_, rfl⟩, Q.refl _⟩
              · have HE := Lib.hid (estP_end he hC0 t1 t2)
                clear he
                go_wp2
                have er := restP R C _ hR0 hC0 HE.out
                simp only [er, HL.out]
                clear er
                go_ret2
                exact ⟨⟨_, rfl⟩, Q.refl _⟩


theorem lz_N (w : World) : Calls Tryz.prog 184 #[.int .u64 2305843009213693950] w fun e w' => e = .returned (.int .i64 3) ∧ w = w' := by
  have h := Tryz.bits_LeadingZeros64 2305843009213693950 w (by decide) (by decide)
  have e : (64 - (Lib.bitLen (2305843009213693950 : Int).toNat : Int)) = 3 := by decide +kernel
  rw [e] at h
  exact h.mono fun e w' ⟨a, b⟩ => ⟨a, b.symm⟩

/-- The estimate of a digit is too large by at most what the loop takes back. -/
structure EstN (A B q r : Int) : Prop where
  sum : q * 4294967295 + r = A
  q0 : 0 ≤ q
  q1 : q ≤ 4294967296
  r0 : 0 ≤ r
  r1 : r < 4294967296
  up : A * 4294967296 + B < (q + 1) * 18446744073709551600
theorem estN_at (A B : Int) (_hA : 0 ≤ A) (_hA' : A < 18446744073709551600) (_hB' : B < 4294967296) : EstN A B (A / 4294967295) (A - A / 4294967295 * 4294967295) := by
  constructor <;> omega
theorem estN_dn {A B q r : Int} (h : EstN A B q r) (_hA' : A < 18446744073709551600) (_hB : 0 ≤ B) (_hB' : B < 4294967296) (_hq : 4294967296 ≤ q ∨ 4294967296 * r + B < q * 4294967280) (_hr : r + 4294967295 < 4294967296) : EstN A B (q - 1) (r + 4294967295) := by
  obtain ⟨h1, h2, h3, h4, h5, h6⟩ := h
  constructor <;> omega
theorem estN_pos {A B q r : Int} (h : EstN A B q r) (_hA : 0 ≤ A) (_hB : 0 ≤ B) (_hq : 4294967296 ≤ q ∨ 4294967296 * r + B < q * 4294967280) : 1 ≤ q := by
  obtain ⟨h1, h2, h3, h4, h5, h6⟩ := h
  omega
theorem estN_end {A B q r : Int} (h : EstN A B q r) (_hB : 0 ≤ B) (_h1 : ¬ 4294967296 ≤ q) (_h2 : ¬ 4294967296 * r + B < q * 4294967280) : q = (A * 4294967296 + B) / 18446744073709551600 := by
  obtain ⟨h3, h4, h5, h6, h7, h8⟩ := h
  omega
theorem estN_brk {A B q r : Int} (h : EstN A B q r) (_hA' : A < 18446744073709551600) (_hB : 0 ≤ B) (_hB' : B < 4294967296) (_hq : 4294967296 ≤ q ∨ 4294967296 * r + B < q * 4294967280) (_hr : ¬ r + 4294967295 < 4294967296) : q - 1 = (A * 4294967296 + B) / 18446744073709551600 := by
  obtain ⟨h3, h4, h5, h6, h7, h8⟩ := h
  omega
theorem restN (A B q : Int) (_hA : 0 ≤ A) (_hB : 0 ≤ B) (_hq : q = (A * 4294967296 + B) / 18446744073709551600) :
    IntKind.u64.wrap (IntKind.u64.wrap (IntKind.u64.wrap (A * 4294967296) + B) - IntKind.u64.wrap (q * 18446744073709551600)) = (A * 4294967296 + B) % 18446744073709551600 := by
  simp only [IntKind.wrap_u64]
  omega
theorem lastN (hi lo A B C : Int) (_h0 : 0 ≤ hi) (_h1 : hi < 2305843009213693950) (l0 : U64 lo) (_hA : A = hi * 8 + lo / 2305843009213693952) (_hB : B = lo * 8 % 18446744073709551616 / 4294967296) (_hC : C = lo * 8 % 18446744073709551616 % 4294967296) :
    ((A * 4294967296 + B) % 18446744073709551600 * 4294967296 + C) % 18446744073709551600 / 8 = (hi * 18446744073709551616 + lo) % 2305843009213693950 := by
  obtain ⟨l0, l1⟩ := l0
  have e : ((A * 4294967296 + B) % 18446744073709551600 * 4294967296 + C) % 18446744073709551600 = ((A * 4294967296 + B) * 4294967296 + C) % 18446744073709551600 := by
    omega
  rw [e]
  omega

theorem zmodN (lo : Int) (h : 0 ≤ lo) : (0 * 18446744073709551616 + lo) % 2305843009213693950 = lo % 2305843009213693950 := by rw [Int.zero_mul, Int.zero_add]
theorem orLN (hi lo : Int) (h0 : 0 ≤ hi) (h1 : hi < 2305843009213693950) (l0 : U64 lo) : bits .or .u64 (hi * 8) (lo / 2305843009213693952) = hi * 8 + lo / 2305843009213693952 := by
  obtain ⟨l0, l1⟩ := l0
  obtain ⟨h, rfl⟩ := Int.eq_ofNat_of_zero_le h0
  obtain ⟨l, rfl⟩ := Int.eq_ofNat_of_zero_le l0
  have e1 : ((h : Int) * 8) = ((h * 8 : Nat) : Int) := by omega
  have e2 : ((l : Int) / 2305843009213693952) = ((l / 2305843009213693952 : Nat) : Int) := by omega
  rw [e1, e2, bits_or_u64_nat _ _ (by omega) (by omega)]
  have e3 : h * 8 ||| l / 2305843009213693952 = h * 8 + l / 2305843009213693952 := by
    have := Nat.two_pow_add_eq_or_of_lt (i := 3) (b := l / 2305843009213693952) (by omega) h
    rw [Nat.mul_comm h 8]
    exact this.symm
  rw [e3]
  omega
theorem andCN : bits .and .u64 18446744073709551600 4294967295 = 4294967280 := by decide +kernel
theorem wrN (lo : Int) : IntKind.u64.wrap (lo * 8) = lo * 8 % 18446744073709551616 := IntKind.wrap_u64 _
theorem andN (lo : Int) : bits .and .u64 (lo * 8 % 18446744073709551616) 4294967295 = lo * 8 % 18446744073709551616 % 4294967296 := by
  obtain ⟨l, e⟩ := Int.eq_ofNat_of_zero_le (show 0 ≤ lo * 8 % 18446744073709551616 by omega)
  rw [e]
  have h := bits_and_u64_nat l 4294967295 (by omega) (by omega)
  have e2 : l &&& 4294967295 = l % 4294967296 := Nat.and_two_pow_sub_one_eq_mod l 32
  rw [e2] at h
  rw [show ((4294967295 : Nat) : Int) = 4294967295 from rfl] at h
  rw [h]
  omega
theorem quoN (A : Int) (h0 : 0 ≤ A) (h1 : A < 18446744073709551600) : IntKind.u64.wrap (A.tdiv 4294967295) = A / 4294967295 := by
  exact IntWalk.u64_quo _ _ ⟨h0, by omega, by omega⟩
theorem remN (A : Int) (h0 : 0 ≤ A) (h1 : A < 18446744073709551600) : IntKind.u64.wrap (A - IntKind.u64.wrap (A / 4294967295 * 4294967295)) = A - A / 4294967295 * 4294967295 := by
  simp only [IntKind.wrap_u64]; omega

set_option maxRecDepth 100000 in
set_option maxHeartbeats 400000 in
theorem div64_N (hi lo : Int) (w : World) (h0 : 0 ≤ hi) (h1 : hi < 2305843009213693950) (l0 : U64 lo) :
    Calls Tryz.prog 179 #[.int .u64 hi, .int .u64 lo, .int .u64 2305843009213693950] w fun e w' => (∃ q : Int, e = .returned (.tuple #[.int .u64 q, .int .u64 ((hi * 18446744073709551616 + lo) % 2305843009213693950)])) ∧ Q w w' := by
  by_cases hz : hi = 0
  · subst hz
    have l00 := l0.1
    go_enter Tryz.func179, Tryz.ntmps179
    go_wp2
    go_quiet (fail)
    go_wp2
    go_ret2
    exact ⟨⟨IntKind.u64.wrap (lo.tdiv 2305843009213693950), by rw [zmodN lo l00]; rfl⟩, below_drewN (Below.refl _ _) _⟩
  · have hz' : (hi == 0) = false := by simpa using hz
    have e1 := orLN hi lo h0 h1 l0
    have e2 := wrN lo
    have e3 := andN lo
    have hA0 : 0 ≤ hi * 8 + lo / 2305843009213693952 := by obtain ⟨a, b⟩ := l0; omega
    have hA1 : hi * 8 + lo / 2305843009213693952 < 18446744073709551600 := by obtain ⟨a, b⟩ := l0; omega
    have e4 := quoN _ hA0 hA1
    have e5 := remN _ hA0 hA1
    generalize hB : lo * 8 % 18446744073709551616 / 4294967296 = B at *
    generalize hC : lo * 8 % 18446744073709551616 % 4294967296 = C at *
    have hB0 : 0 ≤ B := by omega
    have hB1 : B < 4294967296 := by omega
    have hC0 : 0 ≤ C := by omega
    have hC1 : C < 4294967296 := by omega
    generalize hA : hi * 8 + lo / 2305843009213693952 = A at *
    have E1 := Lib.hid e1
    have E2 := Lib.hid e2
    have E3 := Lib.hid e3
    have E4 := Lib.hid e4
    have E5 := Lib.hid e5
    have L0 := Lib.hid l0
    have HA := Lib.hid hA
    have HB := Lib.hid hB
    have HC := Lib.hid hC
    have HA1 := Lib.hid hA1
    clear e1 e2 e3 e4 e5 l0 hA hB hC hA1
    go_enter Tryz.func179, Tryz.ntmps179
    go_wp2_with (go_at_call 184; refine (lz_N _).mono ?_; rintro e w' ⟨rfl, rfl⟩)
    simp only [andCN, E1.out, E2.out, E3.out, E4.out, E5.out, HB.out]
    go_loop [15, 16] (fun q r => ∃ q1 r1 : Int, q = .int .u64 q1 ∧ r = .int .u64 r1 ∧ EstN A B q1 r1) (fun q _ => (intOf q).toNat)
    case atStart => exact ⟨_, _, rfl, rfl, estN_at A B hA0 HA1.out hB1⟩
    case round =>
      obtain ⟨q1, r1, rfl, rfl, he⟩ := hrel
      have q0 := he.q0
      have q1' := he.q1
      have r0 := he.r0
      have r1' := he.r1
      by_cases t1 : 4294967296 ≤ q1
      · have HP := estN_pos he hA0 hB0 (Or.inl t1)
        by_cases hr : r1 + 4294967295 < 4294967296
        · have HE := Lib.hid (estN_dn he HA1.out hB0 hB1 (Or.inl t1) hr)
          clear he
          go_wp2
          exact ⟨⟨_, _, rfl, rfl, HE.out⟩, by simp only [intOf]; omega⟩
        · have HE := Lib.hid (estN_brk he HA1.out hB0 hB1 (Or.inl t1) hr)
          clear he
          go_wp2
          have er := restN A B _ hA0 hB0 HE.out
          simp only [er]
          clear er
          have hR0 : 0 ≤ (A * 4294967296 + B) % 18446744073709551600 := Int.emod_nonneg _ (by decide)
          have HR1 := Lib.hid (show (A * 4294967296 + B) % 18446744073709551600 < 18446744073709551600 from Int.emod_lt_of_pos _ (by decide))
          have HL := Lib.hid (lastN hi lo A B C h0 h1 L0.out HA.out.symm HB.out.symm HC.out.symm)
          simp only [quoN _ hR0 HR1.out, remN _ hR0 HR1.out]
          generalize (A * 4294967296 + B) % 18446744073709551600 = R at *
          clear t1 q0 q1' r0 r1' HE
          go_loop [18, 16] (fun q r => ∃ q1 r1 : Int, q = .int .u64 q1 ∧ r = .int .u64 r1 ∧ EstN R C q1 r1) (fun q _ => (intOf q).toNat)
          case atStart => exact ⟨_, _, rfl, rfl, estN_at R C hR0 HR1.out hC1⟩
          case round =>
            obtain ⟨q1, r1, rfl, rfl, he⟩ := hrel
            have q0 := he.q0
            have q1' := he.q1
            have r0 := he.r0
            have r1' := he.r1
            by_cases t1 : 4294967296 ≤ q1
            · have HP := estN_pos he hR0 hC0 (Or.inl t1)
              by_cases hr : r1 + 4294967295 < 4294967296
              · have HE := Lib.hid (estN_dn he HR1.out hC0 hC1 (Or.inl t1) hr)
                clear he
                go_wp2
                exact ⟨⟨_, _, rfl, rfl, HE.out⟩, by simp only [intOf]; omega⟩
              · have HE := Lib.hid (estN_brk he HR1.out hC0 hC1 (Or.inl t1) hr)
                clear he
                go_wp2
                have er := restN R C _ hR0 hC0 HE.out
                simp only [er, HL.out]
                clear er
                go_ret2
                exact ⟨⟨_, rfl⟩, Q.refl _⟩
            · by_cases t2 : 4294967296 * r1 + C < q1 * 4294967280
              · have HP := estN_pos he hR0 hC0 (Or.inr t2)
                by_cases hr : r1 + 4294967295 < 4294967296
                · have HE := Lib.hid (estN_dn he HR1.out hC0 hC1 (Or.inr t2) hr)
                  clear he
                  go_wp2
                  exact ⟨⟨_, _, rfl, rfl, HE.out⟩, by simp only [intOf]; omega⟩
                · have HE := Lib.hid (estN_brk he HR1.out hC0 hC1 (Or.inr t2) hr)
                  clear he
                  go_wp2
                  have er := restN R C _ hR0 hC0 HE.out
                  simp only [er, HL.out]
                  clear er
                  go_ret2
                  exact ⟨⟨_, rfl⟩, Q.refl _⟩
              · have HE := Lib.hid (estN_end he hC0 t1 t2)
                clear he
                go_wp2
                have er := restN R C _ hR0 hC0 HE.out
                simp only [er, HL.out]
                clear er
                go_ret2
                exact ⟨⟨_, rfl⟩, Q.refl _⟩
      · by_cases t2 : 4294967296 * r1 + B < q1 * 4294967280
        · have HP := estN_pos he hA0 hB0 (Or.inr t2)
          by_cases hr : r1 + 4294967295 < 4294967296
          · have HE := Lib.hid (estN_dn he HA1.out hB0 hB1 (Or.inr t2) hr)
            clear he
            go_wp2
            exact ⟨⟨_, _, rfl, rfl, HE.out⟩, by simp only [intOf]; omega⟩
          · have HE := Lib.hid (estN_brk he HA1.out hB0 hB1 (Or.inr t2) hr)
            clear he
            go_wp2
            have er := restN A B _ hA0 hB0 HE.out
            simp only [er]
            clear er
            have hR0 : 0 ≤ (A * 4294967296 + B) % 18446744073709551600 := Int.emod_nonneg _ (by decide)
            have HR1 := Lib.hid (show (A * 4294967296 + B) % 18446744073709551600 < 18446744073709551600 from Int.emod_lt_of_pos _ (by decide))
            have HL := Lib.hid (lastN hi lo A B C h0 h1 L0.out HA.out.symm HB.out.symm HC.out.symm)
            simp only [quoN _ hR0 HR1.out, remN _ hR0 HR1.out]
            generalize (A * 4294967296 + B) % 18446744073709551600 = R at *
            clear t1 q0 q1' r0 r1' HE
            go_loop [18, 16] (fun q r => ∃ q1 r1 : Int, q = .int .u64 q1 ∧ r = .int .u64 r1 ∧ EstN R C q1 r1) (fun q _ => (intOf q).toNat)
            case atStart => exact ⟨_, _, rfl, rfl, estN_at R C hR0 HR1.out hC1⟩
            case round =>
              obtain ⟨q1, r1, rfl, rfl, he⟩ := hrel
              have q0 := he.q0
              have q1' := he.q1
              have r0 := he.r0
              have r1' := he.r1
              by_cases t1 : 4294967296 ≤ q1
              · have HP := estN_pos he hR0 hC0 (Or.inl t1)
                by_cases hr : r1 + 4294967295 < 4294967296
                · have HE := Lib.hid (estN_dn he HR1.out hC0 hC1 (Or.inl t1) hr)
                  clear he
                  go_wp2
                  exact ⟨⟨_, _, rfl, rfl, HE.out⟩, by simp only [intOf]; omega⟩
                · have HE := Lib.hid (estN_brk he HR1.out hC0 hC1 (Or.inl t1) hr)
                  clear he
                  go_wp2
                  have er := restN R C _ hR0 hC0 HE.out
                  simp only [er, HL.out]
                  clear er
                  go_ret2
                  exact ⟨⟨_, rfl⟩, Q.refl _⟩
              · by_cases t2 : 4294967296 * r1 + C < q1 * 4294967280
                · have HP := estN_pos he hR0 hC0 (Or.inr t2)
                  by_cases hr : r1 + 4294967295 < 4294967296
                  · have HE := Lib.hid (estN_dn he HR1.out hC0 hC1 (Or.inr t2) hr)
                    clear he
                    go_wp2
                    exact ⟨⟨_, _, rfl, rfl, HE.out⟩, by simp only [intOf]; omega⟩
                  · have HE := Lib.hid (estN_brk he HR1.out hC0 hC1 (Or.inr t2) hr)
                    clear he
                    go_wp2
                    have er := restN R C _ hR0 hC0 HE.out
                    simp only [er, HL.out]
                    clear er
                    go_ret2
                    exact ⟨⟨_, rfl⟩, Q.refl _⟩
                · have HE := Lib.hid (estN_end he hC0 t1 t2)
                  clear he
                  go_wp2
                  have er := restN R C _ hR0 hC0 HE.out
                  simp only [er, HL.out]
                  clear er
                  go_ret2
                  exact ⟨⟨_, rfl⟩, Q.refl _⟩
        · have HE := Lib.hid (estN_end he hB0 t1 t2)
          clear he
          go_wp2
          have er := restN A B _ hA0 hB0 HE.out
          simp only [er]
          clear er
          have hR0 : 0 ≤ (A * 4294967296 + B) % 18446744073709551600 := Int.emod_nonneg _ (by decide)
          have HR1 := Lib.hid (show (A * 4294967296 + B) % 18446744073709551600 < 18446744073709551600 from Int.emod_lt_of_pos _ (by decide))
          have HL := Lib.hid (lastN hi lo A B C h0 h1 L0.out HA.out.symm HB.out.symm HC.out.symm)
          simp only [quoN _ hR0 HR1.out, remN _ hR0 HR1.out]
          generalize (A * 4294967296 + B) % 18446744073709551600 = R at *
          clear t1 q0 q1' r0 r1' HE
          go_loop [18, 16] (fun q r => ∃ q1 r1 : Int, q = .int .u64 q1 ∧ r = .int .u64 r1 ∧ EstN R C q1 r1) (fun q _ => (intOf q).toNat)
          case atStart => exact ⟨_, _, rfl, rfl, estN_at R C hR0 HR1.out hC1⟩
          case round =>
            obtain ⟨q1, r1, rfl, rfl, he⟩ := hrel
            have q0 := he.q0
            have q1' := he.q1
            have r0 := he.r0
            have r1' := he.r1
            by_cases t1 : 4294967296 ≤ q1
            · have HP := estN_pos he hR0 hC0 (Or.inl t1)
              by_cases hr : r1 + 4294967295 < 4294967296
              · have HE := Lib.hid (estN_dn he HR1.out hC0 hC1 (Or.inl t1) hr)
                clear he
                go_wp2
                exact ⟨⟨_, _, rfl, rfl, HE.out⟩, by simp only [intOf]; omega⟩
              · have HE := Lib.hid (estN_brk he HR1.out hC0 hC1 (Or.inl t1) hr)
                clear he
                go_wp2
                have er := restN R C _ hR0 hC0 HE.out
                simp only [er, HL.out]
                clear er
                go_ret2
                exact ⟨⟨_, rfl⟩, Q.refl _⟩
            · by_cases t2 : 4294967296 * r1 + C < q1 * 4294967280
              · have HP := estN_pos he hR0 hC0 (Or.inr t2)
                by_cases hr : r1 + 4294967295 < 4294967296
                · have HE := Lib.hid (estN_dn he HR1.out hC0 hC1 (Or.inr t2) hr)
                  clear he
                  go_wp2
                  exact ⟨⟨_, _, rfl, rfl, HE.out⟩, by simp only [intOf]; omega⟩
                · have HE := Lib.hid (estN_brk he HR1.out hC0 hC1 (Or.inr t2) hr)
                  clear he
                  go_wp2
                  have er := restN R C _ hR0 hC0 HE.out
                  simp only [er, HL.out]
                  clear er
                  go_ret2
                  exact ⟨⟨_, rfl⟩, Q.refl _⟩
              · have HE := Lib.hid (estN_end he hC0 t1 t2)
                clear he
                go_wp2
                have er := restN R C _ hR0 hC0 HE.out
                simp only [er, HL.out]
                clear er
                go_ret2
                exact ⟨⟨_, rfl⟩, Q.refl _⟩

-- DIV64 END

theorem mul64_any (x y : Int) (w : World) (x0 : 0 ≤ x) (x1 : x < 18446744073709551616) (y0 : 0 ≤ y) (y1 : y < 18446744073709551616) :
    Calls Tryz.prog 168 #[.int .u64 x, .int .u64 y] w fun e w' => e = .returned (.tuple #[.int .u64 (x * y / 18446744073709551616), .int .u64 (x * y % 18446744073709551616)]) ∧ w = w' := by
  obtain ⟨a, rfl⟩ := Int.eq_ofNat_of_zero_le x0
  obtain ⟨b, rfl⟩ := Int.eq_ofNat_of_zero_le y0
  refine (Tryz.bits_Mul64 a b (by omega) (by omega) w).mono fun e w' ⟨h1, h2⟩ => ⟨?_, h2.symm⟩
  rw [h1]
  have e1 : ((a * b / 18446744073709551616 : Nat) : Int) = (a : Int) * b / 18446744073709551616 := by omega
  have e2 : ((a * b % 18446744073709551616 : Nat) : Int) = (a : Int) * b % 18446744073709551616 := by omega
  rw [e1, e2]

theorem bitLen_lt : ∀ (f x : Nat), x < 2 ^ f → x < 2 ^ Lib.bitLenAux f x := by
  intro f
  induction f with
  | zero => intro x h; exact h
  | succ f ih =>
    intro x h
    rw [Lib.bitLenAux]
    by_cases h0 : x = 0
    · rw [if_pos h0]; omega
    · rw [if_neg h0, Nat.add_comm, Nat.pow_succ]
      have := ih (x / 2) (by omega)
      omega

theorem len64_any (x : Int) (w : World) (x0 : 0 ≤ x) (x1 : x ≤ 9223372036854775807) :
    Calls Tryz.prog 144 #[.int .u64 x] w fun e w' => (∃ L : Nat, L ≤ 64 ∧ x.toNat < 2 ^ L ∧ e = .returned (.int .i64 L)) ∧ w = w' := by
  refine (Tryz.bits_Len64 x w x0 (by omega)).mono fun e w' ⟨h1, h2⟩ => ⟨⟨_, ?_, ?_, h1⟩, h2.symm⟩
  · exact Lib.bitLen_le _ 64 (Nat.le_refl _) (by omega)
  · exact bitLen_lt 64 _ (by omega)

theorem rem_split (hi lo m : Int) (hm : m = 2305843009213693951 ∨ m = 2305843009213693950) : (hi % m * 18446744073709551616 + lo) % m = (hi * 18446744073709551616 + lo) % m := by
  rcases hm with rfl | rfl <;> omega

set_option maxHeartbeats 400000 in
theorem rem64_any (hi lo m : Int) (w : World) (h0 : 0 ≤ hi) (l0 : U64 lo) (hm : m = 2305843009213693951 ∨ m = 2305843009213693950) :
    Calls Tryz.prog 169 #[.int .u64 hi, .int .u64 lo, .int .u64 m] w fun e w' => e = .returned (.int .u64 ((hi * 18446744073709551616 + lo) % m)) ∧ Q w w' := by
  have er := rem_split hi lo m hm
  rw [← er]
  clear er
  rcases hm with rfl | rfl
  · obtain ⟨b0, b1⟩ := emod_bd hi (show (0 : Int) < 2305843009213693951 by decide)
    go_enter Tryz.func169, Tryz.ntmps169
    go_wp2_with (go_at_call 179; refine (div64_P _ _ _ b0 b1 l0).mono ?_; rintro e w' ⟨⟨q, rfl⟩, hq⟩)
    go_ret
    exact ⟨rfl, hq⟩
  · obtain ⟨b0, b1⟩ := emod_bd hi (show (0 : Int) < 2305843009213693950 by decide)
    go_enter Tryz.func169, Tryz.ntmps169
    go_wp2_with (go_at_call 179; refine (div64_N _ _ _ b0 b1 l0).mono ?_; rintro e w' ⟨⟨q, rfl⟩, hq⟩)
    go_ret
    exact ⟨rfl, hq⟩


end Go.Proofs.YtjfcllanochhmaaGreatDoor.Grp
