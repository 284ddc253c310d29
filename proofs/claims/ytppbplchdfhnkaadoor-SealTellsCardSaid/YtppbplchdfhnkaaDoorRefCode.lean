/-
  The contracts of package agoraref02's Num, Text and List.
-/
import Derived.Test.YtppbplchdfhnkaaDoorCode
import Derived.Deep.RegionWith
set_option linter.unusedVariables false
set_option linter.unusedSimpArgs false
namespace Go.Proofs.YtppbplchdfhnkaaDoor.Code
open Go.RowKit Grp Mem

/-- A row just laid, as an owned slice. -/
theorem owns_new (w : World) (t : TypeId) (cs : Array Value) (n : Nat) (hn : cs.size = n) (hm : n ≤ maxLen) : Owns (w.alloc (.cells cs t)) w.heap.size t 1 (.slice (some ⟨w.heap.size, 0, none⟩) n n) n cs.toList := by
  subst hn
  exact ⟨by simp, .inr ⟨w.heap.size, cs.size, cs, (0, 0), rfl, Nat.le_refl _, heap_alloc_new w _, .inl rfl, Nat.le_refl _, hm, by simp, by rw [Nat.mul_one, ← Array.length_toList, List.take_length]⟩⟩

theorem one_byte (b : Nat) (x : Int) (h : b < 256) (hx : x = b) (W : World) (g : Nat) (hc : W.cell? ⟨g, 0, none⟩ = some (.int .u8 x)) :
    (convert 93 9 (.slice (some ⟨g, 0, none⟩) 1 1)).run Tryd.prog W = .ok (.string ⟨#[UInt8.ofNat b]⟩) W := by
  subst hx
  refine run_convert_bytes_back (P := Tryd.prog) W 93 9 5 ⟨g, 0, none⟩ 1 [UInt8.ofNat b] Tryd.underlying93 Tryd.underlying5 Tryd.underlying9 (fun j hj => ?_)
  have hj0 : j = 0 := by simp at hj; omega
  subst hj0
  have : (UInt8.ofNat b).toNat = b := by simp [UInt8.toNat_ofNat', Nat.mod_eq_of_lt h]
  have hadd : (⟨g, 0, none⟩ : Addr).add 0 = ⟨g, 0, none⟩ := rfl
  rw [hadd, hc]
  simp [this]

theorem q_alloc {w0 w : World} (hq : Q w0 w) (o : Obj) : Q w0 (w.alloc o) := Below.alloc hq hq.size o
theorem q_allocd {w0 w : World} (hq : Q w0 w) (o : Obj) : Q w0 (w.alloc o).drew := (q_alloc hq o).drew
theorem u8_bd (y : Int) : 0 ≤ IntKind.u8.wrap y ∧ IntKind.u8.wrap y < 256 := by rw [IntKind.wrap_u8]; omega
theorem conv_cell (W : World) (g : Nat) (y : Int) (hc : W.cell? ⟨g, 0, none⟩ = some (.int .u8 (IntKind.u8.wrap y))) :
    (convert 93 9 (.slice (some ⟨g, 0, none⟩) 1 1)).run Tryd.prog W = .ok (.string ⟨#[UInt8.ofNat (IntKind.u8.wrap y).toNat]⟩) W :=
  one_byte (IntKind.u8.wrap y).toNat _ (by have := u8_bd y; omega) (by have := u8_bd y; omega) W g hc
theorem conv_new (W : World) (y : Int) (t : TypeId) : (convert 93 9 (.slice (some ⟨W.heap.size, 0, none⟩) 1 1)).run Tryd.prog (W.alloc (.cells #[.int .u8 (IntKind.u8.wrap y)] t)) = .ok (.string ⟨#[UInt8.ofNat (IntKind.u8.wrap y).toNat]⟩) (W.alloc (.cells #[.int .u8 (IntKind.u8.wrap y)] t)) :=
  conv_cell _ _ y ((Blk.new W t _).cell 0)
theorem conv_newd (W : World) (y : Int) (t : TypeId) : (convert 93 9 (.slice (some ⟨W.heap.size, 0, none⟩) 1 1)).run Tryd.prog (W.alloc (.cells #[.int .u8 (IntKind.u8.wrap y)] t)).drew = .ok (.string ⟨#[UInt8.ofNat (IntKind.u8.wrap y).toNat]⟩) (W.alloc (.cells #[.int .u8 (IntKind.u8.wrap y)] t)).drew :=
  conv_cell _ _ y ((Blk.new W t _).cell 0)
theorem conv_call {W W' : World} {y : Int} {t : TypeId} (hq : Q (W.alloc (.cells #[.int .u8 (IntKind.u8.wrap y)] t)) W') : (convert 93 9 (.slice (some ⟨W.heap.size, 0, none⟩) 1 1)).run Tryd.prog W' = .ok (.string ⟨#[UInt8.ofNat (IntKind.u8.wrap y).toNat]⟩) W' :=
  conv_cell _ _ y (((Blk.new W t _).q hq).cell 0)
theorem conv_calld {W W' : World} {y : Int} {t : TypeId} (hq : Q (W.alloc (.cells #[.int .u8 (IntKind.u8.wrap y)] t)).drew W') : (convert 93 9 (.slice (some ⟨W.heap.size, 0, none⟩) 1 1)).run Tryd.prog W' = .ok (.string ⟨#[UInt8.ofNat (IntKind.u8.wrap y).toNat]⟩) W' :=
  conv_cell _ _ y (((Blk.new W t _).drew.q hq).cell 0)

theorem vint_cons (f n : Nat) (h : 128 ≤ n) : (⟨#[UInt8.ofNat (128 + n % 128)]⟩ : ByteArray) ++ ⟨(vint f (n / 128)).toArray⟩ = ⟨(vint (f + 1) n).toArray⟩ := by
  apply ba_ext
  rw [ba_append, vint, if_neg (by omega)]
  simp

set_option maxRecDepth 100000 in
set_option maxHeartbeats 1000000 in
theorem RNum_f : ∀ (f n : Nat) (w : World), n < 128 ^ (f + 1) → f ≤ 9 → n ≤ 9223372036854775807 →
    Calls Tryd.prog 75 #[.int .i64 n] w fun e w' => e = .returned (.string ⟨(vint f n).toArray⟩) ∧ Q w w' := by
  intro f
  induction f with
  | zero =>
    intro n w hn _ _
    have hcv := one_byte n n (by omega) rfl
    go_enter Tryd.func75, Tryd.ntmps75
    go_wp2
    go_ret
    exact ⟨rfl, Below.alloc (Q.refl w) (Nat.le_refl _) _⟩
  | succ f ih =>
    intro n w hn hf9 h1
    by_cases hlt : n < 128
    · have hcv := one_byte n n (by omega) rfl
      have hv : vint (f + 1) n = [UInt8.ofNat n] := by rw [vint, if_pos hlt]
      rw [hv]
      clear hv ih
      go_enter Tryd.func75, Tryd.ntmps75
      go_wp2
      go_ret
      exact ⟨rfl, Below.alloc (Q.refl w) (Nat.le_refl _) _⟩
    · have hcat := vint_cons f n (by omega)
      have hfd : n / 128 < 128 ^ (f + 1) := by rw [Nat.pow_succ] at hn; omega
      have hih := fun W => ih (n / 128) W hfd (by omega) (by omega)
      have hvl := vint_length f (n / 128)
      rw [← hcat]
      have hsz : ∀ x : UInt8, (⟨#[x]⟩ : ByteArray).size + (⟨(vint f (n / 128)).toArray⟩ : ByteArray).size ≤ 9223372036854775807 := by
        intro x
        have h1 : (⟨#[x]⟩ : ByteArray).size = 1 := rfl
        rw [h1, ba_size]
        omega
      have hwr : (IntKind.u8.wrap (IntKind.i64.wrap (128 + (n : Int).tmod 128))).toNat = 128 + n % 128 := by
        have h1 : (n : Int).tmod 128 = ((n % 128 : Nat) : Int) := by rw [Int.tmod_eq_emod_of_nonneg (by omega)]; omega
        rw [h1, IntWalk.i64_in _ ⟨by omega, by omega⟩, IntKind.wrap_u8]
        omega
      have HW := Lib.hid hwr
      have hih : ∀ W, Calls Tryd.prog 75 #[.int .i64 ((n / 128 : Nat) : Int)] W fun e w' => e = .returned (.string ⟨(vint f (n / 128)).toArray⟩) ∧ Q W w' := hih
      have hqw : IntKind.i64.wrap ((n : Int) / 128) = ((n / 128 : Nat) : Int) := by rw [IntWalk.i64_in _ ⟨by omega, by omega⟩]; omega
      have hcv1 := conv_new
      have hcv2 := conv_newd
      have hQ0 := Q.refl w
      have hQd := (Q.refl w).drew
      have hs1 : 1 + (⟨(vint f (n / 128)).toArray⟩ : ByteArray).size ≤ 9223372036854775807 := by rw [ba_size]; omega
      have hs2 : (1 : Int) + ((⟨(vint f (n / 128)).toArray⟩ : ByteArray).size : Int) ≤ 9223372036854775807 := by rw [ba_size]; omega
      clear ih hcat hfd hn hvl hwr
      generalize (⟨(vint f (n / 128)).toArray⟩ : ByteArray) = V at *
      go_enter Tryd.func75, Tryd.ntmps75
      go_wp2_with fail
      go_region_with (first | (go_at_call 75; refine (hih _).mono ?_; rintro e w' ⟨rfl, hq⟩; first | (have hcv3 := conv_calld hq; have hq3 := Q.trans (q_allocd hQ0 _) hq) | have hq3 := Q.trans hQd hq))
      all_goals
        go_wp2
        go_ret
        exact ⟨by first | rfl | (simp; done) | (simp; rfl), by first | assumption | exact q_alloc (by assumption) _⟩

theorem vint_enough : ∀ (f n : Nat), n < 128 ^ (f + 1) → vint f n = vint (f + 1) n := by
  intro f
  induction f with
  | zero => intro n h; rw [vint, vint, if_pos (by omega)]
  | succ f ih =>
    intro n h
    rw [vint]
    conv => rhs; rw [vint]
    by_cases hlt : n < 128
    · rw [if_pos hlt, if_pos hlt]
    · rw [if_neg hlt, if_neg hlt, ih (n / 128) (by rw [Nat.pow_succ] at h; omega)]

set_option maxHeartbeats 400000 in
theorem RNum_any (n : Int) (w : World) (h1 : n ≤ 9223372036854775807) :
    Calls Tryd.prog 75 #[.int .i64 n] w fun e w' => e = .returned (.string (numB n)) ∧ Q w w' := by
  by_cases h0 : n < 0
  · have hn : numB n = ⟨#[]⟩ := by unfold numB; rw [if_pos h0]
    have HN := Lib.hid hn
    clear hn
    go_enter Tryd.func75, Tryd.ntmps75
    go_wp2
    go_ret
    exact ⟨by rw [HN.out]; rfl, Q.refl _⟩
  · obtain ⟨m, rfl⟩ := Int.eq_ofNat_of_zero_le (show 0 ≤ n by omega)
    have hn : numB (m : Int) = ⟨(vint 9 m).toArray⟩ := by unfold numB; rw [if_neg h0]; rfl
    rw [hn]
    exact RNum_f 9 m w (by have : 9223372036854775807 < 128 ^ (9 + 1) := by decide
                           omega) (by omega) (by omega)

set_option maxHeartbeats 400000 in
theorem RText_any (s : ByteArray) (w : World) (hs : s.size ≤ 140737488355327) :
    Calls Tryd.prog 99 #[.string s] w fun e w' => e = .returned (.string (textB s)) ∧ Q w w' := by
  rw [← textB_eq]
  have hsm : (numB (s.size : Int)).size + s.size ≤ 9223372036854775807 := by have := numB_size (s.size : Int); omega
  go_enter Tryd.func99, Tryd.ntmps99
  go_wp2_with (go_at_call 75; refine (RNum_any _ _ (by omega)).mono ?_; rintro e w' ⟨rfl, hq⟩)
  go_ret
  exact ⟨rfl, hq⟩

theorem uptoB_succ (l : List ByteArray) (k : Nat) (h : k < l.length) : (⟨(upto l k).toArray⟩ : ByteArray) ++ textB l[k] = ⟨(upto l (k + 1)).toArray⟩ := by
  apply ba_ext
  rw [ba_append, upto_succ l k h]
  simp [textB]
end Go.Proofs.YtppbplchdfhnkaaDoor.Code
