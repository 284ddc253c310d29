/-
  The contracts of package agoraref02's Num, Text and List.
  The contracts of agoraref02's Int, Nums, List and SameNums.
  Package agoraref13: from, sig, claimed, voted, decided and the cores (printed by gen_ref13.py).
  Package agoraref13: decided, kinds 0 to 4 (printed by gen_ref13.py).
  Package agoraref13: decided, kinds 5 to 7, 9 (printed by gen_ref13.py).
  Package agoraref13: decided, kind 8 (printed by gen_ref13.py).
  The contract of agoraref12.fits, Right, an activity out of range (printed by gen_fits.py).
  The contract of agoraref12.fits, all kinds; Right (printed by gen_fits.py).
  Package agoraref12's Right, box, Core and Bytes.
  The reference's SHA-256: the text is padded first, then read block by block. No program in this text.
  The contracts of package agoraref03's turn, firsts, adds, words and next.
  The contract of package agoraref03's next.
  The contract of package agoraref03's Sha.
  Package agoraref13: Right, Bytes, Digest and Same (printed by gen_ref13.py).
-/
import Derived.Test.YtflgkplneekpfaaGreatDoorCode
import Derived.Deep.RegionWith
import Derived.Test.YtflgkplneekpfaaGreatDoorMgTa
import Derived.Test.YtflgkplneekpfaaGreatDoorRef11
import Derived.Test.YtflgkplneekpfaaGreatDoorItemD
import Derived.Test.YtflgkplneekpfaaGreatDoorRef12
import Derived.Test.YtflgkplneekpfaaGreatDoorActD
import Derived.Test.YtflgkplneekpfaaGreatDoorRef12F
import Derived.Test.YtflgkplneekpfaaGreatDoorRef12G
import Derived.Test.YtflgkplneekpfaaGreatDoorRef12H
import Derived.Test.YtflgkplneekpfaaGreatDoorSha
import Derived.Maps.AppendAt
import Derived.Deep.RegionHeld3
import Derived.Deep.RegionLaw
import Derived.BigQuiet
import Derived.Test.YtflgkplneekpfaaGreatDoorRefSame
import Derived.Deep.Cut
set_option linter.unusedVariables false
set_option linter.unusedSimpArgs false
namespace Go.Proofs.YtflgkplneekpfaaGreatDoor.Code
open Go.RowKit Grp Mem

/-- A row just laid, as an owned slice. -/
theorem owns_new (w : World) (t : TypeId) (cs : Array Value) (n : Nat) (hn : cs.size = n) (hm : n ≤ maxLen) : Owns (w.alloc (.cells cs t)) w.heap.size t 1 (.slice (some ⟨w.heap.size, 0, none⟩) n n) n cs.toList := by
  subst hn
  exact ⟨by simp, .inr ⟨w.heap.size, cs.size, cs, (0, 0), rfl, Nat.le_refl _, heap_alloc_new w _, .inl rfl, Nat.le_refl _, hm, by simp, by rw [Nat.mul_one, ← Array.length_toList, List.take_length]⟩⟩

theorem one_byte (b : Nat) (x : Int) (h : b < 256) (hx : x = b) (W : World) (g : Nat) (hc : W.cell? ⟨g, 0, none⟩ = some (.int .u8 x)) :
    (convert 121 9 (.slice (some ⟨g, 0, none⟩) 1 1)).run Tryz.prog W = .ok (.string ⟨#[UInt8.ofNat b]⟩) W := by
  subst hx
  refine run_convert_bytes_back (P := Tryz.prog) W 121 9 5 ⟨g, 0, none⟩ 1 [UInt8.ofNat b] Tryz.underlying121 Tryz.underlying5 Tryz.underlying9 (fun j hj => ?_)
  have hj0 : j = 0 := by simp at hj; omega
  subst hj0
  have : (UInt8.ofNat b).toNat = b := by simp [UInt8.toNat_ofNat', Nat.mod_eq_of_lt h]
  have hadd : (⟨g, 0, none⟩ : Addr).add 0 = ⟨g, 0, none⟩ := rfl
  rw [hadd, hc]
  simp [this]

theorem q_alloc {w0 w : World} (hq : Q w0 w) (o : Obj) : Q w0 (w.alloc o) := Below.alloc hq hq.size o
theorem q_allocd {w0 w : World} (hq : Q w0 w) (o : Obj) : Q w0 (w.alloc o).drew := (q_alloc hq o).drew
theorem u8_bd (y : Int) : 0 ≤ IntKind.u8.wrap y ∧ IntKind.u8.wrap y < 256 := by rw [IntKind.wrap_u8]; omega
theorem conv_cell (W : World) (g : Nat) (y : Int) (hc : W.cell? ⟨g, 0, none⟩ = some (.int .u8 (IntKind.u8.wrap y))) :
    (convert 121 9 (.slice (some ⟨g, 0, none⟩) 1 1)).run Tryz.prog W = .ok (.string ⟨#[UInt8.ofNat (IntKind.u8.wrap y).toNat]⟩) W :=
  one_byte (IntKind.u8.wrap y).toNat _ (by have := u8_bd y; omega) (by have := u8_bd y; omega) W g hc
theorem conv_new (W : World) (y : Int) (t : TypeId) : (convert 121 9 (.slice (some ⟨W.heap.size, 0, none⟩) 1 1)).run Tryz.prog (W.alloc (.cells #[.int .u8 (IntKind.u8.wrap y)] t)) = .ok (.string ⟨#[UInt8.ofNat (IntKind.u8.wrap y).toNat]⟩) (W.alloc (.cells #[.int .u8 (IntKind.u8.wrap y)] t)) :=
  conv_cell _ _ y ((Blk.new W t _).cell 0)
theorem conv_newd (W : World) (y : Int) (t : TypeId) : (convert 121 9 (.slice (some ⟨W.heap.size, 0, none⟩) 1 1)).run Tryz.prog (W.alloc (.cells #[.int .u8 (IntKind.u8.wrap y)] t)).drew = .ok (.string ⟨#[UInt8.ofNat (IntKind.u8.wrap y).toNat]⟩) (W.alloc (.cells #[.int .u8 (IntKind.u8.wrap y)] t)).drew :=
  conv_cell _ _ y ((Blk.new W t _).cell 0)
theorem conv_calld {W W' : World} {y : Int} {t : TypeId} (hq : Q (W.alloc (.cells #[.int .u8 (IntKind.u8.wrap y)] t)).drew W') : (convert 121 9 (.slice (some ⟨W.heap.size, 0, none⟩) 1 1)).run Tryz.prog W' = .ok (.string ⟨#[UInt8.ofNat (IntKind.u8.wrap y).toNat]⟩) W' :=
  conv_cell _ _ y (((Blk.new W t _).drew.q hq).cell 0)

theorem vint_cons (f n : Nat) (h : 128 ≤ n) : (⟨#[UInt8.ofNat (128 + n % 128)]⟩ : ByteArray) ++ ⟨(vint f (n / 128)).toArray⟩ = ⟨(vint (f + 1) n).toArray⟩ := by
  apply ba_ext
  rw [ba_append, vint, if_neg (by omega)]
  simp

set_option maxRecDepth 100000 in
set_option maxHeartbeats 1000000 in
theorem RNum_f : ∀ (f n : Nat) (w : World), n < 128 ^ (f + 1) → f ≤ 9 → n ≤ 9223372036854775807 →
    Calls Tryz.prog 192 #[.int .i64 n] w fun e w' => e = .returned (.string ⟨(vint f n).toArray⟩) ∧ Q w w' := by
  intro f
  induction f with
  | zero =>
    intro n w hn _ _
    have hcv := one_byte n n (by omega) rfl
    go_enter Tryz.func192, Tryz.ntmps192
    go_wp2
    go_ret
    exact ⟨rfl, Below.alloc (Q.refl w) (Nat.le_refl _) _⟩
  | succ f ih =>
    intro n w hn hf9 h1
    by_cases hlt : n < 128
    · have hcv := one_byte n n (by omega) rfl
      have hv : vint (f + 1) n = [UInt8.ofNat n] := by rw [vint, if_pos hlt]
      rw [hv]
      clear hv ih
      go_enter Tryz.func192, Tryz.ntmps192
      go_wp2
      go_ret
      exact ⟨rfl, Below.alloc (Q.refl w) (Nat.le_refl _) _⟩
    · have hcat := vint_cons f n (by omega)
      have hfd : n / 128 < 128 ^ (f + 1) := by rw [Nat.pow_succ] at hn; omega
      have hih := fun W => ih (n / 128) W hfd (by omega) (by omega)
      have hvl := vint_length f (n / 128)
      rw [← hcat]
      have hsz : ∀ x : UInt8, (⟨#[x]⟩ : ByteArray).size + (⟨(vint f (n / 128)).toArray⟩ : ByteArray).size ≤ 9223372036854775807 := by
        intro x
        have h1 : (⟨#[x]⟩ : ByteArray).size = 1 := rfl
        rw [h1, ba_size]
        omega
      have hwr : (IntKind.u8.wrap (IntKind.i64.wrap (128 + (n : Int).tmod 128))).toNat = 128 + n % 128 := by
        have h1 : (n : Int).tmod 128 = ((n % 128 : Nat) : Int) := by rw [Int.tmod_eq_emod_of_nonneg (by omega)]; omega
        rw [h1, IntWalk.i64_in _ ⟨by omega, by omega⟩, IntKind.wrap_u8]
        omega
      have HW := Lib.hid hwr
      have hih : ∀ W, Calls Tryz.prog 192 #[.int .i64 ((n / 128 : Nat) : Int)] W fun e w' => e = .returned (.string ⟨(vint f (n / 128)).toArray⟩) ∧ Q W w' := hih
      have hqw : IntKind.i64.wrap ((n : Int) / 128) = ((n / 128 : Nat) : Int) := by rw [IntWalk.i64_in _ ⟨by omega, by omega⟩]; omega
      have hcv1 := conv_new
      have hcv2 := conv_newd
      have hQ0 := Q.refl w
      have hQd := (Q.refl w).drew
      have hs1 : 1 + (⟨(vint f (n / 128)).toArray⟩ : ByteArray).size ≤ 9223372036854775807 := by rw [ba_size]; omega
      have hs2 : (1 : Int) + ((⟨(vint f (n / 128)).toArray⟩ : ByteArray).size : Int) ≤ 9223372036854775807 := by rw [ba_size]; omega
      clear ih hcat hfd hn hvl hwr
      generalize (⟨(vint f (n / 128)).toArray⟩ : ByteArray) = V at *
      go_enter Tryz.func192, Tryz.ntmps192
      go_wp2_with fail
      go_region_with (first | (go_at_call 192; refine (hih _).mono ?_; rintro e w' ⟨rfl, hq⟩; first | (have hcv3 := conv_calld hq; have hq3 := Q.trans (q_allocd hQ0 _) hq) | have hq3 := Q.trans hQd hq))
      all_goals
        go_wp2
        go_ret
        exact ⟨by first | rfl | (simp; done) | (simp; rfl), by first | assumption | exact q_alloc (by assumption) _⟩

set_option maxHeartbeats 400000 in
theorem RNum_any (n : Int) (w : World) (h1 : n ≤ 9223372036854775807) :
    Calls Tryz.prog 192 #[.int .i64 n] w fun e w' => e = .returned (.string (numB n)) ∧ Q w w' := by
  by_cases h0 : n < 0
  · have hn : numB n = ⟨#[]⟩ := by unfold numB; rw [if_pos h0]
    have HN := Lib.hid hn
    clear hn
    go_enter Tryz.func192, Tryz.ntmps192
    go_wp2
    go_ret
    exact ⟨by rw [HN.out]; rfl, Q.refl _⟩
  · obtain ⟨m, rfl⟩ := Int.eq_ofNat_of_zero_le (show 0 ≤ n by omega)
    have hn : numB (m : Int) = ⟨(vint 9 m).toArray⟩ := by unfold numB; rw [if_neg h0]; rfl
    rw [hn]
    exact RNum_f 9 m w (by have : 9223372036854775807 < 128 ^ (9 + 1) := by decide
                           omega) (by omega) (by omega)

set_option maxHeartbeats 400000 in
theorem RText_any (s : ByteArray) (w : World) (hs : s.size ≤ 140737488355327) :
    Calls Tryz.prog 231 #[.string s] w fun e w' => e = .returned (.string (textB s)) ∧ Q w w' := by
  rw [← textB_eq]
  have hsm : (numB (s.size : Int)).size + s.size ≤ 9223372036854775807 := by have := numB_size (s.size : Int); omega
  go_enter Tryz.func231, Tryz.ntmps231
  go_wp2_with (go_at_call 192; refine (RNum_any _ _ (by omega)).mono ?_; rintro e w' ⟨rfl, hq⟩)
  go_ret
  exact ⟨rfl, hq⟩

theorem uptoB_succ (l : List ByteArray) (k : Nat) (h : k < l.length) : (⟨(upto l k).toArray⟩ : ByteArray) ++ textB l[k] = ⟨(upto l (k + 1)).toArray⟩ := by
  apply ba_ext
  rw [ba_append, upto_succ l k h]
  simp [textB]
end Go.Proofs.YtflgkplneekpfaaGreatDoor.Code

namespace Go.Proofs.YtflgkplneekpfaaGreatDoor.Known
open Go.RowKit Grp Mem _root_.Go.Proofs.YtflgkplneekpfaaGreatDoor.Code Sha Sign _root_.Go.Proofs.YtflgkplneekpfaaGreatDoor.Item

set_option maxHeartbeats 1000000 in
theorem RList_any (A : Option Addr) (c : Nat) (l : List ByteArray) (w : World) (hS : Strs w A l) (hl : (listL l).length ≤ 140737488355327) (hn : l.length ≤ 140737488355327) :
    Calls Tryz.prog 232 #[.slice A l.length c] w fun e w' => e = .returned (.string (listB l)) ∧ Q w w' := by
  have h0 : numB (l.length : Int) = ⟨(upto l 0).toArray⟩ := by
    rw [upto_zero]; unfold numB; rw [if_neg (by omega)]; rfl
  have H0 := Lib.hid h0
  clear h0
  go_enter Tryz.func232, Tryz.ntmps232
  go_wp2_with (go_at_call 192; refine (RNum_any _ _ (by omega)).mono ?_; rintro e w1 ⟨rfl, hq⟩)
  go_loopw [3, 4] (fun s i wr => ∃ (k : Nat) (S : ByteArray), s = .string S ∧ i = .int .i64 k ∧ k ≤ l.length ∧ Hid (S = ⟨(upto l k).toArray⟩) ∧ Q w wr) (fun _ i _ => l.length - (intOf i).toNat)
  case atStart => exact ⟨0, _, rfl, rfl, Nat.zero_le _, H0, hq⟩
  case round =>
    obtain ⟨k, S, rfl, rfl, hk, hSe, hq⟩ := hrel
    by_cases hlt : k < l.length
    · obtain ⟨b, o, rfl, hb, hcell⟩ := (hS.q hq) (by omega)
      have hce := hcell k hlt
      clear hcell
      have hle := upto_le l (k + 1) hlt
      have hus := uptoB_succ l k hlt
      have hsz : S.size + (textB l[k]).size ≤ 140737488355327 := by
        rw [upto_succ l k hlt, List.length_append] at hle
        rw [hSe.out, ba_size, show (textB l[k]).size = (textL l[k]).length from ba_size _]
        omega
      have hts : l[k].size ≤ (textB l[k]).size := by rw [show (textB l[k]).size = (textL l[k]).length from ba_size _]; unfold textL; rw [List.length_append, ba_length]; omega
      have HUS := Lib.hid hus
      clear hle hus
      generalize l[k] = z at *
      have hadd : S.size + (textB z).size ≤ 9223372036854775807 := by omega
      go_wp2_with (go_at_call 231; refine (RText_any _ _ (by omega)).mono ?_; rintro e w3 ⟨rfl, hq3⟩)
      exact ⟨⟨k + 1, _, rfl, by go_num, by omega, Lib.hid (by rw [← HUS.out, hSe.out]), Q.trans hq hq3⟩, by simp only [intOf]; omega⟩
    · have hkl : k = l.length := by omega
      have HR : Hid (S = listB l) := Lib.hid (by rw [hSe.out, hkl, upto_all]; rfl)
      clear hkl
      go_wp2
      go_ret
      exact ⟨by rw [HR.out]; rfl, hq⟩

end Go.Proofs.YtflgkplneekpfaaGreatDoor.Known

namespace Go.Proofs.YtflgkplneekpfaaGreatDoor.Item
open Go.RowKit Grp Mem _root_.Go.Proofs.YtflgkplneekpfaaGreatDoor.Code Sha Sign _root_.Go.Proofs.YtflgkplneekpfaaGreatDoor.Known

theorem from_at (n lo hi : Int) (r : Bool) (w : World) (h : withinB n lo hi = r) : Calls Tryz.prog 259 #[.int .i64 n, .int .i64 lo, .int .i64 hi] w fun e w' => e = .returned (.bool r) ∧ w = w' := by
  subst h
  by_cases h1 : lo ≤ n
  · go_enter Tryz.func259, Tryz.ntmps259
    go_wp2
    go_ret
    exact ⟨by simp [withinB, h1], rfl⟩
  · have h2 : decide (lo ≤ n) = false := by simpa using h1
    go_enter Tryz.func259, Tryz.ntmps259
    go_wp2
    go_ret
    exact ⟨by simp only [withinB, h2, Bool.false_and]; rfl, rfl⟩
set_option maxHeartbeats 2000000 in
theorem rsig_any (e s : Int) (w : World) : Calls Tryz.prog 260 #[.agg #[.int .i64 e, .int .i64 s]] w fun r w' => r = .returned (.bool (inOrd e && inOrd s)) ∧ Q w w' := by
  have hq := q_new w #[.int .i64 e, .int .i64 s] 35
  go_enter Tryz.func260, Tryz.ntmps260
  go_wp2_with (go_at_call 259; refine (from_at _ _ _ _ _ rfl).mono ?_; rintro e w' ⟨rfl, rfl⟩)
  all_goals
    go_ret
    refine ⟨?_, hq⟩
    simp_all [inOrd]
set_option maxRecDepth 100000 in
set_option maxHeartbeats 4000000 in
theorem rclaimed_any (c : ClaimV) (w : World) (ho : ClaimOk c) : Calls Tryz.prog 227 #[.agg (claimA c)] w fun e w' => e = .returned (.bool (claimRight c)) ∧ Q w w' := by
  obtain ⟨w1, x, hx, hq1, hlt, hr⟩ := boxed2 w 37 c.cells
  have hx : w.alloc (.cells (claimA c) 37) = x.w := hx
  have c0 := Wd.at0 hlt hr 0 rfl
  have c1 := Wd.at0 hlt hr 1 rfl
  have c2 := Wd.at0 hlt hr 2 rfl
  have c3 := Wd.at0 hlt hr 3 rfl
  have c4 := Wd.at0 hlt hr 4 rfl
  have c5 := Wd.at0 hlt hr 5 rfl
  have c6 := Wd.at0 hlt hr 6 rfl
  have c7 := Wd.at0 hlt hr 7 rfl
  have c8 := Wd.at0 hlt hr 8 rfl
  have hza : c.actor.size ≤ maxLen := ho.strs _ (by simp)
  clear hlt hr ho
  go_enter Tryz.func227, Tryz.ntmps227
  go_wp2_with (first | (go_at_call 259; refine (from_at _ _ _ _ _ rfl).mono ?_; rintro e w' ⟨rfl, rfl⟩) | (go_at_call 257; refine (ridRight_any _ _ hza).mono ?_; rintro e w' ⟨rfl, rfl⟩) | (go_at_call 260; refine (rsig_any _ _ _).mono ?_; rintro e w' ⟨rfl, hq2⟩; obtain ⟨y, rfl⟩ := Wd.next _ hq2; clear hq2))
  all_goals
    go_ret
    refine ⟨?_, Q.trans hq1 (Wd.q _)⟩
    simp_all [claimRight, digestB, cast32]
set_option maxRecDepth 100000 in
set_option maxHeartbeats 4000000 in
theorem rvoted_any (b : BallotV) (w : World) (ho : BallotOk b) : Calls Tryz.prog 228 #[.agg (ballotA b)] w fun e w' => e = .returned (.bool (ballotRight b)) ∧ Q w w' := by
  obtain ⟨w1, x, hx, hq1, hlt, hr⟩ := boxed2 w 46 b.cells
  have hx : w.alloc (.cells (ballotA b) 46) = x.w := hx
  have c0 := Wd.at0 hlt hr 0 rfl
  have c1 := Wd.at0 hlt hr 1 rfl
  have c2 := Wd.at0 hlt hr 2 rfl
  have c3 := Wd.at0 hlt hr 3 rfl
  have c4 := Wd.at0 hlt hr 4 rfl
  have c5 := Wd.at0 hlt hr 5 rfl
  have c6 := Wd.at0 hlt hr 6 rfl
  have hza : b.actor.size ≤ maxLen := ho.strs _ (by simp)
  clear hlt hr ho
  go_enter Tryz.func228, Tryz.ntmps228
  go_wp2_with (first | (go_at_call 259; refine (from_at _ _ _ _ _ rfl).mono ?_; rintro e w' ⟨rfl, rfl⟩) | (go_at_call 257; refine (ridRight_any _ _ hza).mono ?_; rintro e w' ⟨rfl, rfl⟩) | (go_at_call 260; refine (rsig_any _ _ _).mono ?_; rintro e w' ⟨rfl, hq2⟩; obtain ⟨y, rfl⟩ := Wd.next _ hq2; clear hq2))
  all_goals
    go_ret
    refine ⟨?_, Q.trans hq1 (Wd.q _)⟩
    simp_all [ballotRight, digestB, cast32]
set_option maxRecDepth 100000 in
set_option maxHeartbeats 8000000 in
theorem rdecided_out (d : DecR) (w : World) (hI : DecIn w d) (ho : DecOk d) (h : (withinB d.server 0 19 = false) ∨ (withinB d.server 0 19 = true ∧ withinB d.number 0 1073741824 = false) ∨ (withinB d.server 0 19 = true ∧ withinB d.number 0 1073741824 = true ∧ withinB d.kind 0 9 = false) ∨ (withinB d.server 0 19 = true ∧ withinB d.number 0 1073741824 = true ∧ withinB d.kind 0 9 = true ∧ withinB d.start 0 1099511627776 = false) ∨ (withinB d.server 0 19 = true ∧ withinB d.number 0 1073741824 = true ∧ withinB d.kind 0 9 = true ∧ withinB d.start 0 1099511627776 = true ∧ withinB d.stop 0 1099511627776 = false) ∨ (withinB d.server 0 19 = true ∧ withinB d.number 0 1073741824 = true ∧ withinB d.kind 0 9 = true ∧ withinB d.start 0 1099511627776 = true ∧ withinB d.stop 0 1099511627776 = true ∧ decide (d.start < d.stop) = false) ∨ (withinB d.server 0 19 = true ∧ withinB d.number 0 1073741824 = true ∧ withinB d.kind 0 9 = true ∧ withinB d.start 0 1099511627776 = true ∧ withinB d.stop 0 1099511627776 = true ∧ decide (d.start < d.stop) = true ∧ (inOrd d.e && inOrd d.s) = false)) : Calls Tryz.prog 229 #[.agg (decA d)] w fun e w' => e = .returned (.bool false) ∧ Q w w' := by
  obtain ⟨w1, x, hx, hq1, hlt, hr⟩ := boxed2 w 48 d.cells
  have hx : w.alloc (.cells (decA d) 48) = x.w := hx
  have c0 := Wd.at0 hlt hr 0 rfl
  have c1 := Wd.at0 hlt hr 1 rfl
  have c2 := Wd.at0 hlt hr 2 rfl
  have c3 := Wd.at0 hlt hr 3 rfl
  have c4 := Wd.at0 hlt hr 4 rfl
  have c5 := Wd.at0 hlt hr 5 rfl
  have c6 := Wd.at0 hlt hr 6 rfl
  have c7 := Wd.at0 hlt hr 7 rfl
  have c8 := Wd.at0 hlt hr 8 rfl
  have c9 := Wd.at0 hlt hr 9 rfl
  have c10 := Wd.at0 hlt hr 10 rfl
  have c11 := Wd.at0 hlt hr 11 rfl
  have hS : ∀ y : Wd w1, Strs y.w d.toA d.to := fun y => (hI.q (Q.trans hq1 y.q)).to
  have hlen : d.to.length ≤ 9223372036854775807 := hI.toLen
  have hzt : ∀ s ∈ d.to, s.size ≤ maxLen := ho.to
  have hza : d.actor.size ≤ maxLen := ho.strs _ (by simp)
  clear hlt hr ho
  rcases h with g1 | ⟨g1, g2⟩ | ⟨g1, g2, g3⟩ | ⟨g1, g2, g3, g4⟩ | ⟨g1, g2, g3, g4, g5⟩ | ⟨g1, g2, g3, g4, g5, g6⟩ | ⟨g1, g2, g3, g4, g5, g6, g7⟩
  all_goals
    try simp only [decide_eq_true_eq, decide_eq_false_iff_not] at *
    go_enter Tryz.func229, Tryz.ntmps229
    go_wp2_with (first | (go_at_call 259; refine (from_at _ _ _ _ _ rfl).mono ?_; rintro e w' ⟨rfl, rfl⟩) | (go_at_call 260; refine (rsig_any _ _ _).mono ?_; rintro e w' ⟨rfl, hq2⟩; obtain ⟨y, rfl⟩ := Wd.next _ hq2; clear hq2))
    go_ret
    exact ⟨rfl, Q.trans hq1 (Wd.q _)⟩
set_option maxHeartbeats 1000000 in
theorem rsigBytes_any (e s : Int) (w : World) (h1 : e ≤ 9223372036854775807) (h2 : s ≤ 9223372036854775807) : Calls Tryz.prog 195 #[.agg #[.int .i64 e, .int .i64 s]] w fun r w' => r = .returned (.string (numB e ++ numB s)) ∧ Q w w' := by
  obtain ⟨w1, x, hx, hq1, hlt, hr⟩ := boxed w 35 [.int .i64 e, .int .i64 s]
  have c0 := Wd.at0 hlt hr 0 rfl
  have c1 := Wd.at0 hlt hr 1 rfl
  have n1 := numB_size e
  have n2 := numB_size s
  have a1 : (numB e).size + (numB s).size ≤ 9223372036854775807 := by omega
  go_enter Tryz.func195, Tryz.ntmps195
  go_wp2
  refine wp_region_wd x (by kernel_rfl) (by kernel_rfl) ?_
  repeat (go_big_quiet_step ((go_at_call 192; exact Wd.call _ (RNum_any _ _ (by omega)))))
  refine wpQuiet_nil ?_
  rintro w'' ⟨z, rfl⟩
  go_wp2
  go_ret
  exact ⟨rfl, Q.trans hq1 z.q⟩
set_option maxRecDepth 100000 in
set_option maxHeartbeats 4000000 in
theorem rcoreClaim_any (c : ClaimV) (w : World) (hz1 : c.actor.size ≤ 1000000) (hz2 : c.prev.size ≤ 1000000) (hn : c.base ≤ 9223372036854775807 ∧ c.gen ≤ 9223372036854775807 ∧ c.home ≤ 9223372036854775807 ∧ c.pub ≤ 9223372036854775807 ∧ c.time ≤ 9223372036854775807) : Calls Tryz.prog 194 #[.agg (claimA c)] w fun r w' => r = .returned (.string ⟨(claimL c).toArray⟩) ∧ Q w w' := by
  obtain ⟨w1, x, hx, hq1, hlt, hr⟩ := boxed2 w 37 c.cells
  have hx : w.alloc (.cells (claimA c) 37) = x.w := hx
  have c0 := Wd.at0 hlt hr 0 rfl
  have c1 := Wd.at0 hlt hr 1 rfl
  have c2 := Wd.at0 hlt hr 2 rfl
  have c3 := Wd.at0 hlt hr 3 rfl
  have c4 := Wd.at0 hlt hr 4 rfl
  have c5 := Wd.at0 hlt hr 5 rfl
  have c6 := Wd.at0 hlt hr 6 rfl
  have c7 := Wd.at0 hlt hr 7 rfl
  have c8 := Wd.at0 hlt hr 8 rfl
  have b0 := textB_size c.actor
  have b1 := numB_size c.base
  have f1 : (textB c.actor).size + (numB c.base).size ≤ 9223372036854775807 := by omega
  have b2 := textB_size c.prev
  have f2 : (textB c.actor).size + (numB c.base).size + (textB c.prev).size ≤ 9223372036854775807 := by omega
  have b3 := numB_size c.gen
  have f3 : (textB c.actor).size + (numB c.base).size + (textB c.prev).size + (numB c.gen).size ≤ 9223372036854775807 := by omega
  have b4 := numB_size c.home
  have f4 : (textB c.actor).size + (numB c.base).size + (textB c.prev).size + (numB c.gen).size + (numB c.home).size ≤ 9223372036854775807 := by omega
  have b5 := numB_size c.pub
  have f5 : (textB c.actor).size + (numB c.base).size + (textB c.prev).size + (numB c.gen).size + (numB c.home).size + (numB c.pub).size ≤ 9223372036854775807 := by omega
  have b6 := numB_size c.time
  have f6 : (textB c.actor).size + (numB c.base).size + (textB c.prev).size + (numB c.gen).size + (numB c.home).size + (numB c.pub).size + (numB c.time).size ≤ 9223372036854775807 := by omega
  have HR : Hid ((((((((textB c.actor) ++ (numB c.base)) ++ (textB c.prev)) ++ (numB c.gen)) ++ (numB c.home)) ++ (numB c.pub)) ++ (numB c.time)) = ⟨(claimL c).toArray⟩) := Lib.hid (by
    apply ba_ext
    rw [ba_list]
    simp only [ba_append, textB_list, numL_eq, claimL, List.append_assoc])
  clear hlt hr
  go_enter Tryz.func194, Tryz.ntmps194
  go_wp2
  refine wp_region_wd x (by kernel_rfl) (by kernel_rfl) ?_
  repeat (go_big_quiet_step (first | (go_at_call 192; exact Wd.call _ (RNum_any _ _ (by omega))) | (go_at_call 231; exact Wd.call _ (RText_any _ _ (by omega)))))
  refine wpQuiet_nil ?_
  rintro w'' ⟨z, rfl⟩
  go_wp2
  go_ret
  exact ⟨by rw [← HR.out]; rfl, Q.trans hq1 z.q⟩
set_option maxRecDepth 100000 in
set_option maxHeartbeats 4000000 in
theorem rcoreBallot_any (b : BallotV) (w : World) (hz1 : b.actor.size ≤ 1000000) (hz2 : b.claim.size ≤ 1000000) (hn : b.server ≤ 9223372036854775807 ∧ b.gen ≤ 9223372036854775807 ∧ b.time ≤ 9223372036854775807) : Calls Tryz.prog 196 #[.agg (ballotA b)] w fun r w' => r = .returned (.string ⟨(ballotL b).toArray⟩) ∧ Q w w' := by
  obtain ⟨w1, x, hx, hq1, hlt, hr⟩ := boxed2 w 46 b.cells
  have hx : w.alloc (.cells (ballotA b) 46) = x.w := hx
  have c0 := Wd.at0 hlt hr 0 rfl
  have c1 := Wd.at0 hlt hr 1 rfl
  have c2 := Wd.at0 hlt hr 2 rfl
  have c3 := Wd.at0 hlt hr 3 rfl
  have c4 := Wd.at0 hlt hr 4 rfl
  have c5 := Wd.at0 hlt hr 5 rfl
  have c6 := Wd.at0 hlt hr 6 rfl
  have b0 := numB_size b.server
  have b1 := textB_size b.actor
  have f1 : (numB b.server).size + (textB b.actor).size ≤ 9223372036854775807 := by omega
  have b2 := numB_size b.gen
  have f2 : (numB b.server).size + (textB b.actor).size + (numB b.gen).size ≤ 9223372036854775807 := by omega
  have b3 := textB_size b.claim
  have f3 : (numB b.server).size + (textB b.actor).size + (numB b.gen).size + (textB b.claim).size ≤ 9223372036854775807 := by omega
  have b4 := numB_size b.time
  have f4 : (numB b.server).size + (textB b.actor).size + (numB b.gen).size + (textB b.claim).size + (numB b.time).size ≤ 9223372036854775807 := by omega
  have HR : Hid ((((((numB b.server) ++ (textB b.actor)) ++ (numB b.gen)) ++ (textB b.claim)) ++ (numB b.time)) = ⟨(ballotL b).toArray⟩) := Lib.hid (by
    apply ba_ext
    rw [ba_list]
    simp only [ba_append, textB_list, numL_eq, ballotL, List.append_assoc])
  clear hlt hr
  go_enter Tryz.func196, Tryz.ntmps196
  go_wp2
  refine wp_region_wd x (by kernel_rfl) (by kernel_rfl) ?_
  repeat (go_big_quiet_step (first | (go_at_call 192; exact Wd.call _ (RNum_any _ _ (by omega))) | (go_at_call 231; exact Wd.call _ (RText_any _ _ (by omega)))))
  refine wpQuiet_nil ?_
  rintro w'' ⟨z, rfl⟩
  go_wp2
  go_ret
  exact ⟨by rw [← HR.out]; rfl, Q.trans hq1 z.q⟩
set_option maxRecDepth 100000 in
set_option maxHeartbeats 4000000 in
theorem rcoreDec_any (d : DecR) (w : World) (hI : DecIn w d) (hz : d.actor.size ≤ 1000000 ∧ d.object.size ≤ 1000000 ∧ d.text.size ≤ 1000000) (hl : d.to.length ≤ 1000000) (hzt : (listL d.to).length ≤ 100000000) (hn : d.server ≤ 9223372036854775807 ∧ d.number ≤ 9223372036854775807 ∧ d.kind ≤ 9223372036854775807 ∧ d.n ≤ 9223372036854775807 ∧ d.start ≤ 9223372036854775807 ∧ d.stop ≤ 9223372036854775807) : Calls Tryz.prog 197 #[.agg (decA d)] w fun r w' => r = .returned (.string ⟨(decL d).toArray⟩) ∧ Q w w' := by
  obtain ⟨w1, x, hx, hq1, hlt, hr⟩ := boxed2 w 48 d.cells
  have hx : w.alloc (.cells (decA d) 48) = x.w := hx
  have c0 := Wd.at0 hlt hr 0 rfl
  have c1 := Wd.at0 hlt hr 1 rfl
  have c2 := Wd.at0 hlt hr 2 rfl
  have c3 := Wd.at0 hlt hr 3 rfl
  have c4 := Wd.at0 hlt hr 4 rfl
  have c5 := Wd.at0 hlt hr 5 rfl
  have c6 := Wd.at0 hlt hr 6 rfl
  have c7 := Wd.at0 hlt hr 7 rfl
  have c8 := Wd.at0 hlt hr 8 rfl
  have c9 := Wd.at0 hlt hr 9 rfl
  have c10 := Wd.at0 hlt hr 10 rfl
  have c11 := Wd.at0 hlt hr 11 rfl
  have hS : ∀ y : Wd w1, Strs y.w d.toA d.to := fun y => (hI.q (Q.trans hq1 y.q)).to
  have b10' := listB_size d.to
  have b0 := numB_size d.server
  have b1 := numB_size d.number
  have f1 : (numB d.server).size + (numB d.number).size ≤ 9223372036854775807 := by omega
  have b2 := numB_size d.kind
  have f2 : (numB d.server).size + (numB d.number).size + (numB d.kind).size ≤ 9223372036854775807 := by omega
  have b3 := textB_size d.actor
  have f3 : (numB d.server).size + (numB d.number).size + (numB d.kind).size + (textB d.actor).size ≤ 9223372036854775807 := by omega
  have b4 := textB_size d.object
  have f4 : (numB d.server).size + (numB d.number).size + (numB d.kind).size + (textB d.actor).size + (textB d.object).size ≤ 9223372036854775807 := by omega
  have b5 := textB_size d.text
  have f5 : (numB d.server).size + (numB d.number).size + (numB d.kind).size + (textB d.actor).size + (textB d.object).size + (textB d.text).size ≤ 9223372036854775807 := by omega
  clear hlt hr
  go_enter Tryz.func197, Tryz.ntmps197
  go_wp2
  refine wp_region_wd x (by kernel_rfl) (by kernel_rfl) ?_
  repeat (go_big_quiet_step (first | (go_at_call 192; exact Wd.call _ (RNum_any _ _ (by omega))) | (go_at_call 231; exact Wd.call _ (RText_any _ _ (by omega)))))
  refine wpQuiet_nil ?_
  rintro w'' ⟨z, rfl⟩
  generalize hS3 : ((((((numB d.server) ++ (numB d.number)) ++ (numB d.kind)) ++ (textB d.actor)) ++ (textB d.object)) ++ (textB d.text)) = S3
  have s3 : S3.size ≤ 4000000 := by rw [← hS3]; simp only [ByteArray.size_append]; omega
  have H3 := Lib.hid hS3
  clear hS3 f1 f2 f3 f4 f5 b0 b1 b2 b3 b4 b5
  have f0 : S3.size + (listB d.to).size ≤ 9223372036854775807 := by omega
  have b1 := numB_size d.n
  have f1 : S3.size + (listB d.to).size + (numB d.n).size ≤ 9223372036854775807 := by omega
  have b2 := numB_size d.start
  have f2 : S3.size + (listB d.to).size + (numB d.n).size + (numB d.start).size ≤ 9223372036854775807 := by omega
  have b3 := numB_size d.stop
  have f3 : S3.size + (listB d.to).size + (numB d.n).size + (numB d.start).size + (numB d.stop).size ≤ 9223372036854775807 := by omega
  have HR : Hid (((((S3 ++ (listB d.to)) ++ (numB d.n)) ++ (numB d.start)) ++ (numB d.stop)) = ⟨(decL d).toArray⟩) := Lib.hid (by
    apply ba_ext
    rw [ba_list, ← H3.out]
    simp only [ba_append, textB_list, numL_eq, listB_list, decL, List.append_assoc])
  go_wp2
  refine wp_region_wd z (by kernel_rfl) (by kernel_rfl) ?_
  repeat (go_big_quiet_step (first | (go_at_call 192; exact Wd.call _ (RNum_any _ _ (by omega))) | (go_at_call 232; exact Wd.call _ (RList_any _ _ _ _ (hS _) (by omega) (by omega)))))
  refine wpQuiet_nil ?_
  rintro w'' ⟨z2, rfl⟩
  go_wp2
  go_ret
  exact ⟨by rw [← HR.out]; rfl, Q.trans hq1 z2.q⟩
end Go.Proofs.YtflgkplneekpfaaGreatDoor.Item

namespace Go.Proofs.YtflgkplneekpfaaGreatDoor.Item
open Go.RowKit Grp Mem _root_.Go.Proofs.YtflgkplneekpfaaGreatDoor.Code Sha Sign _root_.Go.Proofs.YtflgkplneekpfaaGreatDoor.Known

set_option maxRecDepth 100000 in
set_option maxHeartbeats 16000000 in
theorem rdecided_0 (d : DecR) (w : World) (hI : DecIn w d) (ho : DecOk d) (hk : d.kind = 0) (g1 : withinB d.server 0 19 = true) (g2 : withinB d.number 0 1073741824 = true) (g3 : withinB d.kind 0 9 = true) (g4 : withinB d.start 0 1099511627776 = true) (g5 : withinB d.stop 0 1099511627776 = true) (g6 : d.start < d.stop) (g7 : (inOrd d.e && inOrd d.s) = true) : Calls Tryz.prog 229 #[.agg (decA d)] w fun e w' => e = .returned (.bool (termsB d)) ∧ Q w w' := by
  obtain ⟨w1, x, hx, hq1, hlt, hr⟩ := boxed2 w 48 d.cells
  have hx : w.alloc (.cells (decA d) 48) = x.w := hx
  have c0 := Wd.at0 hlt hr 0 rfl
  have c1 := Wd.at0 hlt hr 1 rfl
  have c2 := Wd.at0 hlt hr 2 rfl
  have c3 := Wd.at0 hlt hr 3 rfl
  have c4 := Wd.at0 hlt hr 4 rfl
  have c5 := Wd.at0 hlt hr 5 rfl
  have c6 := Wd.at0 hlt hr 6 rfl
  have c7 := Wd.at0 hlt hr 7 rfl
  have c8 := Wd.at0 hlt hr 8 rfl
  have c9 := Wd.at0 hlt hr 9 rfl
  have c10 := Wd.at0 hlt hr 10 rfl
  have c11 := Wd.at0 hlt hr 11 rfl
  have hS : ∀ y : Wd w1, Strs y.w d.toA d.to := fun y => (hI.q (Q.trans hq1 y.q)).to
  have hlen : d.to.length ≤ 9223372036854775807 := hI.toLen
  have hzt : ∀ s ∈ d.to, s.size ≤ maxLen := ho.to
  have hza : d.actor.size ≤ maxLen := ho.strs _ (by simp)
  clear hlt hr ho
  rw [hk] at c2 g3
  go_enter Tryz.func229, Tryz.ntmps229
  go_wp2_with (first | (go_at_call 259; refine (from_at _ _ _ _ _ rfl).mono ?_; rintro e w' ⟨rfl, rfl⟩) | (go_at_call 260; refine (rsig_any _ _ _).mono ?_; rintro e w' ⟨rfl, hq2⟩; obtain ⟨y, rfl⟩ := Wd.next _ hq2; clear hq2) | (go_at_call 257; refine (ridRight_any _ _ hza).mono ?_; rintro e w' ⟨rfl, rfl⟩) | (go_at_call 261; refine (rids_any _ _ _ _ (hS _) hlen hzt).mono ?_; rintro e w' ⟨rfl, hq2⟩; obtain ⟨y, rfl⟩ := Wd.next _ hq2; clear hq2))
  all_goals
    go_ret
    refine ⟨?_, Q.trans hq1 (Wd.q _)⟩
    clear c0 c1 c2 c3 c4 c5 c6 c7 c8 c9 c10 c11 hx hS g1 g2 g3 g4 g5 g6 g7 hza hzt hlen
    simp_all [termsB, plainD, shortB, digestB, empty_none, cast0, cast32, toList_nil, cast500, cast4096, le500, lt500, le4096, lt4096, intz2]
  all_goals (first | omega | (intro h; omega) | (intros; simp_all) | (intros; omega))
set_option maxRecDepth 100000 in
set_option maxHeartbeats 16000000 in
theorem rdecided_1 (d : DecR) (w : World) (hI : DecIn w d) (ho : DecOk d) (hk : d.kind = 1) (g1 : withinB d.server 0 19 = true) (g2 : withinB d.number 0 1073741824 = true) (g3 : withinB d.kind 0 9 = true) (g4 : withinB d.start 0 1099511627776 = true) (g5 : withinB d.stop 0 1099511627776 = true) (g6 : d.start < d.stop) (g7 : (inOrd d.e && inOrd d.s) = true) : Calls Tryz.prog 229 #[.agg (decA d)] w fun e w' => e = .returned (.bool (termsB d)) ∧ Q w w' := by
  obtain ⟨w1, x, hx, hq1, hlt, hr⟩ := boxed2 w 48 d.cells
  have hx : w.alloc (.cells (decA d) 48) = x.w := hx
  have c0 := Wd.at0 hlt hr 0 rfl
  have c1 := Wd.at0 hlt hr 1 rfl
  have c2 := Wd.at0 hlt hr 2 rfl
  have c3 := Wd.at0 hlt hr 3 rfl
  have c4 := Wd.at0 hlt hr 4 rfl
  have c5 := Wd.at0 hlt hr 5 rfl
  have c6 := Wd.at0 hlt hr 6 rfl
  have c7 := Wd.at0 hlt hr 7 rfl
  have c8 := Wd.at0 hlt hr 8 rfl
  have c9 := Wd.at0 hlt hr 9 rfl
  have c10 := Wd.at0 hlt hr 10 rfl
  have c11 := Wd.at0 hlt hr 11 rfl
  have hS : ∀ y : Wd w1, Strs y.w d.toA d.to := fun y => (hI.q (Q.trans hq1 y.q)).to
  have hlen : d.to.length ≤ 9223372036854775807 := hI.toLen
  have hzt : ∀ s ∈ d.to, s.size ≤ maxLen := ho.to
  have hza : d.actor.size ≤ maxLen := ho.strs _ (by simp)
  clear hlt hr ho
  rw [hk] at c2 g3
  go_enter Tryz.func229, Tryz.ntmps229
  go_wp2_with (first | (go_at_call 259; refine (from_at _ _ _ _ _ rfl).mono ?_; rintro e w' ⟨rfl, rfl⟩) | (go_at_call 260; refine (rsig_any _ _ _).mono ?_; rintro e w' ⟨rfl, hq2⟩; obtain ⟨y, rfl⟩ := Wd.next _ hq2; clear hq2) | (go_at_call 257; refine (ridRight_any _ _ hza).mono ?_; rintro e w' ⟨rfl, rfl⟩) | (go_at_call 261; refine (rids_any _ _ _ _ (hS _) hlen hzt).mono ?_; rintro e w' ⟨rfl, hq2⟩; obtain ⟨y, rfl⟩ := Wd.next _ hq2; clear hq2))
  all_goals
    go_ret
    refine ⟨?_, Q.trans hq1 (Wd.q _)⟩
    clear c0 c1 c2 c3 c4 c5 c6 c7 c8 c9 c10 c11 hx hS g1 g2 g3 g4 g5 g6 g7 hza hzt hlen
    simp_all [termsB, plainD, shortB, digestB, empty_none, cast0, cast32, toList_nil, cast500, cast4096, le500, lt500, le4096, lt4096, intz2]
  all_goals (first | omega | (intro h; omega) | (intros; simp_all) | (intros; omega))
set_option maxRecDepth 100000 in
set_option maxHeartbeats 16000000 in
theorem rdecided_2 (d : DecR) (w : World) (hI : DecIn w d) (ho : DecOk d) (hk : d.kind = 2) (g1 : withinB d.server 0 19 = true) (g2 : withinB d.number 0 1073741824 = true) (g3 : withinB d.kind 0 9 = true) (g4 : withinB d.start 0 1099511627776 = true) (g5 : withinB d.stop 0 1099511627776 = true) (g6 : d.start < d.stop) (g7 : (inOrd d.e && inOrd d.s) = true) : Calls Tryz.prog 229 #[.agg (decA d)] w fun e w' => e = .returned (.bool (termsB d)) ∧ Q w w' := by
  obtain ⟨w1, x, hx, hq1, hlt, hr⟩ := boxed2 w 48 d.cells
  have hx : w.alloc (.cells (decA d) 48) = x.w := hx
  have c0 := Wd.at0 hlt hr 0 rfl
  have c1 := Wd.at0 hlt hr 1 rfl
  have c2 := Wd.at0 hlt hr 2 rfl
  have c3 := Wd.at0 hlt hr 3 rfl
  have c4 := Wd.at0 hlt hr 4 rfl
  have c5 := Wd.at0 hlt hr 5 rfl
  have c6 := Wd.at0 hlt hr 6 rfl
  have c7 := Wd.at0 hlt hr 7 rfl
  have c8 := Wd.at0 hlt hr 8 rfl
  have c9 := Wd.at0 hlt hr 9 rfl
  have c10 := Wd.at0 hlt hr 10 rfl
  have c11 := Wd.at0 hlt hr 11 rfl
  have hS : ∀ y : Wd w1, Strs y.w d.toA d.to := fun y => (hI.q (Q.trans hq1 y.q)).to
  have hlen : d.to.length ≤ 9223372036854775807 := hI.toLen
  have hzt : ∀ s ∈ d.to, s.size ≤ maxLen := ho.to
  have hza : d.actor.size ≤ maxLen := ho.strs _ (by simp)
  clear hlt hr ho
  rw [hk] at c2 g3
  go_enter Tryz.func229, Tryz.ntmps229
  go_wp2_with (first | (go_at_call 259; refine (from_at _ _ _ _ _ rfl).mono ?_; rintro e w' ⟨rfl, rfl⟩) | (go_at_call 260; refine (rsig_any _ _ _).mono ?_; rintro e w' ⟨rfl, hq2⟩; obtain ⟨y, rfl⟩ := Wd.next _ hq2; clear hq2) | (go_at_call 257; refine (ridRight_any _ _ hza).mono ?_; rintro e w' ⟨rfl, rfl⟩) | (go_at_call 261; refine (rids_any _ _ _ _ (hS _) hlen hzt).mono ?_; rintro e w' ⟨rfl, hq2⟩; obtain ⟨y, rfl⟩ := Wd.next _ hq2; clear hq2))
  all_goals
    go_ret
    refine ⟨?_, Q.trans hq1 (Wd.q _)⟩
    clear c0 c1 c2 c3 c4 c5 c6 c7 c8 c9 c10 c11 hx hS g1 g2 g3 g4 g5 g6 g7 hza hzt hlen
    simp_all [termsB, plainD, shortB, digestB, empty_none, cast0, cast32, toList_nil, cast500, cast4096, le500, lt500, le4096, lt4096, intz2]
  all_goals (first | omega | (intro h; omega) | (intros; simp_all) | (intros; omega))
set_option maxRecDepth 100000 in
set_option maxHeartbeats 16000000 in
theorem rdecided_3 (d : DecR) (w : World) (hI : DecIn w d) (ho : DecOk d) (hk : d.kind = 3) (g1 : withinB d.server 0 19 = true) (g2 : withinB d.number 0 1073741824 = true) (g3 : withinB d.kind 0 9 = true) (g4 : withinB d.start 0 1099511627776 = true) (g5 : withinB d.stop 0 1099511627776 = true) (g6 : d.start < d.stop) (g7 : (inOrd d.e && inOrd d.s) = true) : Calls Tryz.prog 229 #[.agg (decA d)] w fun e w' => e = .returned (.bool (termsB d)) ∧ Q w w' := by
  obtain ⟨w1, x, hx, hq1, hlt, hr⟩ := boxed2 w 48 d.cells
  have hx : w.alloc (.cells (decA d) 48) = x.w := hx
  have c0 := Wd.at0 hlt hr 0 rfl
  have c1 := Wd.at0 hlt hr 1 rfl
  have c2 := Wd.at0 hlt hr 2 rfl
  have c3 := Wd.at0 hlt hr 3 rfl
  have c4 := Wd.at0 hlt hr 4 rfl
  have c5 := Wd.at0 hlt hr 5 rfl
  have c6 := Wd.at0 hlt hr 6 rfl
  have c7 := Wd.at0 hlt hr 7 rfl
  have c8 := Wd.at0 hlt hr 8 rfl
  have c9 := Wd.at0 hlt hr 9 rfl
  have c10 := Wd.at0 hlt hr 10 rfl
  have c11 := Wd.at0 hlt hr 11 rfl
  have hS : ∀ y : Wd w1, Strs y.w d.toA d.to := fun y => (hI.q (Q.trans hq1 y.q)).to
  have hlen : d.to.length ≤ 9223372036854775807 := hI.toLen
  have hzt : ∀ s ∈ d.to, s.size ≤ maxLen := ho.to
  have hza : d.actor.size ≤ maxLen := ho.strs _ (by simp)
  clear hlt hr ho
  rw [hk] at c2 g3
  go_enter Tryz.func229, Tryz.ntmps229
  go_wp2_with (first | (go_at_call 259; refine (from_at _ _ _ _ _ rfl).mono ?_; rintro e w' ⟨rfl, rfl⟩) | (go_at_call 260; refine (rsig_any _ _ _).mono ?_; rintro e w' ⟨rfl, hq2⟩; obtain ⟨y, rfl⟩ := Wd.next _ hq2; clear hq2) | (go_at_call 257; refine (ridRight_any _ _ hza).mono ?_; rintro e w' ⟨rfl, rfl⟩) | (go_at_call 261; refine (rids_any _ _ _ _ (hS _) hlen hzt).mono ?_; rintro e w' ⟨rfl, hq2⟩; obtain ⟨y, rfl⟩ := Wd.next _ hq2; clear hq2))
  all_goals
    go_ret
    refine ⟨?_, Q.trans hq1 (Wd.q _)⟩
    clear c0 c1 c2 c3 c4 c5 c6 c7 c8 c9 c10 c11 hx hS g1 g2 g3 g4 g5 g6 g7 hza hzt hlen
    simp_all [termsB, plainD, shortB, digestB, empty_none, cast0, cast32, toList_nil, cast500, cast4096, le500, lt500, le4096, lt4096, intz2]
  all_goals (first | omega | (intro h; omega) | (intros; simp_all) | (intros; omega))
set_option maxRecDepth 100000 in
set_option maxHeartbeats 16000000 in
theorem rdecided_4 (d : DecR) (w : World) (hI : DecIn w d) (ho : DecOk d) (hk : d.kind = 4) (g1 : withinB d.server 0 19 = true) (g2 : withinB d.number 0 1073741824 = true) (g3 : withinB d.kind 0 9 = true) (g4 : withinB d.start 0 1099511627776 = true) (g5 : withinB d.stop 0 1099511627776 = true) (g6 : d.start < d.stop) (g7 : (inOrd d.e && inOrd d.s) = true) : Calls Tryz.prog 229 #[.agg (decA d)] w fun e w' => e = .returned (.bool (termsB d)) ∧ Q w w' := by
  obtain ⟨w1, x, hx, hq1, hlt, hr⟩ := boxed2 w 48 d.cells
  have hx : w.alloc (.cells (decA d) 48) = x.w := hx
  have c0 := Wd.at0 hlt hr 0 rfl
  have c1 := Wd.at0 hlt hr 1 rfl
  have c2 := Wd.at0 hlt hr 2 rfl
  have c3 := Wd.at0 hlt hr 3 rfl
  have c4 := Wd.at0 hlt hr 4 rfl
  have c5 := Wd.at0 hlt hr 5 rfl
  have c6 := Wd.at0 hlt hr 6 rfl
  have c7 := Wd.at0 hlt hr 7 rfl
  have c8 := Wd.at0 hlt hr 8 rfl
  have c9 := Wd.at0 hlt hr 9 rfl
  have c10 := Wd.at0 hlt hr 10 rfl
  have c11 := Wd.at0 hlt hr 11 rfl
  have hS : ∀ y : Wd w1, Strs y.w d.toA d.to := fun y => (hI.q (Q.trans hq1 y.q)).to
  have hlen : d.to.length ≤ 9223372036854775807 := hI.toLen
  have hzt : ∀ s ∈ d.to, s.size ≤ maxLen := ho.to
  have hza : d.actor.size ≤ maxLen := ho.strs _ (by simp)
  clear hlt hr ho
  rw [hk] at c2 g3
  go_enter Tryz.func229, Tryz.ntmps229
  go_wp2_with (first | (go_at_call 259; refine (from_at _ _ _ _ _ rfl).mono ?_; rintro e w' ⟨rfl, rfl⟩) | (go_at_call 260; refine (rsig_any _ _ _).mono ?_; rintro e w' ⟨rfl, hq2⟩; obtain ⟨y, rfl⟩ := Wd.next _ hq2; clear hq2) | (go_at_call 257; refine (ridRight_any _ _ hza).mono ?_; rintro e w' ⟨rfl, rfl⟩) | (go_at_call 261; refine (rids_any _ _ _ _ (hS _) hlen hzt).mono ?_; rintro e w' ⟨rfl, hq2⟩; obtain ⟨y, rfl⟩ := Wd.next _ hq2; clear hq2))
  all_goals
    go_ret
    refine ⟨?_, Q.trans hq1 (Wd.q _)⟩
    clear c0 c1 c2 c3 c4 c5 c6 c7 c8 c9 c10 c11 hx hS g1 g2 g3 g4 g5 g6 g7 hza hzt hlen
    simp_all [termsB, plainD, shortB, digestB, empty_none, cast0, cast32, toList_nil, cast500, cast4096, le500, lt500, le4096, lt4096, intz2]
  all_goals (first | omega | (intro h; omega) | (intros; simp_all) | (intros; omega))
end Go.Proofs.YtflgkplneekpfaaGreatDoor.Item

namespace Go.Proofs.YtflgkplneekpfaaGreatDoor.Item
open Go.RowKit Grp Mem _root_.Go.Proofs.YtflgkplneekpfaaGreatDoor.Code Sha Sign _root_.Go.Proofs.YtflgkplneekpfaaGreatDoor.Known

set_option maxRecDepth 100000 in
set_option maxHeartbeats 16000000 in
theorem rdecided_5 (d : DecR) (w : World) (hI : DecIn w d) (ho : DecOk d) (hk : d.kind = 5) (g1 : withinB d.server 0 19 = true) (g2 : withinB d.number 0 1073741824 = true) (g3 : withinB d.kind 0 9 = true) (g4 : withinB d.start 0 1099511627776 = true) (g5 : withinB d.stop 0 1099511627776 = true) (g6 : d.start < d.stop) (g7 : (inOrd d.e && inOrd d.s) = true) : Calls Tryz.prog 229 #[.agg (decA d)] w fun e w' => e = .returned (.bool (termsB d)) ∧ Q w w' := by
  obtain ⟨w1, x, hx, hq1, hlt, hr⟩ := boxed2 w 48 d.cells
  have hx : w.alloc (.cells (decA d) 48) = x.w := hx
  have c0 := Wd.at0 hlt hr 0 rfl
  have c1 := Wd.at0 hlt hr 1 rfl
  have c2 := Wd.at0 hlt hr 2 rfl
  have c3 := Wd.at0 hlt hr 3 rfl
  have c4 := Wd.at0 hlt hr 4 rfl
  have c5 := Wd.at0 hlt hr 5 rfl
  have c6 := Wd.at0 hlt hr 6 rfl
  have c7 := Wd.at0 hlt hr 7 rfl
  have c8 := Wd.at0 hlt hr 8 rfl
  have c9 := Wd.at0 hlt hr 9 rfl
  have c10 := Wd.at0 hlt hr 10 rfl
  have c11 := Wd.at0 hlt hr 11 rfl
  have hS : ∀ y : Wd w1, Strs y.w d.toA d.to := fun y => (hI.q (Q.trans hq1 y.q)).to
  have hlen : d.to.length ≤ 9223372036854775807 := hI.toLen
  have hzt : ∀ s ∈ d.to, s.size ≤ maxLen := ho.to
  have hza : d.actor.size ≤ maxLen := ho.strs _ (by simp)
  clear hlt hr ho
  rw [hk] at c2 g3
  go_enter Tryz.func229, Tryz.ntmps229
  go_wp2_with (first | (go_at_call 259; refine (from_at _ _ _ _ _ rfl).mono ?_; rintro e w' ⟨rfl, rfl⟩) | (go_at_call 260; refine (rsig_any _ _ _).mono ?_; rintro e w' ⟨rfl, hq2⟩; obtain ⟨y, rfl⟩ := Wd.next _ hq2; clear hq2) | (go_at_call 257; refine (ridRight_any _ _ hza).mono ?_; rintro e w' ⟨rfl, rfl⟩) | (go_at_call 261; refine (rids_any _ _ _ _ (hS _) hlen hzt).mono ?_; rintro e w' ⟨rfl, hq2⟩; obtain ⟨y, rfl⟩ := Wd.next _ hq2; clear hq2))
  all_goals
    go_ret
    refine ⟨?_, Q.trans hq1 (Wd.q _)⟩
    clear c0 c1 c2 c3 c4 c5 c6 c7 c8 c9 c10 c11 hx hS g1 g2 g3 g4 g5 g6 g7 hza hzt hlen
    simp_all [termsB, plainD, shortB, digestB, empty_none, cast0, cast32, toList_nil, cast500, cast4096, le500, lt500, le4096, lt4096, intz2]
  all_goals (first | omega | (intro h; omega) | (intros; simp_all) | (intros; omega))
set_option maxRecDepth 100000 in
set_option maxHeartbeats 16000000 in
theorem rdecided_6 (d : DecR) (w : World) (hI : DecIn w d) (ho : DecOk d) (hk : d.kind = 6) (g1 : withinB d.server 0 19 = true) (g2 : withinB d.number 0 1073741824 = true) (g3 : withinB d.kind 0 9 = true) (g4 : withinB d.start 0 1099511627776 = true) (g5 : withinB d.stop 0 1099511627776 = true) (g6 : d.start < d.stop) (g7 : (inOrd d.e && inOrd d.s) = true) : Calls Tryz.prog 229 #[.agg (decA d)] w fun e w' => e = .returned (.bool (termsB d)) ∧ Q w w' := by
  obtain ⟨w1, x, hx, hq1, hlt, hr⟩ := boxed2 w 48 d.cells
  have hx : w.alloc (.cells (decA d) 48) = x.w := hx
  have c0 := Wd.at0 hlt hr 0 rfl
  have c1 := Wd.at0 hlt hr 1 rfl
  have c2 := Wd.at0 hlt hr 2 rfl
  have c3 := Wd.at0 hlt hr 3 rfl
  have c4 := Wd.at0 hlt hr 4 rfl
  have c5 := Wd.at0 hlt hr 5 rfl
  have c6 := Wd.at0 hlt hr 6 rfl
  have c7 := Wd.at0 hlt hr 7 rfl
  have c8 := Wd.at0 hlt hr 8 rfl
  have c9 := Wd.at0 hlt hr 9 rfl
  have c10 := Wd.at0 hlt hr 10 rfl
  have c11 := Wd.at0 hlt hr 11 rfl
  have hS : ∀ y : Wd w1, Strs y.w d.toA d.to := fun y => (hI.q (Q.trans hq1 y.q)).to
  have hlen : d.to.length ≤ 9223372036854775807 := hI.toLen
  have hzt : ∀ s ∈ d.to, s.size ≤ maxLen := ho.to
  have hza : d.actor.size ≤ maxLen := ho.strs _ (by simp)
  clear hlt hr ho
  rw [hk] at c2 g3
  go_enter Tryz.func229, Tryz.ntmps229
  go_wp2_with (first | (go_at_call 259; refine (from_at _ _ _ _ _ rfl).mono ?_; rintro e w' ⟨rfl, rfl⟩) | (go_at_call 260; refine (rsig_any _ _ _).mono ?_; rintro e w' ⟨rfl, hq2⟩; obtain ⟨y, rfl⟩ := Wd.next _ hq2; clear hq2) | (go_at_call 257; refine (ridRight_any _ _ hza).mono ?_; rintro e w' ⟨rfl, rfl⟩) | (go_at_call 261; refine (rids_any _ _ _ _ (hS _) hlen hzt).mono ?_; rintro e w' ⟨rfl, hq2⟩; obtain ⟨y, rfl⟩ := Wd.next _ hq2; clear hq2))
  all_goals
    go_ret
    refine ⟨?_, Q.trans hq1 (Wd.q _)⟩
    clear c0 c1 c2 c3 c4 c5 c6 c7 c8 c9 c10 c11 hx hS g1 g2 g3 g4 g5 g6 g7 hza hzt hlen
    simp_all [termsB, plainD, shortB, digestB, empty_none, cast0, cast32, toList_nil, cast500, cast4096, le500, lt500, le4096, lt4096, intz2]
  all_goals (first | omega | (intro h; omega) | (intros; simp_all) | (intros; omega))
set_option maxRecDepth 100000 in
set_option maxHeartbeats 16000000 in
theorem rdecided_7 (d : DecR) (w : World) (hI : DecIn w d) (ho : DecOk d) (hk : d.kind = 7) (g1 : withinB d.server 0 19 = true) (g2 : withinB d.number 0 1073741824 = true) (g3 : withinB d.kind 0 9 = true) (g4 : withinB d.start 0 1099511627776 = true) (g5 : withinB d.stop 0 1099511627776 = true) (g6 : d.start < d.stop) (g7 : (inOrd d.e && inOrd d.s) = true) : Calls Tryz.prog 229 #[.agg (decA d)] w fun e w' => e = .returned (.bool (termsB d)) ∧ Q w w' := by
  obtain ⟨w1, x, hx, hq1, hlt, hr⟩ := boxed2 w 48 d.cells
  have hx : w.alloc (.cells (decA d) 48) = x.w := hx
  have c0 := Wd.at0 hlt hr 0 rfl
  have c1 := Wd.at0 hlt hr 1 rfl
  have c2 := Wd.at0 hlt hr 2 rfl
  have c3 := Wd.at0 hlt hr 3 rfl
  have c4 := Wd.at0 hlt hr 4 rfl
  have c5 := Wd.at0 hlt hr 5 rfl
  have c6 := Wd.at0 hlt hr 6 rfl
  have c7 := Wd.at0 hlt hr 7 rfl
  have c8 := Wd.at0 hlt hr 8 rfl
  have c9 := Wd.at0 hlt hr 9 rfl
  have c10 := Wd.at0 hlt hr 10 rfl
  have c11 := Wd.at0 hlt hr 11 rfl
  have hS : ∀ y : Wd w1, Strs y.w d.toA d.to := fun y => (hI.q (Q.trans hq1 y.q)).to
  have hlen : d.to.length ≤ 9223372036854775807 := hI.toLen
  have hzt : ∀ s ∈ d.to, s.size ≤ maxLen := ho.to
  have hza : d.actor.size ≤ maxLen := ho.strs _ (by simp)
  clear hlt hr ho
  rw [hk] at c2 g3
  go_enter Tryz.func229, Tryz.ntmps229
  go_wp2_with (first | (go_at_call 259; refine (from_at _ _ _ _ _ rfl).mono ?_; rintro e w' ⟨rfl, rfl⟩) | (go_at_call 260; refine (rsig_any _ _ _).mono ?_; rintro e w' ⟨rfl, hq2⟩; obtain ⟨y, rfl⟩ := Wd.next _ hq2; clear hq2) | (go_at_call 257; refine (ridRight_any _ _ hza).mono ?_; rintro e w' ⟨rfl, rfl⟩) | (go_at_call 261; refine (rids_any _ _ _ _ (hS _) hlen hzt).mono ?_; rintro e w' ⟨rfl, hq2⟩; obtain ⟨y, rfl⟩ := Wd.next _ hq2; clear hq2))
  all_goals
    go_ret
    refine ⟨?_, Q.trans hq1 (Wd.q _)⟩
    clear c0 c1 c2 c3 c4 c5 c6 c7 c8 c9 c10 c11 hx hS g1 g2 g3 g4 g5 g6 g7 hza hzt hlen
    simp_all [termsB, plainD, shortB, digestB, empty_none, cast0, cast32, toList_nil, cast500, cast4096, le500, lt500, le4096, lt4096, intz2]
  all_goals (first | omega | (intro h; omega) | (intros; simp_all) | (intros; omega))
set_option maxRecDepth 100000 in
set_option maxHeartbeats 16000000 in
theorem rdecided_9 (d : DecR) (w : World) (hI : DecIn w d) (ho : DecOk d) (hk : d.kind = 9) (g1 : withinB d.server 0 19 = true) (g2 : withinB d.number 0 1073741824 = true) (g3 : withinB d.kind 0 9 = true) (g4 : withinB d.start 0 1099511627776 = true) (g5 : withinB d.stop 0 1099511627776 = true) (g6 : d.start < d.stop) (g7 : (inOrd d.e && inOrd d.s) = true) : Calls Tryz.prog 229 #[.agg (decA d)] w fun e w' => e = .returned (.bool (termsB d)) ∧ Q w w' := by
  obtain ⟨w1, x, hx, hq1, hlt, hr⟩ := boxed2 w 48 d.cells
  have hx : w.alloc (.cells (decA d) 48) = x.w := hx
  have c0 := Wd.at0 hlt hr 0 rfl
  have c1 := Wd.at0 hlt hr 1 rfl
  have c2 := Wd.at0 hlt hr 2 rfl
  have c3 := Wd.at0 hlt hr 3 rfl
  have c4 := Wd.at0 hlt hr 4 rfl
  have c5 := Wd.at0 hlt hr 5 rfl
  have c6 := Wd.at0 hlt hr 6 rfl
  have c7 := Wd.at0 hlt hr 7 rfl
  have c8 := Wd.at0 hlt hr 8 rfl
  have c9 := Wd.at0 hlt hr 9 rfl
  have c10 := Wd.at0 hlt hr 10 rfl
  have c11 := Wd.at0 hlt hr 11 rfl
  have hS : ∀ y : Wd w1, Strs y.w d.toA d.to := fun y => (hI.q (Q.trans hq1 y.q)).to
  have hlen : d.to.length ≤ 9223372036854775807 := hI.toLen
  have hzt : ∀ s ∈ d.to, s.size ≤ maxLen := ho.to
  have hza : d.actor.size ≤ maxLen := ho.strs _ (by simp)
  clear hlt hr ho
  rw [hk] at c2 g3
  go_enter Tryz.func229, Tryz.ntmps229
  go_wp2_with (first | (go_at_call 259; refine (from_at _ _ _ _ _ rfl).mono ?_; rintro e w' ⟨rfl, rfl⟩) | (go_at_call 260; refine (rsig_any _ _ _).mono ?_; rintro e w' ⟨rfl, hq2⟩; obtain ⟨y, rfl⟩ := Wd.next _ hq2; clear hq2) | (go_at_call 257; refine (ridRight_any _ _ hza).mono ?_; rintro e w' ⟨rfl, rfl⟩) | (go_at_call 261; refine (rids_any _ _ _ _ (hS _) hlen hzt).mono ?_; rintro e w' ⟨rfl, hq2⟩; obtain ⟨y, rfl⟩ := Wd.next _ hq2; clear hq2))
  all_goals
    go_ret
    refine ⟨?_, Q.trans hq1 (Wd.q _)⟩
    clear c0 c1 c2 c3 c4 c5 c6 c7 c8 c9 c10 c11 hx hS g1 g2 g3 g4 g5 g6 g7 hza hzt hlen
    simp_all [termsB, plainD, shortB, digestB, empty_none, cast0, cast32, toList_nil, cast500, cast4096, le500, lt500, le4096, lt4096, intz2]
  all_goals (first | omega | (intro h; omega) | (intros; simp_all) | (intros; omega))
end Go.Proofs.YtflgkplneekpfaaGreatDoor.Item

namespace Go.Proofs.YtflgkplneekpfaaGreatDoor.Item
open Go.RowKit Grp Mem _root_.Go.Proofs.YtflgkplneekpfaaGreatDoor.Code Sha Sign _root_.Go.Proofs.YtflgkplneekpfaaGreatDoor.Known

set_option maxRecDepth 100000 in
set_option maxHeartbeats 8000000 in
theorem rdecided_8 (d : DecR) (w : World) (hI : DecIn w d) (ho : DecOk d) (hk : d.kind = 8) (g1 : withinB d.server 0 19 = true) (g2 : withinB d.number 0 1073741824 = true) (g3 : withinB d.kind 0 9 = true) (g4 : withinB d.start 0 1099511627776 = true) (g5 : withinB d.stop 0 1099511627776 = true) (g6 : d.start < d.stop) (g7 : (inOrd d.e && inOrd d.s) = true) : Calls Tryz.prog 229 #[.agg (decA d)] w fun e w' => e = .returned (.bool (termsB d)) ∧ Q w w' := by
  obtain ⟨w1, x, hx, hq1, hlt, hr⟩ := boxed2 w 48 d.cells
  have hx : w.alloc (.cells (decA d) 48) = x.w := hx
  have c0 := Wd.at0 hlt hr 0 rfl
  have c1 := Wd.at0 hlt hr 1 rfl
  have c2 := Wd.at0 hlt hr 2 rfl
  have c3 := Wd.at0 hlt hr 3 rfl
  have c4 := Wd.at0 hlt hr 4 rfl
  have c5 := Wd.at0 hlt hr 5 rfl
  have c6 := Wd.at0 hlt hr 6 rfl
  have c7 := Wd.at0 hlt hr 7 rfl
  have c8 := Wd.at0 hlt hr 8 rfl
  have c9 := Wd.at0 hlt hr 9 rfl
  have c10 := Wd.at0 hlt hr 10 rfl
  have c11 := Wd.at0 hlt hr 11 rfl
  have hS : ∀ y : Wd w1, Strs y.w d.toA d.to := fun y => (hI.q (Q.trans hq1 y.q)).to
  have hlen : d.to.length ≤ 9223372036854775807 := hI.toLen
  have hzt : ∀ s ∈ d.to, s.size ≤ maxLen := ho.to
  have hza : d.actor.size ≤ maxLen := ho.strs _ (by simp)
  clear hlt hr ho
  have HT := Lib.hid (show termsB d = (noneB d.actor && (noneB d.object && (shortB d.text && (idsB d.to && withinB d.n 1 d.to.length)))) by unfold termsB; rw [if_neg (by omega), if_neg (by omega), if_pos hk])
  rw [hk] at c2 g3
  clear hk
  have ea := empty_none d.actor
  have eo := empty_none d.object
  have et := cast500 d.text.size
  rcases ways5 (noneB d.actor) (noneB d.object) (shortB d.text) (idsB d.to) (withinB d.n 1 d.to.length) with k1 | ⟨k1, k2⟩ | ⟨k1, k2, k3⟩ | ⟨k1, k2, k3, k4⟩ | ⟨k1, k2, k3, k4, k5⟩ | ⟨k1, k2, k3, k4, k5⟩
  · have HR := Lib.hid (show termsB d = false by rw [HT.out, k1]; rfl)
    rw [k1] at ea
    clear et HT k1
    by_cases p1 : d.to.length = 0
    · have p2 : ((d.to.length : Int) == 0) = true := by rw [p1]; rfl
      by_cases p3 : d.n = 0
      · have p4 : (d.n == 0) = true := by simp [p3]
        clear p1 p3
        go_enter Tryz.func229, Tryz.ntmps229
        go_wp2_with (first | (go_at_call 259; refine (from_at _ _ _ _ _ rfl).mono ?_; rintro e w' ⟨rfl, rfl⟩) | (go_at_call 260; refine (rsig_any _ _ _).mono ?_; rintro e w' ⟨rfl, hq2⟩; obtain ⟨y, rfl⟩ := Wd.next _ hq2; clear hq2) | (go_at_call 257; refine (ridRight_any _ _ hza).mono ?_; rintro e w' ⟨rfl, rfl⟩) | (go_at_call 261; refine (rids_any _ _ _ _ (hS _) hlen hzt).mono ?_; rintro e w' ⟨rfl, hq2⟩; obtain ⟨y, rfl⟩ := Wd.next _ hq2; clear hq2))
        all_goals go_ret
        all_goals exact ⟨by rw [HR.out]; rfl, Q.trans hq1 (Wd.q _)⟩
      · have p4 : (d.n == 0) = false := by simpa using p3
        clear p1 p3
        go_enter Tryz.func229, Tryz.ntmps229
        go_wp2_with (first | (go_at_call 259; refine (from_at _ _ _ _ _ rfl).mono ?_; rintro e w' ⟨rfl, rfl⟩) | (go_at_call 260; refine (rsig_any _ _ _).mono ?_; rintro e w' ⟨rfl, hq2⟩; obtain ⟨y, rfl⟩ := Wd.next _ hq2; clear hq2) | (go_at_call 257; refine (ridRight_any _ _ hza).mono ?_; rintro e w' ⟨rfl, rfl⟩) | (go_at_call 261; refine (rids_any _ _ _ _ (hS _) hlen hzt).mono ?_; rintro e w' ⟨rfl, hq2⟩; obtain ⟨y, rfl⟩ := Wd.next _ hq2; clear hq2))
        all_goals go_ret
        all_goals exact ⟨by rw [HR.out]; rfl, Q.trans hq1 (Wd.q _)⟩
    · have p2 : ((d.to.length : Int) == 0) = false := beq_eq_false_iff_ne.2 (by omega)
      clear p1
      go_enter Tryz.func229, Tryz.ntmps229
      go_wp2_with (first | (go_at_call 259; refine (from_at _ _ _ _ _ rfl).mono ?_; rintro e w' ⟨rfl, rfl⟩) | (go_at_call 260; refine (rsig_any _ _ _).mono ?_; rintro e w' ⟨rfl, hq2⟩; obtain ⟨y, rfl⟩ := Wd.next _ hq2; clear hq2) | (go_at_call 257; refine (ridRight_any _ _ hza).mono ?_; rintro e w' ⟨rfl, rfl⟩) | (go_at_call 261; refine (rids_any _ _ _ _ (hS _) hlen hzt).mono ?_; rintro e w' ⟨rfl, hq2⟩; obtain ⟨y, rfl⟩ := Wd.next _ hq2; clear hq2))
      all_goals go_ret
      all_goals exact ⟨by rw [HR.out]; rfl, Q.trans hq1 (Wd.q _)⟩
  · have HR := Lib.hid (show termsB d = false by rw [HT.out, k1, k2]; rfl)
    rw [k1] at ea
    rw [k2] at eo
    clear et HT k1
    by_cases p1 : d.to.length = 0
    · have p2 : ((d.to.length : Int) == 0) = true := by rw [p1]; rfl
      by_cases p3 : d.n = 0
      · have p4 : (d.n == 0) = true := by simp [p3]
        clear p1 p3
        go_enter Tryz.func229, Tryz.ntmps229
        go_wp2_with (first | (go_at_call 259; refine (from_at _ _ _ _ _ rfl).mono ?_; rintro e w' ⟨rfl, rfl⟩) | (go_at_call 260; refine (rsig_any _ _ _).mono ?_; rintro e w' ⟨rfl, hq2⟩; obtain ⟨y, rfl⟩ := Wd.next _ hq2; clear hq2) | (go_at_call 257; refine (ridRight_any _ _ hza).mono ?_; rintro e w' ⟨rfl, rfl⟩) | (go_at_call 261; refine (rids_any _ _ _ _ (hS _) hlen hzt).mono ?_; rintro e w' ⟨rfl, hq2⟩; obtain ⟨y, rfl⟩ := Wd.next _ hq2; clear hq2))
        all_goals go_ret
        all_goals exact ⟨by rw [HR.out]; rfl, Q.trans hq1 (Wd.q _)⟩
      · have p4 : (d.n == 0) = false := by simpa using p3
        clear p1 p3
        go_enter Tryz.func229, Tryz.ntmps229
        go_wp2_with (first | (go_at_call 259; refine (from_at _ _ _ _ _ rfl).mono ?_; rintro e w' ⟨rfl, rfl⟩) | (go_at_call 260; refine (rsig_any _ _ _).mono ?_; rintro e w' ⟨rfl, hq2⟩; obtain ⟨y, rfl⟩ := Wd.next _ hq2; clear hq2) | (go_at_call 257; refine (ridRight_any _ _ hza).mono ?_; rintro e w' ⟨rfl, rfl⟩) | (go_at_call 261; refine (rids_any _ _ _ _ (hS _) hlen hzt).mono ?_; rintro e w' ⟨rfl, hq2⟩; obtain ⟨y, rfl⟩ := Wd.next _ hq2; clear hq2))
        all_goals go_ret
        all_goals exact ⟨by rw [HR.out]; rfl, Q.trans hq1 (Wd.q _)⟩
    · have p2 : ((d.to.length : Int) == 0) = false := beq_eq_false_iff_ne.2 (by omega)
      clear p1
      go_enter Tryz.func229, Tryz.ntmps229
      go_wp2_with (first | (go_at_call 259; refine (from_at _ _ _ _ _ rfl).mono ?_; rintro e w' ⟨rfl, rfl⟩) | (go_at_call 260; refine (rsig_any _ _ _).mono ?_; rintro e w' ⟨rfl, hq2⟩; obtain ⟨y, rfl⟩ := Wd.next _ hq2; clear hq2) | (go_at_call 257; refine (ridRight_any _ _ hza).mono ?_; rintro e w' ⟨rfl, rfl⟩) | (go_at_call 261; refine (rids_any _ _ _ _ (hS _) hlen hzt).mono ?_; rintro e w' ⟨rfl, hq2⟩; obtain ⟨y, rfl⟩ := Wd.next _ hq2; clear hq2))
      all_goals go_ret
      all_goals exact ⟨by rw [HR.out]; rfl, Q.trans hq1 (Wd.q _)⟩
  · have HR := Lib.hid (show termsB d = false by rw [HT.out, k1, k2, k3]; rfl)
    rw [k1] at ea
    rw [k2] at eo
    have et2 : ¬ (d.text.size : Int) ≤ 500 := by simp [shortB] at k3; omega
    clear et HT k1
    by_cases p1 : d.to.length = 0
    · have p2 : ((d.to.length : Int) == 0) = true := by rw [p1]; rfl
      by_cases p3 : d.n = 0
      · have p4 : (d.n == 0) = true := by simp [p3]
        clear p1 p3
        go_enter Tryz.func229, Tryz.ntmps229
        go_wp2_with (first | (go_at_call 259; refine (from_at _ _ _ _ _ rfl).mono ?_; rintro e w' ⟨rfl, rfl⟩) | (go_at_call 260; refine (rsig_any _ _ _).mono ?_; rintro e w' ⟨rfl, hq2⟩; obtain ⟨y, rfl⟩ := Wd.next _ hq2; clear hq2) | (go_at_call 257; refine (ridRight_any _ _ hza).mono ?_; rintro e w' ⟨rfl, rfl⟩) | (go_at_call 261; refine (rids_any _ _ _ _ (hS _) hlen hzt).mono ?_; rintro e w' ⟨rfl, hq2⟩; obtain ⟨y, rfl⟩ := Wd.next _ hq2; clear hq2))
        all_goals go_ret
        all_goals exact ⟨by rw [HR.out]; rfl, Q.trans hq1 (Wd.q _)⟩
      · have p4 : (d.n == 0) = false := by simpa using p3
        clear p1 p3
        go_enter Tryz.func229, Tryz.ntmps229
        go_wp2_with (first | (go_at_call 259; refine (from_at _ _ _ _ _ rfl).mono ?_; rintro e w' ⟨rfl, rfl⟩) | (go_at_call 260; refine (rsig_any _ _ _).mono ?_; rintro e w' ⟨rfl, hq2⟩; obtain ⟨y, rfl⟩ := Wd.next _ hq2; clear hq2) | (go_at_call 257; refine (ridRight_any _ _ hza).mono ?_; rintro e w' ⟨rfl, rfl⟩) | (go_at_call 261; refine (rids_any _ _ _ _ (hS _) hlen hzt).mono ?_; rintro e w' ⟨rfl, hq2⟩; obtain ⟨y, rfl⟩ := Wd.next _ hq2; clear hq2))
        all_goals go_ret
        all_goals exact ⟨by rw [HR.out]; rfl, Q.trans hq1 (Wd.q _)⟩
    · have p2 : ((d.to.length : Int) == 0) = false := beq_eq_false_iff_ne.2 (by omega)
      clear p1
      go_enter Tryz.func229, Tryz.ntmps229
      go_wp2_with (first | (go_at_call 259; refine (from_at _ _ _ _ _ rfl).mono ?_; rintro e w' ⟨rfl, rfl⟩) | (go_at_call 260; refine (rsig_any _ _ _).mono ?_; rintro e w' ⟨rfl, hq2⟩; obtain ⟨y, rfl⟩ := Wd.next _ hq2; clear hq2) | (go_at_call 257; refine (ridRight_any _ _ hza).mono ?_; rintro e w' ⟨rfl, rfl⟩) | (go_at_call 261; refine (rids_any _ _ _ _ (hS _) hlen hzt).mono ?_; rintro e w' ⟨rfl, hq2⟩; obtain ⟨y, rfl⟩ := Wd.next _ hq2; clear hq2))
      all_goals go_ret
      all_goals exact ⟨by rw [HR.out]; rfl, Q.trans hq1 (Wd.q _)⟩
  · have HR := Lib.hid (show termsB d = false by rw [HT.out, k1, k2, k3, k4]; rfl)
    rw [k1] at ea
    rw [k2] at eo
    have et2 : (d.text.size : Int) ≤ 500 := by simp [shortB] at k3; omega
    clear et HT k1
    by_cases p1 : d.to.length = 0
    · have p2 : ((d.to.length : Int) == 0) = true := by rw [p1]; rfl
      by_cases p3 : d.n = 0
      · have p4 : (d.n == 0) = true := by simp [p3]
        clear p1 p3
        go_enter Tryz.func229, Tryz.ntmps229
        go_wp2_with (first | (go_at_call 259; refine (from_at _ _ _ _ _ rfl).mono ?_; rintro e w' ⟨rfl, rfl⟩) | (go_at_call 260; refine (rsig_any _ _ _).mono ?_; rintro e w' ⟨rfl, hq2⟩; obtain ⟨y, rfl⟩ := Wd.next _ hq2; clear hq2) | (go_at_call 257; refine (ridRight_any _ _ hza).mono ?_; rintro e w' ⟨rfl, rfl⟩) | (go_at_call 261; refine (rids_any _ _ _ _ (hS _) hlen hzt).mono ?_; rintro e w' ⟨rfl, hq2⟩; obtain ⟨y, rfl⟩ := Wd.next _ hq2; clear hq2))
        all_goals go_ret
        all_goals exact ⟨by rw [HR.out]; rfl, Q.trans hq1 (Wd.q _)⟩
      · have p4 : (d.n == 0) = false := by simpa using p3
        clear p1 p3
        go_enter Tryz.func229, Tryz.ntmps229
        go_wp2_with (first | (go_at_call 259; refine (from_at _ _ _ _ _ rfl).mono ?_; rintro e w' ⟨rfl, rfl⟩) | (go_at_call 260; refine (rsig_any _ _ _).mono ?_; rintro e w' ⟨rfl, hq2⟩; obtain ⟨y, rfl⟩ := Wd.next _ hq2; clear hq2) | (go_at_call 257; refine (ridRight_any _ _ hza).mono ?_; rintro e w' ⟨rfl, rfl⟩) | (go_at_call 261; refine (rids_any _ _ _ _ (hS _) hlen hzt).mono ?_; rintro e w' ⟨rfl, hq2⟩; obtain ⟨y, rfl⟩ := Wd.next _ hq2; clear hq2))
        all_goals go_ret
        all_goals exact ⟨by rw [HR.out]; rfl, Q.trans hq1 (Wd.q _)⟩
    · have p2 : ((d.to.length : Int) == 0) = false := beq_eq_false_iff_ne.2 (by omega)
      clear p1
      go_enter Tryz.func229, Tryz.ntmps229
      go_wp2_with (first | (go_at_call 259; refine (from_at _ _ _ _ _ rfl).mono ?_; rintro e w' ⟨rfl, rfl⟩) | (go_at_call 260; refine (rsig_any _ _ _).mono ?_; rintro e w' ⟨rfl, hq2⟩; obtain ⟨y, rfl⟩ := Wd.next _ hq2; clear hq2) | (go_at_call 257; refine (ridRight_any _ _ hza).mono ?_; rintro e w' ⟨rfl, rfl⟩) | (go_at_call 261; refine (rids_any _ _ _ _ (hS _) hlen hzt).mono ?_; rintro e w' ⟨rfl, hq2⟩; obtain ⟨y, rfl⟩ := Wd.next _ hq2; clear hq2))
      all_goals go_ret
      all_goals exact ⟨by rw [HR.out]; rfl, Q.trans hq1 (Wd.q _)⟩
  · have HR := Lib.hid (show termsB d = false by rw [HT.out, k1, k2, k3, k4, k5]; rfl)
    rw [k1] at ea
    rw [k2] at eo
    have et2 : (d.text.size : Int) ≤ 500 := by simp [shortB] at k3; omega
    clear et HT k1
    by_cases p1 : d.to.length = 0
    · have p2 : ((d.to.length : Int) == 0) = true := by rw [p1]; rfl
      by_cases p3 : d.n = 0
      · have p4 : (d.n == 0) = true := by simp [p3]
        clear p1 p3
        go_enter Tryz.func229, Tryz.ntmps229
        go_wp2_with (first | (go_at_call 259; refine (from_at _ _ _ _ _ rfl).mono ?_; rintro e w' ⟨rfl, rfl⟩) | (go_at_call 260; refine (rsig_any _ _ _).mono ?_; rintro e w' ⟨rfl, hq2⟩; obtain ⟨y, rfl⟩ := Wd.next _ hq2; clear hq2) | (go_at_call 257; refine (ridRight_any _ _ hza).mono ?_; rintro e w' ⟨rfl, rfl⟩) | (go_at_call 261; refine (rids_any _ _ _ _ (hS _) hlen hzt).mono ?_; rintro e w' ⟨rfl, hq2⟩; obtain ⟨y, rfl⟩ := Wd.next _ hq2; clear hq2))
        all_goals go_ret
        all_goals exact ⟨by rw [HR.out]; rfl, Q.trans hq1 (Wd.q _)⟩
      · have p4 : (d.n == 0) = false := by simpa using p3
        clear p1 p3
        go_enter Tryz.func229, Tryz.ntmps229
        go_wp2_with (first | (go_at_call 259; refine (from_at _ _ _ _ _ rfl).mono ?_; rintro e w' ⟨rfl, rfl⟩) | (go_at_call 260; refine (rsig_any _ _ _).mono ?_; rintro e w' ⟨rfl, hq2⟩; obtain ⟨y, rfl⟩ := Wd.next _ hq2; clear hq2) | (go_at_call 257; refine (ridRight_any _ _ hza).mono ?_; rintro e w' ⟨rfl, rfl⟩) | (go_at_call 261; refine (rids_any _ _ _ _ (hS _) hlen hzt).mono ?_; rintro e w' ⟨rfl, hq2⟩; obtain ⟨y, rfl⟩ := Wd.next _ hq2; clear hq2))
        all_goals go_ret
        all_goals exact ⟨by rw [HR.out]; rfl, Q.trans hq1 (Wd.q _)⟩
    · have p2 : ((d.to.length : Int) == 0) = false := beq_eq_false_iff_ne.2 (by omega)
      clear p1
      go_enter Tryz.func229, Tryz.ntmps229
      go_wp2_with (first | (go_at_call 259; refine (from_at _ _ _ _ _ rfl).mono ?_; rintro e w' ⟨rfl, rfl⟩) | (go_at_call 260; refine (rsig_any _ _ _).mono ?_; rintro e w' ⟨rfl, hq2⟩; obtain ⟨y, rfl⟩ := Wd.next _ hq2; clear hq2) | (go_at_call 257; refine (ridRight_any _ _ hza).mono ?_; rintro e w' ⟨rfl, rfl⟩) | (go_at_call 261; refine (rids_any _ _ _ _ (hS _) hlen hzt).mono ?_; rintro e w' ⟨rfl, hq2⟩; obtain ⟨y, rfl⟩ := Wd.next _ hq2; clear hq2))
      all_goals go_ret
      all_goals exact ⟨by rw [HR.out]; rfl, Q.trans hq1 (Wd.q _)⟩
  · have HR := Lib.hid (show termsB d = true by rw [HT.out, k1, k2, k3, k4, k5]; rfl)
    rw [k1] at ea
    rw [k2] at eo
    have et2 : (d.text.size : Int) ≤ 500 := by simp [shortB] at k3; omega
    clear et HT k1
    by_cases p1 : d.to.length = 0
    · have p2 : ((d.to.length : Int) == 0) = true := by rw [p1]; rfl
      by_cases p3 : d.n = 0
      · have p4 : (d.n == 0) = true := by simp [p3]
        clear p1 p3
        go_enter Tryz.func229, Tryz.ntmps229
        go_wp2_with (first | (go_at_call 259; refine (from_at _ _ _ _ _ rfl).mono ?_; rintro e w' ⟨rfl, rfl⟩) | (go_at_call 260; refine (rsig_any _ _ _).mono ?_; rintro e w' ⟨rfl, hq2⟩; obtain ⟨y, rfl⟩ := Wd.next _ hq2; clear hq2) | (go_at_call 257; refine (ridRight_any _ _ hza).mono ?_; rintro e w' ⟨rfl, rfl⟩) | (go_at_call 261; refine (rids_any _ _ _ _ (hS _) hlen hzt).mono ?_; rintro e w' ⟨rfl, hq2⟩; obtain ⟨y, rfl⟩ := Wd.next _ hq2; clear hq2))
        all_goals go_ret
        all_goals exact ⟨by rw [HR.out]; rfl, Q.trans hq1 (Wd.q _)⟩
      · have p4 : (d.n == 0) = false := by simpa using p3
        clear p1 p3
        go_enter Tryz.func229, Tryz.ntmps229
        go_wp2_with (first | (go_at_call 259; refine (from_at _ _ _ _ _ rfl).mono ?_; rintro e w' ⟨rfl, rfl⟩) | (go_at_call 260; refine (rsig_any _ _ _).mono ?_; rintro e w' ⟨rfl, hq2⟩; obtain ⟨y, rfl⟩ := Wd.next _ hq2; clear hq2) | (go_at_call 257; refine (ridRight_any _ _ hza).mono ?_; rintro e w' ⟨rfl, rfl⟩) | (go_at_call 261; refine (rids_any _ _ _ _ (hS _) hlen hzt).mono ?_; rintro e w' ⟨rfl, hq2⟩; obtain ⟨y, rfl⟩ := Wd.next _ hq2; clear hq2))
        all_goals go_ret
        all_goals exact ⟨by rw [HR.out]; rfl, Q.trans hq1 (Wd.q _)⟩
    · have p2 : ((d.to.length : Int) == 0) = false := beq_eq_false_iff_ne.2 (by omega)
      clear p1
      go_enter Tryz.func229, Tryz.ntmps229
      go_wp2_with (first | (go_at_call 259; refine (from_at _ _ _ _ _ rfl).mono ?_; rintro e w' ⟨rfl, rfl⟩) | (go_at_call 260; refine (rsig_any _ _ _).mono ?_; rintro e w' ⟨rfl, hq2⟩; obtain ⟨y, rfl⟩ := Wd.next _ hq2; clear hq2) | (go_at_call 257; refine (ridRight_any _ _ hza).mono ?_; rintro e w' ⟨rfl, rfl⟩) | (go_at_call 261; refine (rids_any _ _ _ _ (hS _) hlen hzt).mono ?_; rintro e w' ⟨rfl, hq2⟩; obtain ⟨y, rfl⟩ := Wd.next _ hq2; clear hq2))
      all_goals go_ret
      all_goals exact ⟨by rw [HR.out]; rfl, Q.trans hq1 (Wd.q _)⟩
end Go.Proofs.YtflgkplneekpfaaGreatDoor.Item

namespace Go.Proofs.YtflgkplneekpfaaGreatDoor.Item
open Go.RowKit Grp Mem _root_.Go.Proofs.YtflgkplneekpfaaGreatDoor.Code Sha Sign
theorem actRight_eq (a : ActR) : actRight a = (idB a.author && (decide (0 ≤ a.seq ∧ a.seq ≤ 1073741824) && (decide (0 ≤ a.time ∧ a.time ≤ 1099511627776) && (decide (0 ≤ a.e ∧ a.e ≤ 2305843009213693949) && (decide (0 ≤ a.s ∧ a.s ≤ 2305843009213693949) && ((if a.seq = 0 then noneB a.prev && decide (a.kind = 0) else decide (a.prev.size = 32) && !decide (a.kind = 0)) && fitsB a)))))) := by
  unfold actRight placedB withinB inOrd withinB digestB
  by_cases h0 : a.seq = 0
  · rw [if_pos h0, if_pos h0, decide_eq_true (show 0 ≤ a.seq ∧ a.seq ≤ 1073741824 by omega)]
    rw [Bool.eq_iff_iff]
    simp only [Bool.and_eq_true, decide_eq_true_eq, Bool.true_and]
    constructor
    · rintro ⟨h1, ⟨h2, h3⟩, ⟨h4, h5⟩, ⟨h6, h7⟩, ⟨h8, h9⟩, h10⟩
      exact ⟨h1, ⟨h4, h5⟩, ⟨h6, h7⟩, ⟨h8, h9⟩, ⟨h3, h2⟩, h10⟩
    · rintro ⟨h1, ⟨h4, h5⟩, ⟨h6, h7⟩, ⟨h8, h9⟩, ⟨h3, h2⟩, h10⟩
      exact ⟨h1, ⟨h2, h3⟩, ⟨h4, h5⟩, ⟨h6, h7⟩, ⟨h8, h9⟩, h10⟩
  · rw [if_neg h0, if_neg h0]
    rw [Bool.eq_iff_iff]
    simp only [Bool.and_eq_true, decide_eq_true_eq, Bool.not_eq_true', decide_eq_false_iff_not]
    constructor
    · rintro ⟨h1, ⟨⟨h2, h3⟩, hk, hp⟩, ⟨h4, h5⟩, ⟨h6, h7⟩, ⟨h8, h9⟩, h10⟩
      exact ⟨h1, ⟨by omega, h3⟩, ⟨h4, h5⟩, ⟨h6, h7⟩, ⟨h8, h9⟩, ⟨hp, hk⟩, h10⟩
    · rintro ⟨h1, ⟨h2, h3⟩, ⟨h4, h5⟩, ⟨h6, h7⟩, ⟨h8, h9⟩, ⟨hp, hk⟩, h10⟩
      exact ⟨h1, ⟨⟨by omega, h3⟩, hk, hp⟩, ⟨h4, h5⟩, ⟨h6, h7⟩, ⟨h8, h9⟩, h10⟩
set_option maxRecDepth 100000 in
set_option maxHeartbeats 40000000 in
theorem ractRight_out (a : ActR) (w : World) (ho : ActOk a) (hout : ¬ (idB a.author = true ∧ ¬ a.seq < 0 ∧ ¬ 1073741824 < a.seq ∧ ¬ a.time < 0 ∧ ¬ 1099511627776 < a.time ∧ ¬ a.e < 0 ∧ ¬ 2305843009213693950 ≤ a.e ∧ ¬ a.s < 0 ∧ ¬ 2305843009213693950 ≤ a.s)) : Calls Tryz.prog 226 #[.agg (actA a)] w fun e w' => e = .returned (.bool (actRight a)) ∧ Q w w' := by
  obtain ⟨w1, x, hx, hq1, hA⟩ := ActAt.box w a 44
  have c0 := hA.get 0 rfl
  have c1 := hA.get 1 rfl
  have c2 := hA.get 2 rfl
  have c3 := hA.get 3 rfl
  have c4 := hA.get 4 rfl
  have c18 := hA.get 18 rfl
  have c19 := hA.get 19 rfl
  have hL := hA.load
  have hza : a.author.size ≤ maxLen := ho.strs _ (by simp)
  clear hA
  have HO := Lib.hid hout
  clear hout ho
  cases g1 : idB a.author
  · have HR := Lib.hid (show actRight a = false by rw [actRight_eq, g1]; rfl)
    go_enter Tryz.func226, Tryz.ntmps226
    go_wp2_with (first | (refine wpList_load_run 44 (.tmp 1) (.pointer (some ⟨w.heap.size, 0, none⟩)) (.agg (actA a)) ?_ ?_ ?_ ?_ ?_; rfl; rfl; rfl; exact hL _) | (go_at_call 257; refine (ridRight_any _ _ hza).mono ?_; rintro e w' ⟨rfl, rfl⟩))
    go_ret
    exact ⟨by rw [HR.out]; rfl, Q.trans hq1 (Wd.q _)⟩
  by_cases s1 : a.seq < 0
  · have HR := Lib.hid (show actRight a = false by rw [actRight_eq, decide_eq_false (show ¬ (0 ≤ a.seq ∧ a.seq ≤ 1073741824) by omega)]; simp)
    go_enter Tryz.func226, Tryz.ntmps226
    go_wp2_with (first | (refine wpList_load_run 44 (.tmp 1) (.pointer (some ⟨w.heap.size, 0, none⟩)) (.agg (actA a)) ?_ ?_ ?_ ?_ ?_; rfl; rfl; rfl; exact hL _) | (go_at_call 257; refine (ridRight_any _ _ hza).mono ?_; rintro e w' ⟨rfl, rfl⟩))
    go_ret
    exact ⟨by rw [HR.out]; rfl, Q.trans hq1 (Wd.q _)⟩
  by_cases s2 : 1073741824 < a.seq
  · have HR := Lib.hid (show actRight a = false by rw [actRight_eq, decide_eq_false (show ¬ (0 ≤ a.seq ∧ a.seq ≤ 1073741824) by omega)]; simp)
    go_enter Tryz.func226, Tryz.ntmps226
    go_wp2_with (first | (refine wpList_load_run 44 (.tmp 1) (.pointer (some ⟨w.heap.size, 0, none⟩)) (.agg (actA a)) ?_ ?_ ?_ ?_ ?_; rfl; rfl; rfl; exact hL _) | (go_at_call 257; refine (ridRight_any _ _ hza).mono ?_; rintro e w' ⟨rfl, rfl⟩))
    go_ret
    exact ⟨by rw [HR.out]; rfl, Q.trans hq1 (Wd.q _)⟩
  by_cases t1 : a.time < 0
  · have HR := Lib.hid (show actRight a = false by rw [actRight_eq, decide_eq_false (show ¬ (0 ≤ a.time ∧ a.time ≤ 1099511627776) by omega)]; simp)
    go_enter Tryz.func226, Tryz.ntmps226
    go_wp2_with (first | (refine wpList_load_run 44 (.tmp 1) (.pointer (some ⟨w.heap.size, 0, none⟩)) (.agg (actA a)) ?_ ?_ ?_ ?_ ?_; rfl; rfl; rfl; exact hL _) | (go_at_call 257; refine (ridRight_any _ _ hza).mono ?_; rintro e w' ⟨rfl, rfl⟩))
    go_ret
    exact ⟨by rw [HR.out]; rfl, Q.trans hq1 (Wd.q _)⟩
  by_cases t2 : 1099511627776 < a.time
  · have HR := Lib.hid (show actRight a = false by rw [actRight_eq, decide_eq_false (show ¬ (0 ≤ a.time ∧ a.time ≤ 1099511627776) by omega)]; simp)
    go_enter Tryz.func226, Tryz.ntmps226
    go_wp2_with (first | (refine wpList_load_run 44 (.tmp 1) (.pointer (some ⟨w.heap.size, 0, none⟩)) (.agg (actA a)) ?_ ?_ ?_ ?_ ?_; rfl; rfl; rfl; exact hL _) | (go_at_call 257; refine (ridRight_any _ _ hza).mono ?_; rintro e w' ⟨rfl, rfl⟩))
    go_ret
    exact ⟨by rw [HR.out]; rfl, Q.trans hq1 (Wd.q _)⟩
  by_cases e1 : a.e < 0
  · have HR := Lib.hid (show actRight a = false by rw [actRight_eq, decide_eq_false (show ¬ (0 ≤ a.e ∧ a.e ≤ 2305843009213693949) by omega)]; simp)
    go_enter Tryz.func226, Tryz.ntmps226
    go_wp2_with (first | (refine wpList_load_run 44 (.tmp 1) (.pointer (some ⟨w.heap.size, 0, none⟩)) (.agg (actA a)) ?_ ?_ ?_ ?_ ?_; rfl; rfl; rfl; exact hL _) | (go_at_call 257; refine (ridRight_any _ _ hza).mono ?_; rintro e w' ⟨rfl, rfl⟩))
    go_ret
    exact ⟨by rw [HR.out]; rfl, Q.trans hq1 (Wd.q _)⟩
  by_cases e2 : 2305843009213693950 ≤ a.e
  · have HR := Lib.hid (show actRight a = false by rw [actRight_eq, decide_eq_false (show ¬ (0 ≤ a.e ∧ a.e ≤ 2305843009213693949) by omega)]; simp)
    go_enter Tryz.func226, Tryz.ntmps226
    go_wp2_with (first | (refine wpList_load_run 44 (.tmp 1) (.pointer (some ⟨w.heap.size, 0, none⟩)) (.agg (actA a)) ?_ ?_ ?_ ?_ ?_; rfl; rfl; rfl; exact hL _) | (go_at_call 257; refine (ridRight_any _ _ hza).mono ?_; rintro e w' ⟨rfl, rfl⟩))
    go_ret
    exact ⟨by rw [HR.out]; rfl, Q.trans hq1 (Wd.q _)⟩
  by_cases z1 : a.s < 0
  · have HR := Lib.hid (show actRight a = false by rw [actRight_eq, decide_eq_false (show ¬ (0 ≤ a.s ∧ a.s ≤ 2305843009213693949) by omega)]; simp)
    go_enter Tryz.func226, Tryz.ntmps226
    go_wp2_with (first | (refine wpList_load_run 44 (.tmp 1) (.pointer (some ⟨w.heap.size, 0, none⟩)) (.agg (actA a)) ?_ ?_ ?_ ?_ ?_; rfl; rfl; rfl; exact hL _) | (go_at_call 257; refine (ridRight_any _ _ hza).mono ?_; rintro e w' ⟨rfl, rfl⟩))
    go_ret
    exact ⟨by rw [HR.out]; rfl, Q.trans hq1 (Wd.q _)⟩
  by_cases z2 : 2305843009213693950 ≤ a.s
  · have HR := Lib.hid (show actRight a = false by rw [actRight_eq, decide_eq_false (show ¬ (0 ≤ a.s ∧ a.s ≤ 2305843009213693949) by omega)]; simp)
    go_enter Tryz.func226, Tryz.ntmps226
    go_wp2_with (first | (refine wpList_load_run 44 (.tmp 1) (.pointer (some ⟨w.heap.size, 0, none⟩)) (.agg (actA a)) ?_ ?_ ?_ ?_ ?_; rfl; rfl; rfl; exact hL _) | (go_at_call 257; refine (ridRight_any _ _ hza).mono ?_; rintro e w' ⟨rfl, rfl⟩))
    go_ret
    exact ⟨by rw [HR.out]; rfl, Q.trans hq1 (Wd.q _)⟩
  exact absurd ⟨g1, s1, s2, t1, t2, e1, e2, z1, z2⟩ HO.out
end Go.Proofs.YtflgkplneekpfaaGreatDoor.Item

namespace Go.Proofs.YtflgkplneekpfaaGreatDoor.Item
open Go.RowKit Grp Mem _root_.Go.Proofs.YtflgkplneekpfaaGreatDoor.Code Sha Sign
set_option maxRecDepth 100000 in
set_option maxHeartbeats 8000000 in
theorem rfits_no (a : ActR) (w : World) (hk : ¬ (0 ≤ a.kind ∧ a.kind < 24)) : Calls Tryz.prog 258 #[.agg (actA a)] w fun e w' => e = .returned (.bool (fitsB a)) ∧ Q w w' := by
  obtain ⟨w1, x, hx, hq1, hA⟩ := ActAt.box w a 44
  have hL1 := hA.load
  have HF := Lib.hid (fits_no a hk)
  have hlt1 := hA.lt
  have e0 : (a.kind == 0) = false := by rw [beq_eq_false_iff_ne]; omega
  have e1 : (a.kind == 1) = false := by rw [beq_eq_false_iff_ne]; omega
  have e2 : (a.kind == 2) = false := by rw [beq_eq_false_iff_ne]; omega
  have e3 : (a.kind == 3) = false := by rw [beq_eq_false_iff_ne]; omega
  have e4 : (a.kind == 4) = false := by rw [beq_eq_false_iff_ne]; omega
  have e5 : (a.kind == 5) = false := by rw [beq_eq_false_iff_ne]; omega
  have e6 : (a.kind == 6) = false := by rw [beq_eq_false_iff_ne]; omega
  have e7 : (a.kind == 7) = false := by rw [beq_eq_false_iff_ne]; omega
  have e8 : (a.kind == 8) = false := by rw [beq_eq_false_iff_ne]; omega
  have e9 : (a.kind == 9) = false := by rw [beq_eq_false_iff_ne]; omega
  have e10 : (a.kind == 10) = false := by rw [beq_eq_false_iff_ne]; omega
  have e11 : (a.kind == 11) = false := by rw [beq_eq_false_iff_ne]; omega
  have e12 : (a.kind == 12) = false := by rw [beq_eq_false_iff_ne]; omega
  have e13 : (a.kind == 13) = false := by rw [beq_eq_false_iff_ne]; omega
  have e14 : (a.kind == 14) = false := by rw [beq_eq_false_iff_ne]; omega
  have e15 : (a.kind == 15) = false := by rw [beq_eq_false_iff_ne]; omega
  have e16 : (a.kind == 16) = false := by rw [beq_eq_false_iff_ne]; omega
  have e17 : (a.kind == 17) = false := by rw [beq_eq_false_iff_ne]; omega
  have e18 : (a.kind == 18) = false := by rw [beq_eq_false_iff_ne]; omega
  have e19 : (a.kind == 19) = false := by rw [beq_eq_false_iff_ne]; omega
  have e20 : (a.kind == 20) = false := by rw [beq_eq_false_iff_ne]; omega
  have e21 : (a.kind == 21) = false := by rw [beq_eq_false_iff_ne]; omega
  have e22 : (a.kind == 22) = false := by rw [beq_eq_false_iff_ne]; omega
  have e23 : (a.kind == 23) = false := by rw [beq_eq_false_iff_ne]; omega
  clear hk
  go_enter Tryz.func258, Tryz.ntmps258
  go_wp2_with (first | (refine wpList_load_run 44 (.tmp 1) (.pointer (some ⟨w.heap.size, 0, none⟩)) (.agg (actA a)) ?_ ?_ ?_ ?_ ?_; rfl; rfl; rfl; exact hL1 _) | (refine wpList_store_blk (Blk.new x.w 44 act0.cells.toArray) rfl 44 (.tmp 3) (.tmp 11) a.cells rfl rfl rfl (by kernel_rfl) (act_all _) (Nat.le_refl 20) ?_))
  intro W hW hbel
  rw [splice_all _ _ (by rfl)] at hW
  have hqx : Q x.w W := hbel _ _ (Nat.le_refl _) (q_new _ _ _)
  have hqW : Q w W := Q.trans hq1 (Q.trans x.q hqx)
  have hA := ActAt.mk (w0 := W) (g := w.heap.size) (a := a) (Nat.lt_of_lt_of_le hlt1 (Q.trans x.q hqx).size) (range_q hA.range (Q.trans x.q hqx) hlt1)
  have c3 := hA.get 3 rfl
  obtain ⟨v, hv⟩ := Wd.first W
  rw [hv]
  have HQ := Lib.hid hqW
  clear hbel hL1 hqx hlt1 hx hA hq1 hv hqW hW
  go_wp2_with fail
  go_ret
  exact ⟨by rw [HF.out]; rfl, Q.trans HQ.out v.q⟩
theorem rfits_any (a : ActR) (w : World) (hI : ActIn w a) (ho : ActOk a) : Calls Tryz.prog 258 #[.agg (actA a)] w fun e w' => e = .returned (.bool (fitsB a)) ∧ Q w w' := by
  by_cases hk : 0 ≤ a.kind ∧ a.kind < 24
  · rcases (show a.kind = 0 ∨ a.kind = 1 ∨ a.kind = 2 ∨ a.kind = 3 ∨ a.kind = 4 ∨ a.kind = 5 ∨ a.kind = 6 ∨ a.kind = 7 ∨ a.kind = 8 ∨ a.kind = 9 ∨ a.kind = 10 ∨ a.kind = 11 ∨ a.kind = 12 ∨ a.kind = 13 ∨ a.kind = 14 ∨ a.kind = 15 ∨ a.kind = 16 ∨ a.kind = 17 ∨ a.kind = 18 ∨ a.kind = 19 ∨ a.kind = 20 ∨ a.kind = 21 ∨ a.kind = 22 ∨ a.kind = 23 by omega) with h | h | h | h | h | h | h | h | h | h | h | h | h | h | h | h | h | h | h | h | h | h | h | h
    · exact rfits_0 a w hI ho h
    · exact rfits_1 a w hI ho h
    · exact rfits_2 a w hI ho h
    · exact rfits_3 a w hI ho h
    · exact rfits_4 a w hI ho h
    · exact rfits_5 a w hI ho h
    · exact rfits_6 a w hI ho h
    · exact rfits_7 a w hI ho h
    · exact rfits_8 a w hI ho h
    · exact rfits_9 a w hI ho h
    · exact rfits_10 a w hI ho h
    · exact rfits_11 a w hI ho h
    · exact rfits_12 a w hI ho h
    · exact rfits_13 a w hI ho h
    · exact rfits_14 a w hI ho h
    · exact rfits_15 a w hI ho h
    · exact rfits_16 a w hI ho h
    · exact rfits_17 a w hI ho h
    · exact rfits_18 a w hI ho h
    · exact rfits_19 a w hI ho h
    · exact rfits_20 a w hI ho h
    · exact rfits_21 a w hI ho h
    · exact rfits_22 a w hI ho h
    · exact rfits_23 a w hI ho h
  · exact rfits_no a w hk
set_option maxRecDepth 100000 in
set_option maxHeartbeats 40000000 in
theorem ractRight_in (a : ActR) (w : World) (hI : ActIn w a) (ho : ActOk a) (g1 : idB a.author = true) (s1 : ¬ a.seq < 0) (s2 : ¬ 1073741824 < a.seq) (t1 : ¬ a.time < 0) (t2 : ¬ 1099511627776 < a.time) (e1 : ¬ a.e < 0) (e2 : ¬ 2305843009213693950 ≤ a.e) (z1 : ¬ a.s < 0) (z2 : ¬ 2305843009213693950 ≤ a.s) : Calls Tryz.prog 226 #[.agg (actA a)] w fun e w' => e = .returned (.bool (actRight a)) ∧ Q w w' := by
  obtain ⟨w1, x, hx, hq1, hA⟩ := ActAt.box w a 44
  have c0 := hA.get 0 rfl
  have c1 := hA.get 1 rfl
  have c2 := hA.get 2 rfl
  have c3 := hA.get 3 rfl
  have c4 := hA.get 4 rfl
  have c18 := hA.get 18 rfl
  have c19 := hA.get 19 rfl
  have hL := hA.load
  have hza : a.author.size ≤ maxLen := ho.strs _ (by simp)
  have hIn : ∀ y : Wd w1, ActIn y.w a := fun y => hI.q (Q.trans hq1 y.q)
  clear hA
  have HX := Lib.hid (show actRight a = ((if a.seq = 0 then noneB a.prev && decide (a.kind = 0) else decide (a.prev.size = 32) && !decide (a.kind = 0)) && fitsB a) by
    rw [actRight_eq, g1, decide_eq_true (show 0 ≤ a.seq ∧ a.seq ≤ 1073741824 by omega), decide_eq_true (show 0 ≤ a.time ∧ a.time ≤ 1099511627776 by omega), decide_eq_true (show 0 ≤ a.e ∧ a.e ≤ 2305843009213693949 by omega), decide_eq_true (show 0 ≤ a.s ∧ a.s ≤ 2305843009213693949 by omega)]
    rfl)
  by_cases s0 : a.seq = 0
  · have q0 : (a.seq == 0) = true := by simpa using s0
    have q1 : ¬ 0 < a.seq := by omega
    cases hp : noneB a.prev
    · have hp2 : a.prev.toList.isEmpty = false := by rw [empty_none]; exact hp
      have HR := Lib.hid (show actRight a = false by rw [HX.out, if_pos s0, hp]; rfl)
      go_enter Tryz.func226, Tryz.ntmps226
      go_upto_region 2 with (first | (refine wpList_load_run 44 (.tmp 1) (.pointer (some ⟨w.heap.size, 0, none⟩)) (.agg (actA a)) ?_ ?_ ?_ ?_ ?_; rfl; rfl; rfl; exact hL _) | (go_at_call 257; refine (ridRight_any _ _ hza).mono ?_; rintro e w' ⟨rfl, rfl⟩) | (go_at_call 258; refine (rfits_any a _ (hIn _) ho).mono ?_; rintro e w' ⟨rfl, hq2⟩; obtain ⟨y, rfl⟩ := Wd.next _ hq2; clear hq2))
      go_upto_region 4 with fail
      clear s1 s2 t1 t2 e1 e2 z1 z2
      go_upto_region 6 with fail
      go_wp2_with (first | (refine wpList_load_run 44 (.tmp 1) (.pointer (some ⟨w.heap.size, 0, none⟩)) (.agg (actA a)) ?_ ?_ ?_ ?_ ?_; rfl; rfl; rfl; exact hL _) | (go_at_call 257; refine (ridRight_any _ _ hza).mono ?_; rintro e w' ⟨rfl, rfl⟩) | (go_at_call 258; refine (rfits_any a _ (hIn _) ho).mono ?_; rintro e w' ⟨rfl, hq2⟩; obtain ⟨y, rfl⟩ := Wd.next _ hq2; clear hq2))
      go_ret
      exact ⟨by rw [HR.out]; rfl, Q.trans hq1 (Wd.q _)⟩
    · have hp2 : a.prev.toList.isEmpty = true := by rw [empty_none]; exact hp
      by_cases hk : a.kind = 0
      · have k1 : (a.kind != 0) = false := by simp [hk]
        have k2 : (a.kind == 0) = true := by simp [hk]
        have HR := Lib.hid (show actRight a = fitsB a by rw [HX.out, if_pos s0, hp, decide_eq_true hk]; rfl)
        clear hk s0
        go_enter Tryz.func226, Tryz.ntmps226
        go_upto_region 2 with (first | (refine wpList_load_run 44 (.tmp 1) (.pointer (some ⟨w.heap.size, 0, none⟩)) (.agg (actA a)) ?_ ?_ ?_ ?_ ?_; rfl; rfl; rfl; exact hL _) | (go_at_call 257; refine (ridRight_any _ _ hza).mono ?_; rintro e w' ⟨rfl, rfl⟩) | (go_at_call 258; refine (rfits_any a _ (hIn _) ho).mono ?_; rintro e w' ⟨rfl, hq2⟩; obtain ⟨y, rfl⟩ := Wd.next _ hq2; clear hq2))
        go_upto_region 4 with fail
        clear s1 s2 t1 t2 e1 e2 z1 z2
        go_upto_region 6 with fail
        go_wp2_with (first | (refine wpList_load_run 44 (.tmp 1) (.pointer (some ⟨w.heap.size, 0, none⟩)) (.agg (actA a)) ?_ ?_ ?_ ?_ ?_; rfl; rfl; rfl; exact hL _) | (go_at_call 257; refine (ridRight_any _ _ hza).mono ?_; rintro e w' ⟨rfl, rfl⟩) | (go_at_call 258; refine (rfits_any a _ (hIn _) ho).mono ?_; rintro e w' ⟨rfl, hq2⟩; obtain ⟨y, rfl⟩ := Wd.next _ hq2; clear hq2))
        go_ret
        exact ⟨by rw [HR.out]; rfl, Q.trans hq1 (Wd.q _)⟩
      · have k1 : (a.kind != 0) = true := by simp [hk]
        have k2 : (a.kind == 0) = false := by simp [hk]
        have HR := Lib.hid (show actRight a = false by rw [HX.out, if_pos s0, hp, decide_eq_false hk]; rfl)
        clear hk s0
        go_enter Tryz.func226, Tryz.ntmps226
        go_upto_region 2 with (first | (refine wpList_load_run 44 (.tmp 1) (.pointer (some ⟨w.heap.size, 0, none⟩)) (.agg (actA a)) ?_ ?_ ?_ ?_ ?_; rfl; rfl; rfl; exact hL _) | (go_at_call 257; refine (ridRight_any _ _ hza).mono ?_; rintro e w' ⟨rfl, rfl⟩) | (go_at_call 258; refine (rfits_any a _ (hIn _) ho).mono ?_; rintro e w' ⟨rfl, hq2⟩; obtain ⟨y, rfl⟩ := Wd.next _ hq2; clear hq2))
        go_upto_region 4 with fail
        clear s1 s2 t1 t2 e1 e2 z1 z2
        go_upto_region 6 with fail
        go_wp2_with (first | (refine wpList_load_run 44 (.tmp 1) (.pointer (some ⟨w.heap.size, 0, none⟩)) (.agg (actA a)) ?_ ?_ ?_ ?_ ?_; rfl; rfl; rfl; exact hL _) | (go_at_call 257; refine (ridRight_any _ _ hza).mono ?_; rintro e w' ⟨rfl, rfl⟩) | (go_at_call 258; refine (rfits_any a _ (hIn _) ho).mono ?_; rintro e w' ⟨rfl, hq2⟩; obtain ⟨y, rfl⟩ := Wd.next _ hq2; clear hq2))
        go_ret
        exact ⟨by rw [HR.out]; rfl, Q.trans hq1 (Wd.q _)⟩
  · have q0 : (a.seq == 0) = false := by simpa using s0
    have q1 : 0 < a.seq := by omega
    by_cases hp : a.prev.size = 32
    · have hp2 : ((a.prev.size : Int) != 32) = false := by simp; omega
      by_cases hk : a.kind = 0
      · have k1 : (a.kind != 0) = false := by simp [hk]
        have k2 : (a.kind == 0) = true := by simp [hk]
        have HR := Lib.hid (show actRight a = false by rw [HX.out, if_neg s0, decide_eq_true hk]; simp)
        clear hk s0
        go_enter Tryz.func226, Tryz.ntmps226
        go_upto_region 2 with (first | (refine wpList_load_run 44 (.tmp 1) (.pointer (some ⟨w.heap.size, 0, none⟩)) (.agg (actA a)) ?_ ?_ ?_ ?_ ?_; rfl; rfl; rfl; exact hL _) | (go_at_call 257; refine (ridRight_any _ _ hza).mono ?_; rintro e w' ⟨rfl, rfl⟩) | (go_at_call 258; refine (rfits_any a _ (hIn _) ho).mono ?_; rintro e w' ⟨rfl, hq2⟩; obtain ⟨y, rfl⟩ := Wd.next _ hq2; clear hq2))
        go_upto_region 4 with fail
        clear s1 s2 t1 t2 e1 e2 z1 z2
        go_upto_region 6 with fail
        go_wp2_with (first | (refine wpList_load_run 44 (.tmp 1) (.pointer (some ⟨w.heap.size, 0, none⟩)) (.agg (actA a)) ?_ ?_ ?_ ?_ ?_; rfl; rfl; rfl; exact hL _) | (go_at_call 257; refine (ridRight_any _ _ hza).mono ?_; rintro e w' ⟨rfl, rfl⟩) | (go_at_call 258; refine (rfits_any a _ (hIn _) ho).mono ?_; rintro e w' ⟨rfl, hq2⟩; obtain ⟨y, rfl⟩ := Wd.next _ hq2; clear hq2))
        go_ret
        exact ⟨by rw [HR.out]; rfl, Q.trans hq1 (Wd.q _)⟩
      · have k1 : (a.kind != 0) = true := by simp [hk]
        have k2 : (a.kind == 0) = false := by simp [hk]
        have HR := Lib.hid (show actRight a = fitsB a by rw [HX.out, if_neg s0, decide_eq_true hp, decide_eq_false hk]; rfl)
        clear hk s0
        go_enter Tryz.func226, Tryz.ntmps226
        go_upto_region 2 with (first | (refine wpList_load_run 44 (.tmp 1) (.pointer (some ⟨w.heap.size, 0, none⟩)) (.agg (actA a)) ?_ ?_ ?_ ?_ ?_; rfl; rfl; rfl; exact hL _) | (go_at_call 257; refine (ridRight_any _ _ hza).mono ?_; rintro e w' ⟨rfl, rfl⟩) | (go_at_call 258; refine (rfits_any a _ (hIn _) ho).mono ?_; rintro e w' ⟨rfl, hq2⟩; obtain ⟨y, rfl⟩ := Wd.next _ hq2; clear hq2))
        go_upto_region 4 with fail
        clear s1 s2 t1 t2 e1 e2 z1 z2
        go_upto_region 6 with fail
        go_wp2_with (first | (refine wpList_load_run 44 (.tmp 1) (.pointer (some ⟨w.heap.size, 0, none⟩)) (.agg (actA a)) ?_ ?_ ?_ ?_ ?_; rfl; rfl; rfl; exact hL _) | (go_at_call 257; refine (ridRight_any _ _ hza).mono ?_; rintro e w' ⟨rfl, rfl⟩) | (go_at_call 258; refine (rfits_any a _ (hIn _) ho).mono ?_; rintro e w' ⟨rfl, hq2⟩; obtain ⟨y, rfl⟩ := Wd.next _ hq2; clear hq2))
        go_ret
        exact ⟨by rw [HR.out]; rfl, Q.trans hq1 (Wd.q _)⟩
    · have hp2 : ((a.prev.size : Int) != 32) = true := by simp; omega
      have HR := Lib.hid (show actRight a = false by rw [HX.out, if_neg s0, decide_eq_false hp]; rfl)
      go_enter Tryz.func226, Tryz.ntmps226
      go_upto_region 2 with (first | (refine wpList_load_run 44 (.tmp 1) (.pointer (some ⟨w.heap.size, 0, none⟩)) (.agg (actA a)) ?_ ?_ ?_ ?_ ?_; rfl; rfl; rfl; exact hL _) | (go_at_call 257; refine (ridRight_any _ _ hza).mono ?_; rintro e w' ⟨rfl, rfl⟩) | (go_at_call 258; refine (rfits_any a _ (hIn _) ho).mono ?_; rintro e w' ⟨rfl, hq2⟩; obtain ⟨y, rfl⟩ := Wd.next _ hq2; clear hq2))
      go_upto_region 4 with fail
      clear s1 s2 t1 t2 e1 e2 z1 z2
      go_upto_region 6 with fail
      go_wp2_with (first | (refine wpList_load_run 44 (.tmp 1) (.pointer (some ⟨w.heap.size, 0, none⟩)) (.agg (actA a)) ?_ ?_ ?_ ?_ ?_; rfl; rfl; rfl; exact hL _) | (go_at_call 257; refine (ridRight_any _ _ hza).mono ?_; rintro e w' ⟨rfl, rfl⟩) | (go_at_call 258; refine (rfits_any a _ (hIn _) ho).mono ?_; rintro e w' ⟨rfl, hq2⟩; obtain ⟨y, rfl⟩ := Wd.next _ hq2; clear hq2))
      go_ret
      exact ⟨by rw [HR.out]; rfl, Q.trans hq1 (Wd.q _)⟩
theorem ractRight_any (a : ActR) (w : World) (hI : ActIn w a) (ho : ActOk a) : Calls Tryz.prog 226 #[.agg (actA a)] w fun e w' => e = .returned (.bool (actRight a)) ∧ Q w w' := by
  by_cases h : idB a.author = true ∧ ¬ a.seq < 0 ∧ ¬ 1073741824 < a.seq ∧ ¬ a.time < 0 ∧ ¬ 1099511627776 < a.time ∧ ¬ a.e < 0 ∧ ¬ 2305843009213693950 ≤ a.e ∧ ¬ a.s < 0 ∧ ¬ 2305843009213693950 ≤ a.s
  · obtain ⟨g1, s1, s2, t1, t2, e1, e2, z1, z2⟩ := h
    exact ractRight_in a w hI ho g1 s1 s2 t1 t2 e1 e2 z1 z2
  · exact ractRight_out a w ho h
end Go.Proofs.YtflgkplneekpfaaGreatDoor.Item

namespace Go.Proofs.YtflgkplneekpfaaGreatDoor.Item
open Go.RowKit Grp Mem _root_.Go.Proofs.YtflgkplneekpfaaGreatDoor.Code Sha Sign _root_.Go.Proofs.YtflgkplneekpfaaGreatDoor.Known

set_option maxHeartbeats 2000000 in
theorem rbox_any (n d t : ByteArray) (w : World) (h : n.size + d.size + t.size ≤ 140737488355000) : Calls Tryz.prog 262 #[.agg #[.string n, .string d, .string t]] w fun e w' => e = .returned (.string ⟨(boxL n d t).toArray⟩) ∧ Q w w' := by
  obtain ⟨w1, x, hx, hq1, hlt, hr⟩ := boxed w 41 [.string n, .string d, .string t]
  have c0 := Wd.at0 hlt hr 0 rfl
  have c1 := Wd.at0 hlt hr 1 rfl
  have c2 := Wd.at0 hlt hr 2 rfl
  have z0 := textB_size n
  have z1 := textB_size d
  have z2 := textB_size t
  have a1 : (textB n).size + (textB d).size ≤ 9223372036854775807 := by omega
  have a2 : (textB n).size + (textB d).size + (textB t).size ≤ 9223372036854775807 := by omega
  have HR : Hid ((textB n ++ textB d) ++ textB t = ⟨(boxL n d t).toArray⟩) := Lib.hid (by
    apply ba_ext
    rw [ba_append, ba_append, textB_list, textB_list, textB_list, ba_list, boxL, List.append_assoc])
  go_enter Tryz.func262, Tryz.ntmps262
  go_wp2
  refine wp_region_wd x (by kernel_rfl) (by kernel_rfl) ?_
  repeat (go_big_quiet_step (exact Wd.call _ (RText_any _ _ (by omega))))
  refine wpQuiet_nil ?_
  rintro w'' ⟨z, rfl⟩
  go_wp2
  go_ret
  exact ⟨by rw [← HR.out]; rfl, Q.trans hq1 z.q⟩

set_option maxHeartbeats 1000000 in
theorem rcore_no (a : ActR) (w : World) (hI : ActIn w a) (ho : ActOk a) (h : actRight a = false) : Calls Tryz.prog 230 #[.agg (actA a)] w fun e w' => e = .returned (.string (actCore a)) ∧ Q w w' := by
  obtain ⟨w1, x, hx, hq1, hA⟩ := ActAt.box w a 44
  have hL := hA.load
  have HR : Hid (actCore a = ⟨#[]⟩) := Lib.hid (by unfold actCore; rw [h]; rfl)
  clear hA
  go_enter Tryz.func230, Tryz.ntmps230
  go_wp2_with (first | (refine wpList_load_run 44 (.tmp 1) (.pointer (some ⟨w.heap.size, 0, none⟩)) (.agg (actA a)) ?_ ?_ ?_ ?_ ?_; rfl; rfl; rfl; exact hL _) | (go_at_call 226; refine (ractRight_any _ _ (hI.q (Q.trans hq1 (Wd.q _))) ho).mono ?_; rintro e w' ⟨rfl, hq2⟩; obtain ⟨y, rfl⟩ := Wd.next _ hq2; clear hq2))
  go_ret
  exact ⟨by rw [HR.out]; rfl, Q.trans hq1 (Wd.q _)⟩

set_option maxRecDepth 100000 in
set_option maxHeartbeats 8000000 in
theorem rcore_yes (a : ActR) (w : World) (hI : ActIn w a) (ho : ActOk a) (h : actRight a = true) : Calls Tryz.prog 230 #[.agg (actA a)] w fun e w' => e = .returned (.string (actCore a)) ∧ Q w w' := by
  have sm := act_small h
  obtain ⟨w1, x, hx, hq1, hA⟩ := ActAt.box w a 44
  have hL := hA.load
  have HR : Hid (actCore a = ⟨(coreL a).toArray⟩) := Lib.hid (by unfold actCore; rw [h]; rfl)
  have c0 := hA.get 0 rfl
  have c1 := hA.get 1 rfl
  have c2 := hA.get 2 rfl
  have c3 := hA.get 3 rfl
  have c4 := hA.get 4 rfl
  have c5 := hA.get 5 rfl
  have c6 := hA.get 6 rfl
  have c7 := hA.get 7 rfl
  have c8 := hA.get 8 rfl
  have c9 := hA.get 9 rfl
  have c10 := hA.get 10 rfl
  have c11 := hA.get 11 rfl
  have c12 := hA.get 12 rfl
  have c13 := hA.get 13 rfl
  have c14 := hA.get 14 rfl
  have c15 := hA.get 15 rfl
  have c16 := hA.get 16 rfl
  have c17 := hA.get 17 rfl
  have hI' : ∀ y : Wd w1, ActIn y.w a := fun y => hI.q (Q.trans hq1 y.q)
  have hwl := hI.wrLen
  have b0 : (textB actT).size ≤ 20 := Nat.le_trans (textB_size actT) (by decide)
  have b1 := textB_size a.author
  have b2 := numB_size a.seq
  have b3 := textB_size a.prev
  have b4 := numB_size a.kind
  have b5 := numB_size a.time
  have q0 := sm.seq
  have q1 := sm.author
  have q2 := sm.prev
  have q5 := sm.kind
  have q6 := sm.time
  have f1 : (textB actT).size + (textB a.author).size ≤ 9223372036854775807 := by omega
  have f2 : (textB actT).size + (textB a.author).size + (numB a.seq).size ≤ 9223372036854775807 := by omega
  have f3 : (textB actT).size + (textB a.author).size + (numB a.seq).size + (textB a.prev).size ≤ 9223372036854775807 := by omega
  have f4 : (textB actT).size + (textB a.author).size + (numB a.seq).size + (textB a.prev).size + (numB a.kind).size ≤ 9223372036854775807 := by omega
  have f5 : (textB actT).size + (textB a.author).size + (numB a.seq).size + (textB a.prev).size + (numB a.kind).size + (numB a.time).size ≤ 9223372036854775807 := by omega
  clear hA
  go_enter Tryz.func230, Tryz.ntmps230
  go_wp2_with (first | (refine wpList_load_run 44 (.tmp 1) (.pointer (some ⟨w.heap.size, 0, none⟩)) (.agg (actA a)) ?_ ?_ ?_ ?_ ?_; rfl; rfl; rfl; exact hL _) | (go_at_call 226; refine (ractRight_any _ _ (hI' _) ho).mono ?_; rintro e w' ⟨rfl, hq2⟩; obtain ⟨y, rfl⟩ := Wd.next _ hq2; clear hq2))
  refine wp_region_wd y (by kernel_rfl) (by kernel_rfl) ?_
  repeat (go_big_quiet_step (first | (go_at_call 192; exact Wd.call _ (RNum_any _ _ (by omega))) | (go_at_call 231; exact Wd.call _ (RText_any _ _ (by omega))) | exact Wd.call _ (RText_any actT _ (by decide))))
  refine wpQuiet_nil ?_
  rintro w'' ⟨y4, rfl⟩
  clear f1 f2 f3 f4 f5
  generalize hS4 : ((((textB actT ++ textB a.author) ++ numB a.seq) ++ textB a.prev) ++ numB a.kind) ++ numB a.time = S4
  have s4 : S4.size ≤ 400 := by rw [← hS4]; simp only [ByteArray.size_append]; omega
  have H4 := Lib.hid hS4
  clear hS4 b0 b1 b2 b3 b4 b5
  have b6 := textB_size a.object
  have b7 := textB_size a.target
  have b8 := numB_size a.scope
  have b9 := textB_size a.group
  have b10 := listL_le a.to 16 sm.ids
  have b10' := listB_size a.to
  have b11 := textB_size a.text
  have q3 := sm.object
  have q4 := sm.target
  have q7 := sm.scope
  have q8 := sm.group
  have q9 := sm.to
  have q10 := sm.text
  have g1 : S4.size + (textB a.object).size ≤ 9223372036854775807 := by omega
  have g2 : S4.size + (textB a.object).size + (textB a.target).size ≤ 9223372036854775807 := by omega
  have g3 : S4.size + (textB a.object).size + (textB a.target).size + (numB a.scope).size ≤ 9223372036854775807 := by omega
  have g4 : S4.size + (textB a.object).size + (textB a.target).size + (numB a.scope).size + (textB a.group).size ≤ 9223372036854775807 := by omega
  have g5 : S4.size + (textB a.object).size + (textB a.target).size + (numB a.scope).size + (textB a.group).size + (listB a.to).size ≤ 9223372036854775807 := by omega
  have g6 : S4.size + (textB a.object).size + (textB a.target).size + (numB a.scope).size + (textB a.group).size + (listB a.to).size + (textB a.text).size ≤ 9223372036854775807 := by omega
  go_wp2
  refine wp_region_wd y4 (by kernel_rfl) (by kernel_rfl) ?_
  repeat (go_big_quiet_step (first | (go_at_call 192; exact Wd.call _ (RNum_any _ _ (by omega))) | (go_at_call 231; exact Wd.call _ (RText_any _ _ (by omega))) | (go_at_call 232; exact Wd.call _ (RList_any _ _ _ _ (hI' _).to (by omega) (by omega)))))
  refine wpQuiet_nil ?_
  rintro w'' ⟨y5, rfl⟩
  clear g1 g2 g3 g4 g5 g6
  generalize hS5 : (((((S4 ++ textB a.object) ++ textB a.target) ++ numB a.scope) ++ textB a.group) ++ listB a.to) ++ textB a.text = S5
  have s5 : S5.size ≤ 4000 := by rw [← hS5]; simp only [ByteArray.size_append]; omega
  have H5 := Lib.hid hS5
  clear hS5 b6 b7 b8 b9 b10 b10' b11 s4
  have b12 := boxL_le a.bn a.bd a.bt
  have b12' := box_size a.bn a.bd a.bt
  have b13 := numB_size a.epoch
  have b14 := numB_size a.wraps.length
  have q11 := sm.body
  have q12 := sm.epoch
  have q13 := sm.wraps
  have g0 : S5.size + (⟨(boxL a.bn a.bd a.bt).toArray⟩ : ByteArray).size ≤ 9223372036854775807 := by omega
  have g1 : S5.size + (⟨(boxL a.bn a.bd a.bt).toArray⟩ : ByteArray).size + (numB a.epoch).size ≤ 9223372036854775807 := by omega
  have g2 : S5.size + (⟨(boxL a.bn a.bd a.bt).toArray⟩ : ByteArray).size + (numB a.epoch).size + (numB (a.wraps.length : Int)).size ≤ 9223372036854775807 := by omega
  go_wp2
  refine wp_region_wd y5 (by kernel_rfl) (by kernel_rfl) ?_
  repeat (go_big_quiet_step (first | (go_at_call 192; exact Wd.call _ (RNum_any _ _ (by omega))) | (go_at_call 231; exact Wd.call _ (RText_any _ _ (by omega))) | (go_at_call 262; exact Wd.call _ (rbox_any _ _ _ _ (by omega)))))
  refine wpQuiet_nil ?_
  rintro w'' ⟨y6, rfl⟩
  clear g0 g1 g2
  generalize hS6 : ((S5 ++ (⟨(boxL a.bn a.bd a.bt).toArray⟩ : ByteArray)) ++ numB a.epoch) ++ numB (a.wraps.length : Int) = S6
  have s6 : S6.size ≤ 5000 := by rw [← hS6]; simp only [ByteArray.size_append]; omega
  have H6 := Lib.hid hS6
  clear hS6 b12 b12' b13 b14 s5
  clear q0 q1 q2 q3 q4 q5 q6 q7 q8 q9 q10 q11 q12 c0 c1 c2 c3 c4 c5 c6 c7 c8 c9 c10 c11 c12 c13 c14 hL
  go_wp2
  go_loopw [4, 5] (fun s i wr => ∃ (k : Nat) (z : Wd w1) (S : ByteArray), s = .string S ∧ i = .int .i64 k ∧ wr = z.w ∧ k ≤ a.wraps.length ∧ Hid (S.data.toList = S6.data.toList ++ (a.wraps.take k).flatMap wrapL)) (fun _ i _ => a.wraps.length - (intOf i).toNat)
  case atStart => exact ⟨0, y6, S6, rfl, rfl, rfl, Nat.zero_le _, Lib.hid (by simp)⟩
  case round =>
    obtain ⟨k, z, S, rfl, rfl, rfl, hk, hS⟩ := hrel
    have hSz : S.size ≤ 5000 + 64 * 600 := by
      have h1 := congrArg List.length hS.out
      rw [List.length_append, ba_length, ba_length] at h1
      have h2 := flat_le wrapL 600 (a.wraps.take k) fun v hv => wrapL_le v (sm.each v (List.mem_of_mem_take hv))
      rw [List.length_take] at h2
      have h3 := Nat.mul_le_mul_right 600 (show min k a.wraps.length ≤ 64 by omega)
      omega
    by_cases hlt : k < a.wraps.length
    · obtain ⟨b, o, hwA, hb, hcell⟩ := (hI.wraps.q hq1) (by omega)
      have hv := sm.each _ (List.getElem_mem hlt)
      have hst : (a.wraps.take (k + 1)).flatMap wrapL = (a.wraps.take k).flatMap wrapL ++ wrapL a.wraps[k] := by
        rw [List.take_succ_eq_append_getElem hlt, List.flatMap_append]
        simp
      have k0 := Wd.get (w0 := w1) hb (hcell k hlt) 0 rfl
      have k1 := Wd.get (w0 := w1) hb (hcell k hlt) 1 rfl
      have k2 := Wd.get (w0 := w1) hb (hcell k hlt) 2 rfl
      have k3 := Wd.get (w0 := w1) hb (hcell k hlt) 3 rfl
      have k4 := Wd.get (w0 := w1) hb (hcell k hlt) 4 rfl
      simp only [Nat.add_zero] at k0
      have HST := Lib.hid hst
      clear hst hcell
      generalize a.wraps[k] = v at *
      rw [hwA] at c15
      simp only [wrapOk, Bool.and_eq_true] at hv
      have p1 := publicB_facts hv.1
      have p2 := publicB_facts hv.2.1
      have p3 := sealedB_facts hv.2.2
      have n1 := numB_size v.to
      have n2 := numB_size v.eph
      have n3 := boxL_le v.n v.d v.t
      have n3' := box_size v.n v.d v.t
      have g0 : S.size + (numB v.to).size ≤ 9223372036854775807 := by omega
      have g1 : S.size + (numB v.to).size + (numB v.eph).size ≤ 9223372036854775807 := by omega
      have g2 : S.size + (numB v.to).size + (numB v.eph).size + (⟨(boxL v.n v.d v.t).toArray⟩ : ByteArray).size ≤ 9223372036854775807 := by omega
      have hk0 : (0 : Int) ≤ (k : Int) := by omega
      have hk1 : (k : Int) < (a.wraps.length : Int) := by omega
      go_wp2
      refine wp_region_wd z (by kernel_rfl) (by kernel_rfl) ?_
      repeat (go_big_quiet_step (first | (go_at_call 192; exact Wd.call _ (RNum_any _ _ (by omega))) | (go_at_call 262; exact Wd.call _ (rbox_any _ _ _ _ (by omega)))))
      refine wpQuiet_nil ?_
      rintro w'' ⟨y7, rfl⟩
      go_wp2
      exact ⟨⟨k + 1, y7, _, rfl, by go_num, rfl, by omega, Lib.hid (by
        rw [HST.out, ba_append, ba_append, ba_append, hS.out, ba_list]
        simp only [wrapL, numL_eq, List.append_assoc])⟩, by simp only [intOf]; omega⟩
    · have hks : k = a.wraps.length := by omega
      have n1 := numB_size a.n
      have n2 := numB_size a.m
      have p1 := sm.n
      have p2 := sm.m
      have g0 : S.size + (numB a.n).size ≤ 9223372036854775807 := by omega
      have g1 : S.size + (numB a.n).size + (numB a.m).size ≤ 9223372036854775807 := by omega
      have HF : Hid ((S ++ numB a.n) ++ numB a.m = actCore a) := Lib.hid (by
        have h1 := hS.out
        rw [hks, List.take_length] at h1
        rw [HR.out]
        apply ba_ext
        rw [ba_append, ba_append, h1, ← H6.out, ← H5.out, ← H4.out, ba_list]
        simp only [ba_append, textB_list, numL_eq, listB_list, ba_list, coreL, List.append_assoc])
      clear hks hS
      go_wp2
      refine wp_region_wd z (by kernel_rfl) (by kernel_rfl) ?_
      repeat (go_big_quiet_step ((go_at_call 192; exact Wd.call _ (RNum_any _ _ (by omega)))))
      refine wpQuiet_nil ?_
      rintro w'' ⟨y7, rfl⟩
      go_wp2
      go_ret
      exact ⟨by rw [← HF.out]; rfl, Q.trans hq1 y7.q⟩
theorem rcore_any (a : ActR) (w : World) (hI : ActIn w a) (ho : ActOk a) : Calls Tryz.prog 230 #[.agg (actA a)] w fun e w' => e = .returned (.string (actCore a)) ∧ Q w w' := by
  cases h : actRight a
  · exact rcore_no a w hI ho h
  · exact rcore_yes a w hI ho h
set_option maxHeartbeats 2000000 in
theorem ractBytes_any (a : ActR) (w : World) (hI : ActIn w a) (ho : ActOk a) : Calls Tryz.prog 193 #[.agg (actA a)] w fun e w' => e = .returned (.string (actBytes a)) ∧ Q w w' := by
  obtain ⟨w1, x, hx, hq1, hA⟩ := ActAt.box w a 44
  have hL := hA.load
  have c18 := hA.get 18 rfl
  have c19 := hA.get 19 rfl
  have hem := actCore_empty a
  clear hA
  cases h : actRight a
  · rw [h] at hem
    have HR : Hid (actBytes a = ⟨#[]⟩) := Lib.hid (by unfold actBytes; rw [h]; rfl)
    clear h
    go_enter Tryz.func193, Tryz.ntmps193
    go_wp2_with (first | (refine wpList_load_run 44 (.tmp 1) (.pointer (some ⟨w.heap.size, 0, none⟩)) (.agg (actA a)) ?_ ?_ ?_ ?_ ?_; rfl; rfl; rfl; exact hL _) | (go_at_call 230; refine (rcore_any _ _ (hI.q (Q.trans hq1 (Wd.q _))) ho).mono ?_; rintro e w' ⟨rfl, hq2⟩; obtain ⟨y, rfl⟩ := Wd.next _ hq2; clear hq2))
    go_ret
    exact ⟨by rw [HR.out]; rfl, Q.trans hq1 (Wd.q _)⟩
  · rw [h] at hem
    have sm := act_small h
    have p1 := sm.e
    have p2 := sm.s
    have hsz : (actCore a).size ≤ 60000 := by unfold actCore; rw [h, if_pos rfl, ba_size]; exact coreL_le a h
    have HR : Hid ((actCore a ++ numB a.e) ++ numB a.s = actBytes a) := Lib.hid (by
      unfold actBytes actCore
      rw [h, if_pos rfl, if_pos rfl]
      apply ba_ext
      rw [ba_append, ba_append, ba_list, ba_list, numL_eq, numL_eq, List.append_assoc])
    have n1 := numB_size a.e
    have n2 := numB_size a.s
    have g0 : (actCore a).size + (numB a.e).size ≤ 9223372036854775807 := by omega
    have g1 : (actCore a).size + (numB a.e).size + (numB a.s).size ≤ 9223372036854775807 := by omega
    clear h sm
    go_enter Tryz.func193, Tryz.ntmps193
    go_wp2_with (first | (refine wpList_load_run 44 (.tmp 1) (.pointer (some ⟨w.heap.size, 0, none⟩)) (.agg (actA a)) ?_ ?_ ?_ ?_ ?_; rfl; rfl; rfl; exact hL _) | (go_at_call 230; refine (rcore_any _ _ (hI.q (Q.trans hq1 (Wd.q _))) ho).mono ?_; rintro e w' ⟨rfl, hq2⟩; obtain ⟨y, rfl⟩ := Wd.next _ hq2; clear hq2))
    refine wp_region_wd _ (by kernel_rfl) (by kernel_rfl) ?_
    repeat (go_big_quiet_step ((go_at_call 192; exact Wd.call _ (RNum_any _ _ (by omega)))))
    refine wpQuiet_nil ?_
    rintro w'' ⟨y7, rfl⟩
    go_wp2
    go_ret
    exact ⟨by rw [← HR.out]; rfl, Q.trans hq1 y7.q⟩
end Go.Proofs.YtflgkplneekpfaaGreatDoor.Item

namespace Go.Proofs.YtflgkplneekpfaaGreatDoor.Sha
open Go.RowKit Grp Mem

def ofL (l : List UInt8) : ByteArray := ⟨l.toArray⟩
theorem ofL_list (l : List UInt8) : (ofL l).data.toList = l := by simp [ofL]
theorem ofL_of (s : ByteArray) : ofL s.data.toList = s := by simp [ofL]
theorem len_list (s : ByteArray) : s.data.toList.length = s.size := by rw [Array.length_toList]; rfl
theorem extract_list (s : ByteArray) (a b : Nat) : (s.extract a b).data.toList = (s.data.toList.drop a).take (b - a) := by
  rw [ByteArray.data_extract, Array.toList_extract, List.extract_eq_take_drop]
/-- Block j of a list of bytes. -/
def blk (l : List UInt8) (j : Nat) : ByteArray := ofL ((l.drop (64 * j)).take 64)
/-- The state after j blocks. -/
def hs (l : List UInt8) : Nat → V8
  | 0 => init
  | j + 1 => mix (hs l j) (blk l j)
theorem hs_ok (l : List UInt8) : ∀ j, V8Ok (hs l j) := by
  intro j
  cases j with
  | zero => exact init_ok
  | succ j => exact mix_ok _ _
theorem blk_byte (l : List UInt8) (j k : Nat) (hk : k < 64) : byteAt (blk l j) k = ((l.getD (64 * j + k) 0).toNat : Int) := by
  unfold byteAt blk
  rw [ofL_list, List.getD_eq_getElem?_getD, List.getD_eq_getElem?_getD, List.getElem?_take, if_pos hk, List.getElem?_drop]
def feed : Nat → V8 → List UInt8 → V8
  | 0, v, _ => v
  | n + 1, v, l => feed n (mix v (ofL (l.take 64))) (l.drop 64)
theorem feed_hs (l : List UInt8) : ∀ n j, feed n (hs l j) (l.drop (64 * j)) = hs l (j + n) := by
  intro n
  induction n with
  | zero => intro j; rfl
  | succ n ih =>
    intro j
    have h := ih (j + 1)
    rw [feed, List.drop_drop]
    rw [show j + (n + 1) = j + 1 + n by omega, ← h]
    rfl
theorem eat_feed : ∀ (f : Nat) (v : V8) (r : ByteArray), r.size < 64 * (f + 1) → ∀ (T : List UInt8) (n : Nat), feed (r.size / 64 + n) v (r.data.toList ++ T) = feed n (eat f v r).1 ((eat f v r).2.data.toList ++ T) := by
  intro f
  induction f with
  | zero =>
    intro v r h T n
    rw [show r.size / 64 + n = n by omega]
    rfl
  | succ f ih =>
    intro v r h T n
    by_cases hr : 64 ≤ r.size
    · rw [eat_step _ _ _ hr]
      have hl := len_list r
      have hs : (r.extract 64 r.size).size = r.size - 64 := by simp
      have h2 := ih (mix v (r.extract 0 64)) (r.extract 64 r.size) (by omega) T n
      rw [← h2, hs, show r.size / 64 + n = ((r.size - 64) / 64 + n) + 1 by omega, feed]
      have e1 : ofL ((r.data.toList ++ T).take 64) = r.extract 0 64 := by
        rw [List.take_append_of_le_length (by omega), ← ofL_of (r.extract 0 64), extract_list]
        rfl
      have e2 : (r.data.toList ++ T).drop 64 = (r.extract 64 r.size).data.toList ++ T := by
        rw [List.drop_append_of_le_length (by omega), extract_list, List.take_of_length_le (by rw [List.length_drop]; omega)]
      rw [e1, e2]
    · rw [eat_short _ _ _ (by omega), show r.size / 64 + n = n by omega]
theorem eat_left : ∀ (f : Nat) (v : V8) (r : ByteArray), r.size < 64 * (f + 1) → (eat f v r).2.size = r.size % 64 := by
  intro f
  induction f with
  | zero => intro v r h; show r.size = _; omega
  | succ f ih =>
    intro v r h
    by_cases hr : 64 ≤ r.size
    · rw [eat_step _ _ _ hr]
      have hs : (r.extract 64 r.size).size = r.size - 64 := by simp
      rw [ih _ _ (by omega), hs]
      omega
    · rw [eat_short _ _ _ (by omega)]
      show r.size = _
      omega
/-- The padded text. -/
def zeros (s : ByteArray) : Nat := padLen (s.size % 64)
def tail (s : ByteArray) : List UInt8 := [128] ++ List.replicate (zeros s) 0 ++ be s.size 8
def padded (s : ByteArray) : List UInt8 := s.data.toList ++ tail s
theorem padded_length (s : ByteArray) : (padded s).length = s.size + 9 + zeros s := by
  unfold padded tail
  rw [List.length_append, List.length_append, List.length_append, List.length_replicate, be_length, len_list]
  simp
  omega
theorem zeros_spec (s : ByteArray) : (s.size + 1 + zeros s) % 64 = 56 ∧ zeros s ≤ 63 ∧ ∀ k, k < zeros s → (s.size + 1 + k) % 64 ≠ 56 := by
  unfold zeros padLen
  split
  · exact ⟨by omega, by omega, fun k hk => by omega⟩
  · exact ⟨by omega, by omega, fun k hk => by omega⟩
theorem shaV_hs (s : ByteArray) : shaV s = hs (padded s) ((padded s).length / 64) := by
  have h0 : s.size < 64 * (s.size + 1) := by omega
  have hsz := eat_left s.size init s h0
  have hf := eat_feed s.size init s h0
  unfold shaV
  generalize eat s.size init s = e at *
  have hE : (endB e.2 s.size).data.toList = e.2.data.toList ++ tail s := by
    unfold endB endL fin pre tail zeros
    rw [hsz]
    simp
  have hEs := endB_size e.2 s.size (by omega)
  have hEs2 : (endB e.2 s.size).size ≤ 128 := by rw [hEs]; split <;> omega
  have h3 := eat_feed 3 e.1 (endB e.2 s.size) (by omega) [] 0
  rw [List.append_nil, Nat.add_zero, hE] at h3
  have h4 := hf (tail s) ((endB e.2 s.size).size / 64)
  have h5 : s.size / 64 + (endB e.2 s.size).size / 64 = (padded s).length / 64 := by
    rw [padded_length, hEs, hsz]
    unfold zeros padLen
    split <;> omega
  have h6 := feed_hs (padded s) ((padded s).length / 64) 0
  rw [Nat.zero_add] at h6
  rw [← h6]
  show _ = feed _ init (padded s)
  rw [← h5]
  show _ = feed _ init (s.data.toList ++ tail s)
  rw [h4, h3]
  rfl
/-- Byte i of the digest. -/
def outI (v : V8) (i : Nat) : Int := v.list.getD (i / 4) 0 / ((2 ^ (24 - 8 * (i % 4)) : Nat) : Int) % 256
def outs (v : V8) (n : Nat) : List UInt8 := (List.range n).map fun i => UInt8.ofNat (outI v i).toNat
theorem outs_succ (v : V8) (n : Nat) : outs v (n + 1) = outs v n ++ [UInt8.ofNat (outI v n).toNat] := by simp [outs, List.range_succ]
theorem outs_length (v : V8) (n : Nat) : (outs v n).length = n := by simp [outs]
theorem digest_outs (v : V8) : digest v = outs v 32 := by
  obtain ⟨a, b, c, d, e, f, g, h⟩ := v
  simp [digest, V8.list, wordBytes, outs, outI, List.range_succ, Int.ediv_one]
theorem outI_bd (v : V8) (i : Nat) : 0 ≤ outI v i ∧ outI v i < 256 := by unfold outI; omega
theorem outs_cells (v : V8) (n : Nat) : cellsOf (outs v (n + 1)) = cellsOf (outs v n) ++ [Value.int .u8 (outI v n)] := by
  have hb := outI_bd v n
  rw [outs_succ, cellsOf_append]
  congr 1
  simp only [cellsOf, List.map_cons, List.map_nil]
  rw [byte_cell _ hb.1 hb.2]

/-- The rounds, spelled the reference's way. -/
theorem or_comm (x y : Int) : bits .or .u32 x y = bits .or .u32 y x := by
  unfold bits
  simp only [BitVec.or_comm]
theorem rot_comm (x : Int) (n : Nat) : bits .or .u32 (x / 2 ^ n) (x * 2 ^ (32 - n) % 4294967296) = rot x n := or_comm _ _

end Go.Proofs.YtflgkplneekpfaaGreatDoor.Sha

namespace Go.Proofs.YtflgkplneekpfaaGreatDoor.Sha
open Go.RowKit Grp Mem _root_.Go.Proofs.YtflgkplneekpfaaGreatDoor.Code

theorem word_info : (Tryz.prog.info? 160).map (fun i => (i.zero, i.size, i.bytes)) = some (some (.int .u32 0), 1, 4) := by kernel_rfl

set_option maxRecDepth 100000 in
set_option maxHeartbeats 400000 in
theorem rturn_nat (x : Int) (n : Nat) (w : World) (h : U32 x) (n0 : 0 < n) (n1 : n < 32) :
    Calls Tryz.prog 235 #[.int .u32 x, .int .i64 n] w fun e w' => e = .returned (.int .u32 (rot x n)) ∧ ∃ q, w' = w.drewN q := by
  obtain ⟨x0, x1⟩ := h
  rw [← rot_comm]
  have e2 : (32 - (n : Int)).toNat = 32 - n := by omega
  have e3 : (32 : Int) - (n : Int) = ((32 - n : Nat) : Int) := by omega
  have n2 : (n : Int) < 32 := by omega
  go_enter Tryz.func235, Tryz.ntmps235
  go_wp2_with fail
  go_quiet (fail)
  go_wp2
  go_ret
  exact ⟨rfl, _, rfl⟩
theorem rturn_any (x m : Int) (w : World) (h : U32 x) (n0 : 0 < m) (n1 : m < 32) :
    Calls Tryz.prog 235 #[.int .u32 x, .int .i64 m] w fun e w' => e = .returned (.int .u32 (rot x m.toNat)) ∧ ∃ q, w' = w.drewN q := by
  obtain ⟨n, rfl⟩ := Int.eq_ofNat_of_zero_le (show 0 ≤ m by omega)
  exact rturn_nat x n w h (by omega) (by omega)
/-- A quiet call behind quiet operations. -/
theorem rquiet {P : Program} {f : FuncId} {args : Array Value} {w : World} {a n : Nat} {v : Value}
    (h : Calls P f args (w.drewN (a + n)) fun e w' => e = .returned v ∧ ∃ q, w' = (w.drewN (a + n)).drewN q) :
    Calls P f args (w.drewN (a + n)) fun e w'' => e = .returned v ∧ ∃ m, w'' = w.drewN (a + m) :=
  h.mono fun e w' ⟨he, q, hm⟩ => ⟨he, n + q, by rw [hm, World.drewN_drewN, Nat.add_assoc]⟩

/-- append onto a row that lies: what the row held stays readable at its old place. -/
theorem run_append_keep {P : Program} (w : World) (base : Nat) (t ty e : TypeId) (i : TypeInfo) (z : Value) (size bytes : Nat) (ht : P.underlying t = some (.slice e)) (hi : P.info? e = some i) (hz : i.zero = some z)
    (hsize : i.size = size) (hby : i.bytes = bytes) (hzs : z.cells.size = size) (hsz : 0 < size)
    (g cap n : Nat) (xs : List Value) (hown : Owns w base e size (.slice (some ⟨g, 0, none⟩) n cap) n xs)
    (a : Addr) (m c : Nat) (news : List Value) (hl : news.length = m * size) (hnews : ∀ j u, news[j]? = some u → w.cell? (a.add j) = some u) (h1 : ∀ u ∈ news, u.oneCell' = true)
    (h63 : n + m ≤ maxLen) (hbytes : (n + m) * bytes ≤ 140737488355328) (v' : Value) (w' : World) (hr : (Builtin.append_ #[t, t] ty #[.slice (some ⟨g, 0, none⟩) n cap, .slice (some a) m c]).run P w = .ok v' w') :
    ∀ j u, xs[j]? = some u → w'.cell? ⟨g, j, none⟩ = some u := by
  intro j u hu
  have hold := hown.cells (g := g) rfl j u hu
  have hadd : (⟨g, 0, none⟩ : Addr).add j = ⟨g, j, none⟩ := by unfold Addr.add; split <;> simp_all
  rw [hadd] at hold
  rcases hown.2 with ⟨hv, _⟩ | ⟨g', cap', cur, fz, hv, hbg, hg, hfz, hnc, hcm, hcs, htake⟩
  · cases hv
  · cases hv
    subst hsize
    subst hby
    have hsmall : n + m ≤ 9223372036854775807 := by simp only [maxLen] at h63; omega
    have hjl : j < xs.length := (List.getElem?_eq_some_iff.1 hu).1
    by_cases hroom : n + m ≤ cap
    · have hfit : n * i.size + news.length ≤ cur.size := by rw [hl, hcs, ← Nat.add_mul]; exact Nat.mul_le_mul_right _ hroom
      have hf := run_firstCells_some (P := P) w i.size m a m c news hl hnews
      have hst := run_storeCells_loose P g (n * i.size) e fz news 0 cur w hg hfz (by simpa using hfit) h1
      simp only [Nat.add_zero] at hst
      have hr2 : (Builtin.append_ #[t, t] ty #[.slice (some ⟨g, 0, none⟩) n cap, .slice (some a) m c]).run P w =
          .ok (.slice (some ⟨g, 0, none⟩) (n + m) cap) (w.setRow g (cur.toList.take (n * i.size) ++ news ++ cur.toList.drop (n * i.size + news.length)).toArray) := by
        simp [Builtin.append_, run_underlying ht, sizeOf, typeInfo, hi, Builtin.lenOf, hroom, hf, Addr.add_lit, hst]
      rw [hr2] at hr
      cases hr
      rw [cell_of_row _ g j _ e fz (setRow_heap w g cur _ e _ hg), htake, List.getElem?_toArray, List.append_assoc, List.getElem?_append_left hjl]
      exact hu
    · have holds : ∀ j u, xs[j]? = some u → w.cell? ((⟨g, 0, none⟩ : Addr).add j) = some u := hown.cells (g := g) rfl
      have hr2 := run_append_grow (P := P) w t ty e i z ht hi hz ⟨g, 0, none⟩ n cap xs hown.1 holds a m c news hl hnews (by omega) (by omega) (growslice_fits (by omega) hbytes)
      rw [hr2] at hr
      cases hr
      exact (World.cell?_of_block (Below.heap_alloc w.drew _ g (Array.getElem?_eq_some_iff.1 hg).1)).trans hold

/-- append, as one step of a region that draws its order, onto a row that lies. -/
theorem step_append_keep {P : Program} {w : World} {ops : Array Oper} {o : Oper} {a : Act} {K : Act → World → Prop} {Q : Exit → Act → World → Prop} {E : Prop} (hgd : o.guard = none) (s x : Operand) (t : TypeId)
    (ho : o.op = .call { callee := .builtin .append, args := #[s, x], argTypes := #[t, t] })
    (base : Nat) (e : TypeId) (i : TypeInfo) (z : Value) (size bytes : Nat) (ht : P.underlying t = some (.slice e)) (hi : P.info? e = some i) (hz : i.zero = some z)
    (hsize : i.size = size) (hby : i.bytes = bytes) (hzs : z.cells.size = size) (hsz : 0 < size)
    (g cp n : Nat) (xs : List Value) (hs : a.eval s = .slice (some ⟨g, 0, none⟩) n cp) (hown : Owns w base e size (.slice (some ⟨g, 0, none⟩) n cp) n xs)
    (ad : Addr) (m c : Nat) (news : List Value) (hx : a.eval x = .slice (some ad) m c) (hl : news.length = m * size) (hnews : ∀ j u, news[j]? = some u → w.cell? (ad.add j) = some u) (h1 : ∀ u ∈ news, u.oneCell' = true)
    (h63 : n + m ≤ maxLen) (hbytes : (n + m) * bytes ≤ 140737488355328) (hbase : base ≤ w.heap.size)
    (h : ∀ A cap w', n + m ≤ cap → cap ≤ maxLen → Owns w' base e size (.slice A (n + m) cap) (n + m) (xs ++ news) → w.grownBy w' (some g) → (∀ j u, xs[j]? = some u → w'.cell? ⟨g, j, none⟩ = some u) → K (a.put o.dst (.slice A (n + m) cap)) w') :
    if Region.wanted o (yielded ops a.tmps) = true then Oper.wp P o a w K Q else E := by
  have hw : Region.wanted o (yielded ops a.tmps) = true := by simp [Region.wanted, hgd]
  rw [if_pos hw]
  obtain ⟨v', w', hr, h2, h3⟩ := run_append_owns (P := P) w base t o.type e i z size bytes ht hi hz hsize hby hzs hsz _ n xs hown ad m c news hl hnews h1 h63 hbytes hbase
  have hk := run_append_keep (P := P) w base t o.type e i z size bytes ht hi hz hsize hby hzs hsz g cp n xs hown ad m c news hl hnews h1 h63 hbytes v' w' hr
  obtain ⟨A, cap, rfl, hc1, hc2⟩ := h2.shape
  unfold Oper.wp execOp
  simp only [ho, resolve, invoke, builtin, Sem.run_bind, Sem.run_pure, Result.andThen_ok, List.map_toArray, List.map_cons, List.map_nil, hs, hx, hr]
  exact h A cap w' hc1 hc2 h2 h3 hk

/-- append, as one step of a region that draws its order. -/
theorem step_append_owns {P : Program} {w : World} {ops : Array Oper} {o : Oper} {a : Act} {K : Act → World → Prop} {Q : Exit → Act → World → Prop} {E : Prop} (hgd : o.guard = none) (s x : Operand) (t : TypeId)
    (ho : o.op = .call { callee := .builtin .append, args := #[s, x], argTypes := #[t, t] })
    (base : Nat) (e : TypeId) (i : TypeInfo) (z : Value) (size bytes : Nat) (ht : P.underlying t = some (.slice e)) (hi : P.info? e = some i) (hz : i.zero = some z)
    (hsize : i.size = size) (hby : i.bytes = bytes) (hzs : z.cells.size = size) (hsz : 0 < size)
    (v : Value) (n : Nat) (xs : List Value) (hs : a.eval s = v) (hown : Owns w base e size v n xs)
    (ad : Addr) (m c : Nat) (news : List Value) (hx : a.eval x = .slice (some ad) m c) (hl : news.length = m * size) (hnews : ∀ j u, news[j]? = some u → w.cell? (ad.add j) = some u) (h1 : ∀ u ∈ news, u.oneCell' = true)
    (h63 : n + m ≤ maxLen) (hbytes : (n + m) * bytes ≤ 140737488355328) (hbase : base ≤ w.heap.size)
    (h : ∀ A cap w', n + m ≤ cap → cap ≤ maxLen → Owns w' base e size (.slice A (n + m) cap) (n + m) (xs ++ news) → w.grownBy w' v.ownBlock → K (a.put o.dst (.slice A (n + m) cap)) w') :
    if Region.wanted o (yielded ops a.tmps) = true then Oper.wp P o a w K Q else E := by
  have hw : Region.wanted o (yielded ops a.tmps) = true := by simp [Region.wanted, hgd]
  rw [if_pos hw]
  obtain ⟨v', w', hr, h2, h3⟩ := run_append_owns (P := P) w base t o.type e i z size bytes ht hi hz hsize hby hzs hsz v n xs hown ad m c news hl hnews h1 h63 hbytes hbase
  obtain ⟨A, cap, rfl, hc1, hc2⟩ := h2.shape
  unfold Oper.wp execOp
  simp only [ho, resolve, invoke, builtin, Sem.run_bind, Sem.run_pure, Result.andThen_ok, List.map_toArray, List.map_cons, List.map_nil, hs, hx, hr]
  exact h A cap w' hc1 hc2 h2 h3

/-- Words as cells. -/
def cellsW (l : List Int) : List Value := l.map fun x => Value.int .u32 x
theorem cellsW_length (l : List Int) : (cellsW l).length = l.length := by simp [cellsW]
theorem cellsW_get (l : List Int) (j : Nat) (h : j < l.length) : (cellsW l)[j]? = some (.int .u32 (l.getD j 0)) := by
  simp [cellsW, List.getD_eq_getElem?_getD, List.getElem?_eq_getElem h]
/-- Eight words in memory. -/
def Eight (w : World) (g : Nat) (v : V8) : Prop := g < w.heap.size ∧ ∀ j, j < 8 → w.cell? ⟨g, j, none⟩ = some (.int .u32 (v.list.getD j 0))
theorem Eight.q {w w' : World} {g : Nat} {v : V8} (h : Eight w g v) (hq : Q w w') : Eight w' g v := ⟨Nat.lt_of_lt_of_le h.1 hq.size, fun j hj => (hq.cell (p := ⟨g, j, none⟩) h.1).trans (h.2 j hj)⟩
/-- The 64 bytes of a block in memory. -/
def Bytes64 (w : World) (g o : Nat) (s : ByteArray) : Prop := g < w.heap.size ∧ ∀ j, j < 64 → w.cell? ⟨g, o + j, none⟩ = some (.int .u8 (byteAt s j))
theorem Bytes64.q {w w' : World} {g o : Nat} {s : ByteArray} (h : Bytes64 w g o s) (hq : Q w w') : Bytes64 w' g o s := ⟨Nat.lt_of_lt_of_le h.1 hq.size, fun j hj => (hq.cell (p := ⟨g, o + j, none⟩) h.1).trans (h.2 j hj)⟩

theorem arr_cells (v : V8) (j : Nat) (h : j < 8) : v.arr[j]? = some (.int .u32 (v.list.getD j 0)) := by
  rcases (show j = 0 ∨ j = 1 ∨ j = 2 ∨ j = 3 ∨ j = 4 ∨ j = 5 ∨ j = 6 ∨ j = 7 by omega) with rfl | rfl | rfl | rfl | rfl | rfl | rfl | rfl <;> rfl
theorem Eight.of {w : World} {g : Nat} {t : TypeId} {v : V8} (h : Blk w g t v.arr) : Eight w g v := ⟨h.lt, fun j hj => by rw [h.cell, arr_cells v j hj]⟩

set_option maxHeartbeats 400000 in
theorem firsts_any (w : World) : Calls Tryz.prog 198 #[] w fun e w' => e = .returned (.slice (some ⟨w.heap.size, 0, none⟩) 8 8) ∧ Eight w' w.heap.size init ∧ Q w w' := by
  go_enter Tryz.func198, Tryz.ntmps198
  go_wp2
  go_ret
  exact ⟨rfl, Eight.of (Blk.new w _ init.arr), Below.alloc (Q.refl w) (Nat.le_refl _) _⟩

set_option maxRecDepth 100000 in
set_option maxHeartbeats 2000000 in
theorem adds_any (w : World) : Calls Tryz.prog 234 #[] w fun e w' => e = .returned (.slice (some ⟨w.heap.size, 0, none⟩) 64 64) ∧ (∃ t, Blk w' w.heap.size t (cellsW KL).toArray) ∧ Q w w' := by
  go_enter Tryz.func234, Tryz.ntmps234
  go_wp2
  go_ret
  exact ⟨rfl, ⟨_, Blk.new w _ _⟩, Below.alloc (Q.refl w) (Nat.le_refl _) _⟩

/-- Four bytes are kept. -/
def Four (w0 w : World) (g o q : Nat) (x0 x1 x2 x3 : Int) : Prop := g < w.heap.size ∧ Q w0 w ∧ w.cell? ⟨g, o + q, none⟩ = some (.int .u8 x0) ∧ w.cell? ⟨g, o + (q + 1), none⟩ = some (.int .u8 x1) ∧ w.cell? ⟨g, o + (q + 2), none⟩ = some (.int .u8 x2) ∧ w.cell? ⟨g, o + (q + 3), none⟩ = some (.int .u8 x3)
section
variable {w0 w w' : World} {g o r : Nat} {x0 x1 x2 x3 : Int}
theorem Four.held (h : Four w0 w g o r x0 x1 x2 x3) : w.cell? ⟨g, o + r, none⟩ = some (.int .u8 x0) ∧ w.cell? ⟨g, o + (r + 1), none⟩ = some (.int .u8 x1) ∧ w.cell? ⟨g, o + (r + 2), none⟩ = some (.int .u8 x2) ∧ w.cell? ⟨g, o + (r + 3), none⟩ = some (.int .u8 x3) ∧ Four w0 w g o r x0 x1 x2 x3 :=
  ⟨h.2.2.1, h.2.2.2.1, h.2.2.2.2.1, h.2.2.2.2.2, h⟩
theorem Four.q (h : Four w0 w g o r x0 x1 x2 x3) (hq : Q w w') : Four w0 w' g o r x0 x1 x2 x3 :=
  ⟨Nat.lt_of_lt_of_le h.1 hq.size, Q.trans h.2.1 hq, (hq.cell (p := ⟨g, o + r, none⟩) h.1).trans h.2.2.1, (hq.cell (p := ⟨g, o + (r + 1), none⟩) h.1).trans h.2.2.2.1, (hq.cell (p := ⟨g, o + (r + 2), none⟩) h.1).trans h.2.2.2.2.1, (hq.cell (p := ⟨g, o + (r + 3), none⟩) h.1).trans h.2.2.2.2.2⟩
theorem Four.drew (h : Four w0 w g o r x0 x1 x2 x3) : Four w0 w.drew g o r x0 x1 x2 x3 := h.q (Q.refl w).drew
theorem Four.new (h : w.cell? ⟨g, o + r, none⟩ = some (.int .u8 x0) ∧ w.cell? ⟨g, o + (r + 1), none⟩ = some (.int .u8 x1) ∧ w.cell? ⟨g, o + (r + 2), none⟩ = some (.int .u8 x2) ∧ w.cell? ⟨g, o + (r + 3), none⟩ = some (.int .u8 x3) ∧ Four w0 w g o r x0 x1 x2 x3) (ob : Obj) :
    (w.alloc ob).cell? ⟨g, o + r, none⟩ = some (.int .u8 x0) ∧ (w.alloc ob).cell? ⟨g, o + (r + 1), none⟩ = some (.int .u8 x1) ∧ (w.alloc ob).cell? ⟨g, o + (r + 2), none⟩ = some (.int .u8 x2) ∧ (w.alloc ob).cell? ⟨g, o + (r + 3), none⟩ = some (.int .u8 x3) ∧ Four w0 (w.alloc ob) g o r x0 x1 x2 x3 :=
  (h.2.2.2.2.q (q_alloc (Q.refl w) ob)).held
end
abbrev wsum (x0 x1 x2 x3 : Int) : Int := IntKind.u32.wrap (IntKind.u32.wrap (IntKind.u32.wrap (IntKind.u32.wrap (IntKind.u32.wrap x0 * 16777216) + IntKind.u32.wrap (IntKind.u32.wrap x1 * 65536)) + IntKind.u32.wrap (IntKind.u32.wrap x2 * 256)) + IntKind.u32.wrap x3)
theorem wsum_eq {a b c d : Int} (ha : 0 ≤ a ∧ a < 256) (hb : 0 ≤ b ∧ b < 256) (hc : 0 ≤ c ∧ c < 256) (hd : 0 ≤ d ∧ d < 256) : wsum a b c d = a * 16777216 + b * 65536 + c * 256 + d := by
  unfold wsum
  simp only [IntKind.wrap_u32]
  omega
abbrev wext (a s b t : Int) : Int := IntKind.u32.wrap (IntKind.u32.wrap (IntKind.u32.wrap (a + s) + b) + t)
theorem wext_eq (a s b t : Int) : wext a s b t = ext a s b t := by
  unfold wext ext
  simp only [IntKind.wrap_u32]
  omega
theorem cells_new {w0 w : World} {g a b : Nat} {x y : Value} (h : w.cell? ⟨g, a, none⟩ = some x ∧ w.cell? ⟨g, b, none⟩ = some y ∧ Q w0 w) (ob : Obj) :
    (w.alloc ob).cell? ⟨g, a, none⟩ = some x ∧ (w.alloc ob).cell? ⟨g, b, none⟩ = some y ∧ Q w0 (w.alloc ob) :=
  ⟨(World.cell?_alloc_some w _ ob (by rw [h.1]; rfl)).trans h.1, (World.cell?_alloc_some w _ ob (by rw [h.2.1]; rfl)).trans h.2.1, q_alloc h.2.2 ob⟩
theorem sched_cells (s : ByteArray) (k : Nat) : cellsW (schedL s (k + 1)) = cellsW (schedL s k) ++ [.int .u32 (W s k)] := by
  have hl := schedL_length s k
  conv => lhs; rw [schedL, more]
  unfold cellsW
  rw [List.map_append]
  congr 1
  have : W s k = (if (schedL s k).length < 16 then word s (schedL s k).length else ext ((schedL s k).getD ((schedL s k).length - 16) 0) (sig0 ((schedL s k).getD ((schedL s k).length - 15) 0)) ((schedL s k).getD ((schedL s k).length - 7) 0) (sig1 ((schedL s k).getD ((schedL s k).length - 2) 0))) := by
    unfold W
    conv => lhs; rw [schedL, more]
    rw [getD_r _ _ _ _ (by omega), hl, Nat.sub_self]
    rfl
  rw [this]
  rfl

set_option maxRecDepth 100000 in
set_option maxHeartbeats 2000000 in
theorem words_any (g o c : Nat) (s : ByteArray) (w : World) (hb : Bytes64 w g o s) :
    Calls Tryz.prog 233 #[.slice (some ⟨g, o, none⟩) 64 c] w fun e w' => ∃ A cap, e = .returned (.slice A 64 cap) ∧ Owns w' w.heap.size 160 1 (.slice A 64 cap) 64 (cellsW (schedL s 64)) ∧ Q w w' := by
  obtain ⟨i0, hi, hz0, hz1, hz2⟩ := info_parts word_info
  go_enter Tryz.func233, Tryz.ntmps233
  go_wp2_with fail
  go_loopw [3, 4] (fun x i wr => ∃ (A : Option Addr) (c k : Nat), x = .slice A k c ∧ i = .int .i64 k ∧ k ≤ 16 ∧ k ≤ c ∧ c ≤ maxLen ∧ Owns wr w.heap.size 160 1 (.slice A k c) k (cellsW (schedL s k)) ∧ Q w wr) (fun _ i _ => 16 - (intOf i).toNat)
  case atStart => exact ⟨none, 0, 0, rfl, rfl, by omega, by omega, by simp [maxLen], Owns.nil_ _ _ _ _, Q.refl _⟩
  case round =>
    obtain ⟨A, cp, k, rfl, rfl, hk, hc, hcm, hown, hq⟩ := hrel
    by_cases hlt : k < 16
    · have hbb := hb.q hq
      obtain ⟨q, hq4⟩ : ∃ q, q = 4 * k := ⟨_, rfl⟩
      have c0 := hbb.2 q (by omega)
      have c1 := hbb.2 (q + 1) (by omega)
      have c2 := hbb.2 (q + 2) (by omega)
      have c3 := hbb.2 (q + 3) (by omega)
      have b0 := byteAt_bd s q
      have b1 := byteAt_bd s (q + 1)
      have b2 := byteAt_bd s (q + 2)
      have b3 := byteAt_bd s (q + 3)
      have hw : W s k = byteAt s (4 * k) * 16777216 + byteAt s (4 * k + 1) * 65536 + byteAt s (4 * k + 2) * 256 + byteAt s (4 * k + 3) := W_lo s k hlt
      have hF0 : Four w w g o q (byteAt s q) (byteAt s (q + 1)) (byteAt s (q + 2)) (byteAt s (q + 3)) := ⟨hb.1, Q.refl w, hb.2 q (by omega), hb.2 (q + 1) (by omega), hb.2 (q + 2) (by omega), hb.2 (q + 3) (by omega)⟩
      have hF := hF0.q hq
      have hs := sched_cells s k
      rw [hw, ← hq4, ← wsum_eq b0 b1 b2 b3] at hs
      have HS := Lib.hid hs
      clear hs hw hbb
      generalize byteAt s q = x0 at *
      generalize byteAt s (q + 1) = x1 at *
      generalize byteAt s (q + 2) = x2 at *
      generalize byteAt s (q + 3) = x3 at *
      obtain ⟨p0, q0⟩ := b0
      obtain ⟨p1, q1⟩ := b1
      obtain ⟨p2, q2⟩ := b2
      obtain ⟨p3, q3⟩ := b3
      have e40 : IntKind.i64.wrap (4 * (k : Int)) = 4 * (k : Int) := IntWalk.i64_in _ ⟨by omega, by omega⟩
      have e41 : IntKind.i64.wrap (4 * (k : Int) + 1) = 4 * (k : Int) + 1 := IntWalk.i64_in _ ⟨by omega, by omega⟩
      have e42 : IntKind.i64.wrap (4 * (k : Int) + 2) = 4 * (k : Int) + 2 := IntWalk.i64_in _ ⟨by omega, by omega⟩
      have e43 : IntKind.i64.wrap (4 * (k : Int) + 3) = 4 * (k : Int) + 3 := IntWalk.i64_in _ ⟨by omega, by omega⟩
      have n0 : (4 * (k : Int)).toNat = q := by omega
      have n1 : (4 * (k : Int) + 1).toNat = q + 1 := by omega
      have n2 : (4 * (k : Int) + 2).toNat = q + 2 := by omega
      have n3 : (4 * (k : Int) + 3).toNat = q + 3 := by omega
      have l0 : 0 ≤ 4 * (k : Int) := by omega
      have l1 : 0 ≤ 4 * (k : Int) + 1 := by omega
      have l2 : 0 ≤ 4 * (k : Int) + 2 := by omega
      have l3 : 0 ≤ 4 * (k : Int) + 3 := by omega
      have j0 : 4 * (k : Int) < 64 := by omega
      have j1 : 4 * (k : Int) + 1 < 64 := by omega
      have j2 : 4 * (k : Int) + 2 < 64 := by omega
      have j3 : 4 * (k : Int) + 3 < 64 := by omega
      clear hq4
      go_wp2_with fail
      go_region_held3 (fun w' => w'.cell? ⟨g, o + q, none⟩ = some (.int .u8 x0) ∧ w'.cell? ⟨g, o + (q + 1), none⟩ = some (.int .u8 x1) ∧ w'.cell? ⟨g, o + (q + 2), none⟩ = some (.int .u8 x2) ∧ w'.cell? ⟨g, o + (q + 3), none⟩ = some (.int .u8 x3) ∧ Four w w' g o q x0 x1 x2 x3)
        (first | exact hF.drew.held | exact Four.new (by with_reducible assumption) _ | exact (hF0.q hq2).held)
        ((refine step_append_owns (by rfl) _ _ _ (by rfl) w.heap.size 160 i0 _ 1 4 Tryz.underlying220 hi hz0 hz1 hz2 rfl (by decide) _ k _ (by rfl) (hown.drew.alloc _) ⟨wr.heap.size, 0, none⟩ 1 1 [.int .u32 (wsum x0 x1 x2 x3)] (by rfl) rfl (cell_one_new wr (.int .u32 (wsum x0 x1 x2 x3)) 160) (by simp [Value.oneCell']) (by simp only [maxLen]; omega) (by omega) (by have := hq.size; simp; omega) ?_; intro A2 cap2 w2 hn2 hm2 hown2 hg2; have hq2 := q_append hq.drew hown.drew hg2))
      rw [← HS.out] at hown2
      go_wp2
      exact ⟨⟨_, _, k + 1, rfl, by go_num, by omega, hn2, hm2, hown2, hq2⟩, by simp only [intOf]; omega⟩
    · have HK := Lib.hid (show k = 16 by omega)
      rw [HK.out] at hown hc
      go_wp2_with fail
      go_loopw [3, 5] (fun x i wr => ∃ (A : Option Addr) (c k : Nat), x = .slice A k c ∧ i = .int .i64 k ∧ 16 ≤ k ∧ k ≤ 64 ∧ k ≤ c ∧ c ≤ maxLen ∧ Owns wr w.heap.size 160 1 (.slice A k c) k (cellsW (schedL s k)) ∧ Q w wr) (fun _ i _ => 64 - (intOf i).toNat)
      case atStart => exact ⟨A, cp, 16, by rw [HK.out], rfl, by omega, by omega, by omega, hcm, hown, hq⟩
      case round =>
        obtain ⟨A, cp, k, rfl, rfl, hk0, hk, hc, hcm, hown, hq⟩ := hrel
        by_cases hlt : k < 64
        · have hl := schedL_length s k
          have hg : ∀ j, j < k → (cellsW (schedL s k))[j]? = some (.int .u32 (W s j)) := fun j hj => by rw [cellsW_get _ _ (by omega), schedL_getD s k j hj]
          have hW := W_hi s k hk0
          obtain ⟨r16, h16⟩ : ∃ r, r = k - 16 := ⟨_, rfl⟩
          obtain ⟨r15, h15⟩ : ∃ r, r = k - 15 := ⟨_, rfl⟩
          obtain ⟨r7, h7⟩ : ∃ r, r = k - 7 := ⟨_, rfl⟩
          obtain ⟨r2, h2⟩ : ∃ r, r = k - 2 := ⟨_, rfl⟩
          rw [← h16, ← h15, ← h7, ← h2] at hW
          obtain ⟨g1, rfl, -, hg1, c16, -⟩ := hown.cellAt r16 _ (hg _ (by omega))
          obtain ⟨g', he', -, -, c15, -⟩ := hown.cellAt r15 _ (hg _ (by omega))
          obtain rfl : g1 = g' := by injection he' with h; injection h
          obtain ⟨g', he', -, -, c7, -⟩ := hown.cellAt r7 _ (hg _ (by omega))
          obtain rfl : g1 = g' := by injection he' with h; injection h
          obtain ⟨g', he', -, -, c2, -⟩ := hown.cellAt r2 _ (hg _ (by omega))
          obtain rfl : g1 = g' := by injection he' with h; injection h
          clear he'
          have d15 := W_bd s r15
          have d2 := W_bd s r2
          have p15 := d15.1
          have p2 := d2.1
          have he := Lib.hid hW
          have e16 : IntKind.i64.wrap ((k : Int) - 16) = (r16 : Int) := by rw [IntWalk.i64_in _ ⟨by omega, by omega⟩]; omega
          have e15 : IntKind.i64.wrap ((k : Int) - 15) = (r15 : Int) := by rw [IntWalk.i64_in _ ⟨by omega, by omega⟩]; omega
          have e7 : IntKind.i64.wrap ((k : Int) - 7) = (r7 : Int) := by rw [IntWalk.i64_in _ ⟨by omega, by omega⟩]; omega
          have e2 : IntKind.i64.wrap ((k : Int) - 2) = (r2 : Int) := by rw [IntWalk.i64_in _ ⟨by omega, by omega⟩]; omega
          have l16 : (r16 : Int) < (k : Int) := by omega
          have l15 : (r15 : Int) < (k : Int) := by omega
          have l7 : (r7 : Int) < (k : Int) := by omega
          have l2 : (r2 : Int) < (k : Int) := by omega
          clear hW h16 h15 h7 h2
          have HS := Lib.hid (sched_cells s k)
          go_wp2_with fail
          refine (rturn_any _ _ _ d15 (by decide) (by decide)).mono ?_
          rintro e w' ⟨rfl, q1, rfl⟩
          go_wp2_with fail
          refine (rturn_any _ _ _ d15 (by decide) (by decide)).mono ?_
          rintro e w' ⟨rfl, q2, rfl⟩
          go_wp2_with fail
          refine (rturn_any _ _ _ d2 (by decide) (by decide)).mono ?_
          rintro e w' ⟨rfl, q3, rfl⟩
          go_wp2_with fail
          refine (rturn_any _ _ _ d2 (by decide) (by decide)).mono ?_
          rintro e w' ⟨rfl, q4, rfl⟩
          obtain ⟨wq, hwq⟩ : ∃ wq, (wr.drewN (q1 + q2 + q3)).drewN q4 = wq := ⟨_, rfl⟩
          have c16 : wq.cell? ⟨g1, r16, none⟩ = some (.int .u32 (W s r16)) := by rw [← hwq]; exact c16
          have c7 : wq.cell? ⟨g1, r7, none⟩ = some (.int .u32 (W s r7)) := by rw [← hwq]; exact c7
          have hown : Owns wq w.heap.size 160 1 (.slice (some ⟨g1, 0, none⟩) k cp) k (cellsW (schedL s k)) := by rw [← hwq]; exact hown
          have hq : Q w wq := by rw [← hwq]; exact below_drewN (below_drewN hq _) _
          rw [hwq]
          clear hwq
          go_wp2_with fail
          have hx16 := hg r16 (by omega)
          have hx7 := hg r7 (by omega)
          clear hg hl
          go_region_held3 (fun w' => w'.cell? ⟨g1, r16, none⟩ = some (.int .u32 (W s r16)) ∧ w'.cell? ⟨g1, r7, none⟩ = some (.int .u32 (W s r7)) ∧ Q w w')
            (first | exact ⟨c16, c7, hq.drew⟩ | exact cells_new (by with_reducible assumption) _ | exact ⟨hkp _ _ hx16, hkp _ _ hx7, hq2⟩)
            ((refine step_append_keep (by rfl) _ _ _ (by rfl) w.heap.size 160 i0 _ 1 4 Tryz.underlying220 hi hz0 hz1 hz2 rfl (by decide) g1 cp k _ (by rfl) (hown.drew.alloc _) ⟨wq.heap.size, 0, none⟩ 1 1 [.int .u32 (wext (W s r16) (sig0 (W s r15)) (W s r7) (sig1 (W s r2)))] (by rfl) rfl (cell_one_new wq (.int .u32 (wext (W s r16) (sig0 (W s r15)) (W s r7) (sig1 (W s r2)))) 160) (by simp [Value.oneCell']) (by simp only [maxLen]; omega) (by omega) (by have := hq.size; simp; omega) ?_; intro A2 cap2 w2 hn2 hm2 hown2 hg2 hkp; have hq2 := q_append hq.drew hown.drew hg2))
          rw [wext_eq, ← he.out, ← HS.out] at hown2
          go_wp2
          exact ⟨⟨_, _, k + 1, rfl, by go_num, by omega, by omega, hn2, hm2, hown2, hq2⟩, by simp only [intOf]; omega⟩
        · have HK := Lib.hid (show k = 64 by omega)
          rw [HK.out] at hown
          go_wp2
          go_ret
          exact ⟨A, cp, by rw [← HK.out]; rfl, hown, hq⟩

end Go.Proofs.YtflgkplneekpfaaGreatDoor.Sha

namespace Go.Proofs.YtflgkplneekpfaaGreatDoor.Sha
open Go.RowKit Grp Mem _root_.Go.Proofs.YtflgkplneekpfaaGreatDoor.Code

/-- A quiet call. -/
theorem rquiet0 {P : Program} {f : FuncId} {args : Array Value} {w : World} {n : Nat} {v : Value}
    (h : Calls P f args (w.drewN n) fun e w' => e = .returned v ∧ ∃ q, w' = (w.drewN n).drewN q) :
    Calls P f args (w.drewN n) fun e w'' => e = .returned v ∧ ∃ m, w'' = w.drewN m :=
  h.mono fun e w' ⟨he, q, hm⟩ => ⟨he, n + q, by rw [hm, World.drewN_drewN]⟩
theorem eight_news {w : World} {g : Nat} {v : V8} (h : Eight w g v) (j : Nat) (u : Value) (hu : (cellsW v.list)[j]? = some u) : w.cell? ((⟨g, 0, none⟩ : Addr).add j) = some u := by
  have hadd : (⟨g, 0, none⟩ : Addr).add j = ⟨g, j, none⟩ := by unfold Addr.add; split <;> simp_all
  have hj : j < 8 := by
    have := (List.getElem?_eq_some_iff.1 hu).1
    rw [cellsW_length] at this
    exact this
  rw [hadd, h.2 j hj, ← hu, cellsW_get _ _ hj]

/-- Eight words in a row of the call's own. -/
def EightO (w : World) (g : Nat) (f : Nat → Int) : Prop := ∀ j, j < 8 → w.cell? ⟨g, j, none⟩ = some (.int .u32 (f j)) ∧ w.frozen? ⟨g, j, none⟩ = false
theorem EightO.q {w w' : World} {g : Nat} {f : Nat → Int} (h : EightO w g f) (hq : Q w w') (hg : g < w.heap.size) : EightO w' g f := fun j hj =>
  ⟨(hq.cell (p := ⟨g, j, none⟩) hg).trans (h j hj).1, (World.frozen?_of_block (hq.block g hg)).trans (h j hj).2⟩
theorem EightO.of {w : World} {g : Nat} {t : TypeId} {v : V8} (h : Blk w g t v.arr) : EightO w g fun j => v.list.getD j 0 := fun j hj => ⟨by rw [h.cell, arr_cells v j hj], h.frozen j⟩

/-- What the words are while the first k are summed up. -/
def part8 (u v : V8) (k j : Nat) : Int := if j < k then (u.list.getD j 0 + v.list.getD j 0) % 4294967296 else u.list.getD j 0
theorem part8_end (u v : V8) (j : Nat) (hj : j < 8) : part8 u v 8 j = (plus v u).list.getD j 0 := by
  unfold part8
  rw [if_pos hj, Int.add_comm]
  rcases (show j = 0 ∨ j = 1 ∨ j = 2 ∨ j = 3 ∨ j = 4 ∨ j = 5 ∨ j = 6 ∨ j = 7 by omega) with rfl | rfl | rfl | rfl | rfl | rfl | rfl | rfl <;> rfl

/-- Eight words are kept. -/
def Kept8 (w0 w : World) (g : Nat) (v : V8) : Prop := g < w.heap.size ∧ Q w0 w ∧ w.cell? ⟨g, 0, none⟩ = some (.int .u32 v.a) ∧ w.cell? ⟨g, 1, none⟩ = some (.int .u32 v.b) ∧ w.cell? ⟨g, 2, none⟩ = some (.int .u32 v.c) ∧ w.cell? ⟨g, 3, none⟩ = some (.int .u32 v.d) ∧ w.cell? ⟨g, 4, none⟩ = some (.int .u32 v.e) ∧ w.cell? ⟨g, 5, none⟩ = some (.int .u32 v.f) ∧ w.cell? ⟨g, 6, none⟩ = some (.int .u32 v.g)
theorem Kept8.q {w0 w w' : World} {g : Nat} {v : V8} (h : Kept8 w0 w g v) (hq : Q w w') : Kept8 w0 w' g v :=
  ⟨Nat.lt_of_lt_of_le h.1 hq.size, Q.trans h.2.1 hq, (hq.cell (p := ⟨g, 0, none⟩) h.1).trans h.2.2.1, (hq.cell (p := ⟨g, 1, none⟩) h.1).trans h.2.2.2.1, (hq.cell (p := ⟨g, 2, none⟩) h.1).trans h.2.2.2.2.1, (hq.cell (p := ⟨g, 3, none⟩) h.1).trans h.2.2.2.2.2.1, (hq.cell (p := ⟨g, 4, none⟩) h.1).trans h.2.2.2.2.2.2.1, (hq.cell (p := ⟨g, 5, none⟩) h.1).trans h.2.2.2.2.2.2.2.1, (hq.cell (p := ⟨g, 6, none⟩) h.1).trans h.2.2.2.2.2.2.2.2⟩
theorem Kept8.held {w0 w : World} {g : Nat} {v : V8} (h : Kept8 w0 w g v) : w.cell? ⟨g, 0, none⟩ = some (.int .u32 v.a) ∧ w.cell? ⟨g, 1, none⟩ = some (.int .u32 v.b) ∧ w.cell? ⟨g, 2, none⟩ = some (.int .u32 v.c) ∧ w.cell? ⟨g, 3, none⟩ = some (.int .u32 v.d) ∧ w.cell? ⟨g, 4, none⟩ = some (.int .u32 v.e) ∧ w.cell? ⟨g, 5, none⟩ = some (.int .u32 v.f) ∧ w.cell? ⟨g, 6, none⟩ = some (.int .u32 v.g) ∧ Kept8 w0 w g v :=
  ⟨h.2.2.1, h.2.2.2.1, h.2.2.2.2.1, h.2.2.2.2.2.1, h.2.2.2.2.2.2.1, h.2.2.2.2.2.2.2.1, h.2.2.2.2.2.2.2.2, h⟩
theorem Kept8.step {w0 w : World} {g : Nat} {v : V8} (h : w.cell? ⟨g, 0, none⟩ = some (.int .u32 v.a) ∧ w.cell? ⟨g, 1, none⟩ = some (.int .u32 v.b) ∧ w.cell? ⟨g, 2, none⟩ = some (.int .u32 v.c) ∧ w.cell? ⟨g, 3, none⟩ = some (.int .u32 v.d) ∧ w.cell? ⟨g, 4, none⟩ = some (.int .u32 v.e) ∧ w.cell? ⟨g, 5, none⟩ = some (.int .u32 v.f) ∧ w.cell? ⟨g, 6, none⟩ = some (.int .u32 v.g) ∧ Kept8 w0 w g v) (o : Obj) :
    (w.alloc o).cell? ⟨g, 0, none⟩ = some (.int .u32 v.a) ∧ (w.alloc o).cell? ⟨g, 1, none⟩ = some (.int .u32 v.b) ∧ (w.alloc o).cell? ⟨g, 2, none⟩ = some (.int .u32 v.c) ∧ (w.alloc o).cell? ⟨g, 3, none⟩ = some (.int .u32 v.d) ∧ (w.alloc o).cell? ⟨g, 4, none⟩ = some (.int .u32 v.e) ∧ (w.alloc o).cell? ⟨g, 5, none⟩ = some (.int .u32 v.f) ∧ (w.alloc o).cell? ⟨g, 6, none⟩ = some (.int .u32 v.g) ∧ Kept8 w0 (w.alloc o) g v :=
  (h.2.2.2.2.2.2.2.q (q_alloc (Q.refl w) o)).held

set_option maxRecDepth 100000 in
set_option maxHeartbeats 4000000 in
theorem next_any (gh ch g o c : Nat) (v : V8) (s : ByteArray) (w : World) (hv : V8Ok v) (hh : Eight w gh v) (hb : Bytes64 w g o s) :
    Calls Tryz.prog 199 #[.slice (some ⟨gh, 0, none⟩) 8 ch, .slice (some ⟨g, o, none⟩) 64 c] w fun e w' => ∃ g' c', e = .returned (.slice (some ⟨g', 0, none⟩) 8 c') ∧ Eight w' g' (mix v s) ∧ Q w w' := by
  obtain ⟨i0, hi, hz0, hz1, hz2⟩ := info_parts word_info
  go_enter Tryz.func199, Tryz.ntmps199
  go_wp2_with fail
  refine (words_any g o c s _ hb).mono ?_
  rintro e w1 ⟨AW, cW, rfl, hownW, hq1⟩
  go_wp2_with fail
  refine (adds_any w1).mono ?_
  rintro e w2 ⟨rfl, ⟨tK, hbK⟩, hq2⟩
  have hownW := hownW.q hq2
  have hh2 := (hh.q hq1).q hq2
  have hq2' := Q.trans hq1 hq2
  have hnil : Owns (w2.alloc (.cells #[] 160)) w2.heap.size 160 1 (.slice (some ⟨w2.heap.size, 0, none⟩) 0 0) 0 [] := owns_new w2 160 #[] 0 rfl (Nat.zero_le _)
  have hh3 := hh2.q (q_alloc (Q.refl w2) (.cells #[] 160))
  have hl8 : (cellsW v.list).length = 8 * 1 := rfl
  have h1c : ∀ u ∈ cellsW v.list, u.oneCell' = true := by
    intro u hu
    unfold cellsW at hu
    obtain ⟨x, -, rfl⟩ := List.mem_map.1 hu
    rfl
  go_wp2_with (at_builtin; refine wpList_append_owns _ rfl (.tmp 17) (.tmp 18) 220 rfl w2.heap.size 160 i0 _ 1 4 Tryz.underlying220 hi hz0 hz1 hz2 rfl (by decide) _ 0 _ rfl hnil ⟨gh, 0, none⟩ 8 ch (cellsW v.list) rfl hl8 (eight_news hh3) h1c (by simp only [maxLen]; omega) (by omega) (by simp) ?_)
  intro v3 w3 hown3 hg3
  have hq3 : Q w2 w3 := Below.trans (q_alloc (Q.refl w2) _) (below_grown hg3 (by simp) (by intro k hk; simp [Value.ownBlock] at hk; omega))
  obtain ⟨A3, c3, rfl, hn3, hm3⟩ := hown3.shape
  have hV0 : ∃ g3, A3 = some ⟨g3, 0, none⟩ ∧ w2.heap.size ≤ g3 ∧ g3 < w3.heap.size ∧ EightO w3 g3 (fun j => v.list.getD j 0) := by
    obtain ⟨g3, rfl, hle, hlt, -, -⟩ := hown3.cellAt 0 (.int .u32 v.a) rfl
    refine ⟨g3, rfl, hle, hlt, fun j hj => ?_⟩
    obtain ⟨g4, h4, -, -, hc4, hf4⟩ := hown3.cellAt j _ (cellsW_get v.list j hj)
    obtain rfl : g3 = g4 := by injection h4 with h; injection h
    exact ⟨hc4, hf4⟩
  obtain ⟨g3, rfl, hle3, hlt3, hE3⟩ := hV0
  have hKlt : w1.heap.size < w2.heap.size := hbK.lt
  have hownW := hownW.q hq3
  have hbK := hbK.q hq3
  have hh4 := hh2.q hq3
  have hq4 := Q.trans hq2' hq3
  have hw12 : w.heap.size ≤ w1.heap.size := hq1.size
  clear hnil hh3 hl8 h1c hown3 hg3 hh2 hq2' hq1
  go_wp2_with fail
  go_loopw [7, 8] (fun x i wr => ∃ (g3 c3 k : Nat), x = .slice (some ⟨g3, 0, none⟩) 8 c3 ∧ i = .int .i64 k ∧ k ≤ 64 ∧ w.heap.size ≤ g3 ∧ g3 < wr.heap.size ∧ EightO wr g3 (fun j => (rnds s v k).list.getD j 0) ∧ Q w3 wr) (fun _ i _ => 64 - (intOf i).toNat)
  case atStart => exact ⟨g3, c3, 0, rfl, rfl, by omega, by omega, hlt3, hE3, Q.refl _⟩
  case round =>
    obtain ⟨g4, c4, k, rfl, rfl, hk, hle4, hlt4, hE, hq⟩ := hrel
    have ok := rnds_ok s hv k
    by_cases hlt : k < 64
    · have he : rnds s v (k + 1) = rnd (rnds s v k) (K k) (W s k) := rfl
      have HE := Lib.hid he
      clear he
      have hkc := (hbK.q hq).cell k
      have hkk : (cellsW KL).toArray[k]? = some (.int .u32 (K k)) := by
        rw [List.getElem?_toArray]
        exact cellsW_get KL k hlt
      rw [hkk] at hkc
      clear hkk
      have hl := schedL_length s 64
      obtain ⟨gW, rfl, -, -, hwc, -⟩ := (hownW.q hq).cellAt k _ (by rw [cellsW_get _ _ (by omega), schedL_getD s 64 k hlt])
      generalize rnds s v k = V at *
      have c0 : wr.cell? ⟨g4, 0, none⟩ = some (.int .u32 V.a) := (hE 0 (by decide)).1
      have c1 : wr.cell? ⟨g4, 1, none⟩ = some (.int .u32 V.b) := (hE 1 (by decide)).1
      have c2 : wr.cell? ⟨g4, 2, none⟩ = some (.int .u32 V.c) := (hE 2 (by decide)).1
      have c3 : wr.cell? ⟨g4, 3, none⟩ = some (.int .u32 V.d) := (hE 3 (by decide)).1
      have c4 : wr.cell? ⟨g4, 4, none⟩ = some (.int .u32 V.e) := (hE 4 (by decide)).1
      have c5 : wr.cell? ⟨g4, 5, none⟩ = some (.int .u32 V.f) := (hE 5 (by decide)).1
      have c6 : wr.cell? ⟨g4, 6, none⟩ = some (.int .u32 V.g) := (hE 6 (by decide)).1
      have c7 : wr.cell? ⟨g4, 7, none⟩ = some (.int .u32 V.h) := (hE 7 (by decide)).1
      have hF : Kept8 w3 wr g4 V := ⟨hlt4, hq, c0, c1, c2, c3, c4, c5, c6⟩
      clear hE hl
      have dE := ok.e
      have dA := ok.a
      have e0 := ok.e.1
      have a0 := ok.a.1
      have hsz : w.heap.size ≤ wr.heap.size := by have := hq4.size; have := hq.size; omega
      have k0 : (0 : Int) ≤ (k : Int) := by omega
      have k1 : (k : Int) < 64 := by omega
      go_wp2_with fail
      go_quiet ((go_at_call 235; exact rquiet0 (rturn_any _ _ _ dE (by decide) (by decide))))
      go_wp2_with fail
      go_quiet (fail)
      go_wp2_with fail
      go_quiet ((go_at_call 235; exact rquiet (rturn_any _ _ _ dA (by decide) (by decide))))
      go_wp2_with fail
      go_quiet (fail)
      go_wp2_with fail
      go_region_held3 (fun w' => w'.cell? ⟨g4, 0, none⟩ = some (.int .u32 V.a) ∧ w'.cell? ⟨g4, 1, none⟩ = some (.int .u32 V.b) ∧ w'.cell? ⟨g4, 2, none⟩ = some (.int .u32 V.c) ∧ w'.cell? ⟨g4, 3, none⟩ = some (.int .u32 V.d) ∧ w'.cell? ⟨g4, 4, none⟩ = some (.int .u32 V.e) ∧ w'.cell? ⟨g4, 5, none⟩ = some (.int .u32 V.f) ∧ w'.cell? ⟨g4, 6, none⟩ = some (.int .u32 V.g) ∧ Kept8 w3 w' g4 V)
        (first | exact ((((hF.q (below_drewN (Q.refl _) _)).q (below_drewN (Q.refl _) _)).q (below_drewN (Q.refl _) _)).q (Q.refl _).drew).held | exact (hF.q (q_alloc (below_drewN (Q.refl wr) _) _)).held | exact (hF.q (q_allocd (below_drewN (Q.refl wr) _) _)).held) (fail)
      go_wp2
      refine ⟨⟨wr.heap.size, 8, k + 1, rfl, by go_num, by omega, hsz, by simp, ?_, q_alloc (below_drewN hq _) _⟩, by simp only [intOf]; omega⟩
      rw [HE.out]
      exact EightO.of (v := rnd V (K k) (W s k)) (Blk.new' (wr.drewN _) 160 _ rfl)
    · have hm : mix v s = plus v (rnds s v k) := by rw [show k = 64 by omega]; rfl
      have HM := Lib.hid hm
      clear hm
      generalize rnds s v k = V at *
      have hE0 : EightO wr g4 (part8 V v 0) := fun j hj => hE j hj
      have hh5 := hh4.q hq
      have hlt5 := hh5.1
      have hq5 := Q.trans hq4 hq
      have hgh := hh.1
      have hwg : w.heap.size ≤ g4 := hle4
      clear hE hbK hownW hh4 hq4 hq hb hh
      go_wp2_with fail
      go_loopw [13] (fun i wr' => ∃ k : Nat, k ≤ 8 ∧ i = .int .i64 k ∧ g4 < wr'.heap.size ∧ EightO wr' g4 (part8 V v k) ∧ Eight wr' gh v ∧ Q w wr') (fun i _ => 8 - (intOf i).toNat)
      case atStart => exact ⟨0, by omega, rfl, hlt4, hE0, hh5, hq5⟩
      case round =>
        obtain ⟨k, hk, rfl, hlt4, hE, hh, hq⟩ := hrel
        by_cases hlt : k < 8
        · obtain ⟨hc, hf⟩ := hE k hlt
          have hp : part8 V v k k = V.list.getD k 0 := by unfold part8; rw [if_neg (by omega)]
          rw [hp] at hc
          have hc2 := hh.2 k hlt
          go_wp2_with fail
          go_region
          go_wp2
          refine ⟨⟨k + 1, by omega, by go_num, by simpa using hlt4, fun j hj => ?_, ⟨by simpa using hh.1, fun j hj => ?_⟩, Below.drew (Below.setCell hq hwg _)⟩, by simp only [intOf]; omega⟩
          · by_cases e : j = k
            · subst e
              refine ⟨(World.cell?_setCell_same' _ _ _ (by rw [hc]; rfl)).trans ?_, (World.frozen?_setCell _ _ _ _).trans hf⟩
              unfold part8
              rw [if_pos (by omega), List.getD_eq_getElem?_getD, List.getD_eq_getElem?_getD]
            · obtain ⟨h1, h2⟩ := hE j hj
              refine ⟨(World.cell?_setCell_other _ _ _ _ ?_).trans (h1.trans ?_), (World.frozen?_setCell _ _ _ _).trans h2⟩
              · simp <;> omega
              · unfold part8
                by_cases e2 : j < k
                · rw [if_pos e2, if_pos (by omega)]
                · rw [if_neg e2, if_neg (by omega)]
          · exact (World.cell?_setCell_far _ _ _ _ (by simp; omega)).trans (hh.2 j hj)
        · obtain rfl : k = 8 := by omega
          have hE8 : Eight wr g4 (mix v s) := ⟨hlt4, fun j hj => by rw [(hE j hj).1, part8_end V v j hj, HM.out]⟩
          go_wp2
          go_ret
          exact ⟨g4, _, rfl, hE8, hq⟩

end Go.Proofs.YtflgkplneekpfaaGreatDoor.Sha

namespace Go.Proofs.YtflgkplneekpfaaGreatDoor.Sha
open Go.RowKit Grp Mem _root_.Go.Proofs.YtflgkplneekpfaaGreatDoor.Code

/-- The padded text with the first j bytes of the length. -/
def finS (s : ByteArray) (j : Nat) : List UInt8 := pre s (zeros s) ++ be s.size j
theorem finS_zero (s : ByteArray) : finS s 0 = pre s (zeros s) := by simp [finS, be]
theorem finS_succ (s : ByteArray) (j : Nat) : cellsOf (finS s (j + 1)) = cellsOf (finS s j) ++ [Value.int .u8 ((s.size * 8 / 2 ^ (56 - 8 * j) % 256 : Nat) : Int)] := by
  rw [finS, be_succ, ← List.append_assoc, cellsOf_append]
  congr 1
  simp [cellsOf, UInt8.toNat_ofNat']
theorem finS_length (s : ByteArray) (j : Nat) : (finS s j).length = s.size + 1 + zeros s + j := by rw [finS, List.length_append, pre_length, be_length]
theorem finS_all (s : ByteArray) : finS s 8 = padded s := by simp [finS, padded, tail, pre]

theorem padded_cell (s : ByteArray) (j k : Nat) (h : 64 * j + 64 ≤ (padded s).length) (hk : k < 64) : (cellsOf (padded s))[64 * j + k]? = some (.int .u8 (byteAt (blk (padded s) j) k)) := by
  rw [blk_byte _ _ _ hk, List.getD_eq_getElem?_getD]
  have hl : 64 * j + k < (padded s).length := by omega
  simp [cellsOf, List.getElem?_eq_getElem hl]
theorem padded_blocks {w : World} {base gp cap : Nat} (s : ByteArray) (h : Owns w base 5 1 (.slice (some ⟨gp, 0, none⟩) (padded s).length cap) (padded s).length (cellsOf (padded s))) (j : Nat) (hj : 64 * j + 64 ≤ (padded s).length) : Bytes64 w gp (64 * j) (blk (padded s) j) := by
  refine ⟨(h.lt gp rfl).2, fun k hk => ?_⟩
  obtain ⟨g', he, -, -, hc, -⟩ := h.cellAt _ _ (padded_cell s j k hj hk)
  obtain rfl : gp = g' := by injection he with h; injection h
  exact hc

set_option maxRecDepth 100000 in
set_option maxHeartbeats 2000000 in
theorem RSha_any (s : ByteArray) (w : World) (hsm : s.size ≤ 140737488355200) :
    Calls Tryz.prog 121 #[.string s] w fun e w' => e = .returned (.string (sha s)) ∧ Q w w' := by
  obtain ⟨i0, hi, hz0, hz1, hz2⟩ := info_parts byte_info
  obtain ⟨w1, cap, hcv, hown0, hq1, hc1, hc2⟩ := bytes_conv (P := Tryz.prog) w w 9 121 5 s Tryz.underlying9 Tryz.underlying121 Tryz.underlying5 (by simp only [maxLen]; omega) (Q.refl w)
  obtain ⟨hp2, hp1, hp3⟩ := zeros_spec s
  have HP2 := Lib.hid hp2
  have HP3 := Lib.hid hp3
  clear hp2 hp3
  have hmax : s.size + 1 ≤ maxLen := by simp only [maxLen]; omega
  go_enter Tryz.func121, Tryz.ntmps121
  go_wp2_with (at_builtin; refine wpList_append_owns _ rfl (.tmp 11) (.tmp 12) 121 rfl w.heap.size 5 i0 _ 1 1 Tryz.underlying121 hi hz0 hz1 hz2 rfl (by decide) _ s.size (Lib.strCells s) rfl (hown0.alloc _) ⟨w1.heap.size, 0, none⟩ 1 1 [.int .u8 128] rfl rfl (cell_one_new _ _ _) (by simp [Value.oneCell']) hmax (by omega) ?_ ?_)
  · have := hq1.size
    simp
    omega
  intro v2 w2 hown2 hg2
  have hq2 := q_append hq1 hown0 hg2
  rw [← pre_zero] at hown2
  obtain ⟨A2, cap2, rfl, hn2, hm2⟩ := hown2.shape
  clear hg2 hcv hown0 hq1 hc1 hc2
  go_wp2_with fail
  go_loopw [3] (fun v wr => ∃ (A : Option Addr) (c k : Nat), v = .slice A (s.size + 1 + k) c ∧ k ≤ zeros s ∧ s.size + 1 + k ≤ c ∧ c ≤ maxLen ∧ Owns wr w.heap.size 5 1 (.slice A (s.size + 1 + k) c) (s.size + 1 + k) (cellsOf (pre s k)) ∧ Q w wr) (fun v _ => 140737488355400 - (match v with | .slice _ l _ => l | _ => 0))
  case atStart => exact ⟨_, _, 0, rfl, by omega, hn2, hm2, hown2, hq2⟩
  case round =>
    obtain ⟨A, c, k, rfl, hk, hc, hcm, hown, hq⟩ := hrel
    by_cases hlt : k < zeros s
    · have hne := HP3.out k hlt
      have hb : (((s.size : Int) + 1 + k) % 64 != 56) = true := by rw [bne_iff_ne]; omega
      clear hne
      go_wp2_with (at_builtin; refine wpList_append_owns _ rfl (.tmp 18) (.tmp 19) 121 rfl w.heap.size 5 i0 _ 1 1 Tryz.underlying121 hi hz0 hz1 hz2 rfl (by decide) _ (s.size + 1 + k) _ rfl (hown.alloc _) ⟨wr.heap.size, 0, none⟩ 1 1 [.int .u8 0] rfl rfl (cell_one_new _ _ _) (by simp [Value.oneCell']) (by simp only [maxLen]; omega) (by omega) ?_ ?_)
      · have := hq.size
        simp
        omega
      intro v2 w2 hown2 hg2
      have hq2 := q_append hq hown hg2
      rw [← pre_succ] at hown2
      obtain ⟨A2, cap2, rfl, hn2, hm2⟩ := hown2.shape
      go_wp2
      exact ⟨⟨_, _, k + 1, rfl, by omega, hn2, hm2, hown2, hq2⟩, by simp; omega⟩
    · have hkp : k = zeros s := by omega
      have HN := HP2.out
      have hb : (((s.size : Int) + 1 + k) % 64 != 56) = false := by rw [bne_eq_false_iff_eq]; omega
      have hownk : Owns wr w.heap.size 5 1 (.slice A (s.size + 1 + k) c) (finS s 0).length (cellsOf (finS s 0)) := by
        rw [finS_zero, pre_length, ← hkp]; exact hown
      have HKP := Lib.hid hkp
      clear HN hkp hown
      go_wp2_with fail
      go_loopw [3, 5] (fun v i wr => ∃ (A : Option Addr) (c j : Nat), v = .slice A (s.size + 1 + k + j) c ∧ i = .int .i64 (56 - 8 * (j : Int)) ∧ j ≤ 8 ∧ s.size + 1 + k + j ≤ c ∧ c ≤ maxLen ∧ Owns wr w.heap.size 5 1 (.slice A (s.size + 1 + k + j) c) (s.size + 1 + k + j) (cellsOf (finS s j)) ∧ Q w wr) (fun _ i _ => (intOf i + 8).toNat)
      case atStart => exact ⟨A, c, 0, rfl, rfl, by omega, hc, hcm, by rw [finS_length, ← HKP.out] at hownk; exact hownk, hq⟩
      case round =>
        obtain ⟨A, c, j, rfl, rfl, hj, hc, hcm, hown, hq⟩ := hrel
        by_cases hlt : j < 8
        · have hb := finS_succ s j
          have e1 : ((s.size * 8 / 2 ^ (56 - 8 * j) % 256 : Nat) : Int) = 8 * (s.size : Int) / 2 ^ (56 - 8 * j) % 256 := by
            rw [Nat.mul_comm, Int.natCast_emod, Int.natCast_ediv, Int.natCast_mul, Int.natCast_pow]; rfl
          rw [e1] at hb
          have HB := Lib.hid hb
          clear hb e1
          go_wp2_with (at_builtin; refine wpList_append_owns _ rfl (.tmp 29) (.tmp 34) 121 rfl w.heap.size 5 i0 _ 1 1 Tryz.underlying121 hi hz0 hz1 hz2 rfl (by decide) _ (s.size + 1 + k + j) _ rfl (hown.alloc _) ⟨wr.heap.size, 0, none⟩ 1 1 [.int .u8 (8 * (s.size : Int) / 2 ^ (56 - 8 * j) % 256)] rfl rfl (cell_one_new _ _ _) (by simp [Value.oneCell']) (by simp only [maxLen]; omega) (by omega) ?_ ?_)
          · have := hq.size
            simp
            omega
          intro v2 w2 hown2 hg2
          have hq2 := q_append hq hown hg2
          rw [← HB.out] at hown2
          obtain ⟨A2, cap2, rfl, hn2, hm2⟩ := hown2.shape
          go_wp2
          exact ⟨⟨_, _, j + 1, rfl, by go_num, by omega, hn2, hm2, hown2, hq2⟩, by simp only [intOf]; omega⟩
        · obtain rfl : j = 8 := by omega
          have hl : s.size + 1 + k + 8 = (padded s).length := by rw [← finS_all, finS_length, HKP.out]
          have hm64 : (padded s).length % 64 = 0 := by
            have := HP2.out
            rw [← HKP.out] at this
            omega
          rw [finS_all, hl] at hown
          rw [hl] at hc
          have hL0 : 64 ≤ (padded s).length := by omega
          obtain ⟨gp, rfl, hbp, -, -, -⟩ := hown.cellAt 0 _ (padded_cell s 0 0 (by omega) (by omega))
          have hshs := shaV_hs s
          have HSH := Lib.hid hshs
          have HPB := Lib.hid (padded_blocks (base := w.heap.size) (gp := gp) (cap := c) (w := wr) s hown)
          have hlm : (padded s).length ≤ 140737488355328 + 72 := by omega
          rw [hl]
          clear hshs HP2 HP3 hownk hown2 hq2 hL0
          go_wp2_with fail
          refine (firsts_any _).mono ?_
          rintro e w2 ⟨rfl, h8, hq2⟩
          have hq3 := Q.trans hq hq2
          have hownP := hown.q hq2
          generalize (padded s).length = L at *
          go_wp2_with fail
          go_loopw [6, 7] (fun x i wr' => ∃ (g' c' j q : Nat), x = .slice (some ⟨g', 0, none⟩) 8 c' ∧ i = .int .i64 q ∧ q = 64 * j ∧ q ≤ L ∧ Eight wr' g' (hs (padded s) j) ∧ Q w2 wr') (fun _ i _ => L - (intOf i).toNat)
          case atStart => exact ⟨_, 8, 0, 0, rfl, rfl, rfl, Nat.zero_le _, h8, Q.refl _⟩
          case round =>
            obtain ⟨g', c', j, q, rfl, rfl, hqj, hqL, h8, hq4⟩ := hrel
            by_cases hlt : q < L
            · have hBy := (HPB.out j (by omega)).q (Q.trans hq2 hq4)
              have hok := hs_ok (padded s) j
              have hnx := fun ch c W hv hh hb => next_any g' ch gp (64 * j) c (hs (padded s) j) (blk (padded s) j) W hv hh hb
              have b1 : (q : Int) + 64 ≤ (L : Int) := by omega
              have b2 : (L : Int) ≤ (c : Int) := by omega
              have b3 : (q : Int) ≤ (q : Int) + 64 := by omega
              go_wp2_with fail
              refine (hnx _ _ _ hok h8 hBy).mono ?_
              rintro e w5 ⟨g5, c5, rfl, h85, hq5⟩
              go_wp2
              exact ⟨⟨_, _, j + 1, q + 64, rfl, by go_num, by omega, by omega, h85, Q.trans hq4 hq5⟩, by simp only [intOf]; omega⟩
            · have hjL : j = L / 64 := by omega
              have hV : shaV s = hs (padded s) j := by rw [HSH.out, hjL]
              have HV := Lib.hid hV
              have hq5 := Q.trans hq3 hq4
              have hok := hs_ok (padded s) j
              clear hV HSH HPB hownP hown hjL hqj
              generalize hs (padded s) j = V at *
              obtain ⟨w5, hw5⟩ : ∃ w5, w5 = wr := ⟨_, rfl⟩
              rw [← hw5] at h8 hq5
              have h5 := h8
              clear h8 hq4
              rw [← hw5]
              clear hw5
              go_wp2_with fail
              go_loopw [8, 9] (fun x i wr => ∃ (A : Option Addr) (c k : Nat), x = .slice A k c ∧ i = .int .i64 k ∧ k ≤ 32 ∧ k ≤ c ∧ c ≤ maxLen ∧ Owns wr w5.heap.size 5 1 (.slice A k c) k (cellsOf (outs V k)) ∧ Q w5 wr) (fun _ i _ => 32 - (intOf i).toNat)
              case atStart => exact ⟨none, 0, 0, rfl, rfl, by omega, by omega, by simp [maxLen], Owns.nil_ _ _ _ _, Q.refl _⟩
              case round =>
                obtain ⟨A, c, k, rfl, rfl, hk, hc, hcm, hown, hq⟩ := hrel
                by_cases hlt : k < 32
                · have hp := Lib.hid (outs_cells V k)
                  have hc8 := (h5.q hq).2 (k / 4) (by omega)
                  have x0 := (list_bd hok (k / 4) (by omega)).1
                  have hoi : outI V k = V.list.getD (k / 4) 0 / ((2 ^ (24 - 8 * (k % 4)) : Nat) : Int) % 256 := rfl
                  generalize V.list.getD (k / 4) 0 = x at *
                  have hoi2 : outI V k = x / 2 ^ (24 - 8 * (k % 4)) % 256 := by rw [hoi, Int.natCast_pow]; rfl
                  have HOI := Lib.hid hoi2
                  clear hoi hoi2
                  go_wp2_with (at_builtin; refine wpList_append_owns _ rfl (.tmp 54) (.tmp 66) 121 rfl w5.heap.size 5 i0 _ 1 1 Tryz.underlying121 hi hz0 hz1 hz2 rfl (by decide) _ k _ rfl (hown.alloc _) ⟨wr.heap.size, 0, none⟩ 1 1 [.int .u8 (x / 2 ^ (24 - 8 * (k % 4)) % 256)] rfl rfl (cell_one_new _ _ _) (by simp [Value.oneCell']) (by simp only [maxLen]; omega) (by omega) ?_ ?_)
                  · have := hq.size
                    simp
                    omega
                  intro v2 w2' hown2 hg2
                  have hq2 := q_append hq hown hg2
                  rw [← HOI.out, ← hp.out] at hown2
                  obtain ⟨A2, cap2, rfl, hn2, hm2⟩ := hown2.shape
                  go_wp2
                  exact ⟨⟨_, _, k + 1, rfl, by go_num, by omega, hn2, hm2, hown2, hq2⟩, by simp only [intOf]; omega⟩
                · obtain rfl : k = 32 := by omega
                  have hown' : Owns wr w5.heap.size 5 1 (.slice A (outs V 32).length c) (outs V 32).length (cellsOf (outs V 32)) := by rw [outs_length]; exact hown
                  have hcv := run_string_of_owns (P := Tryz.prog) wr w5.heap.size 121 9 5 _ (outs V 32) Tryz.underlying121 Tryz.underlying5 Tryz.underlying9 hown'
                  rw [outs_length] at hcv
                  go_wp2
                  go_ret
                  exact ⟨by unfold sha; rw [HV.out, digest_outs]; rfl, Q.trans hq5 hq⟩

end Go.Proofs.YtflgkplneekpfaaGreatDoor.Sha

namespace Go.Proofs.YtflgkplneekpfaaGreatDoor.Item
open Go.RowKit Grp Mem _root_.Go.Proofs.YtflgkplneekpfaaGreatDoor.Code Sha Sign _root_.Go.Proofs.YtflgkplneekpfaaGreatDoor.Known

theorem ways7b (b1 b2 b3 b4 b5 b6 b7 : Bool) : (b1 = false ∨ (b1 = true ∧ b2 = false) ∨ (b1 = true ∧ b2 = true ∧ b3 = false) ∨ (b1 = true ∧ b2 = true ∧ b3 = true ∧ b4 = false) ∨ (b1 = true ∧ b2 = true ∧ b3 = true ∧ b4 = true ∧ b5 = false) ∨ (b1 = true ∧ b2 = true ∧ b3 = true ∧ b4 = true ∧ b5 = true ∧ b6 = false) ∨
      (b1 = true ∧ b2 = true ∧ b3 = true ∧ b4 = true ∧ b5 = true ∧ b6 = true ∧ b7 = false)) ∨ (b1 = true ∧ b2 = true ∧ b3 = true ∧ b4 = true ∧ b5 = true ∧ b6 = true ∧ b7 = true) := by
  cases b1 <;> cases b2 <;> cases b3 <;> cases b4 <;> cases b5 <;> cases b6 <;> cases b7 <;> simp
theorem terms_kind {d : DecR} (h : termsB d = true) : withinB d.kind 0 9 = true := by
  unfold termsB at h
  simp only [withinB, Bool.and_eq_true, decide_eq_true_eq]
  by_cases h1 : d.kind = 0 ∨ d.kind = 1 ∨ d.kind = 4 ∨ d.kind = 6 ∨ d.kind = 7
  · omega
  rw [if_neg h1] at h
  by_cases h2 : d.kind = 2 ∨ d.kind = 3 ∨ d.kind = 5
  · omega
  rw [if_neg h2] at h
  by_cases h3 : d.kind = 8
  · omega
  rw [if_neg h3] at h
  by_cases h4 : d.kind = 9
  · omega
  rw [if_neg h4] at h
  cases h
theorem rdecided_any (d : DecR) (w : World) (hI : DecIn w d) (ho : DecOk d) : Calls Tryz.prog 229 #[.agg (decA d)] w fun e w' => e = .returned (.bool (decRight d)) ∧ Q w w' := by
  rcases ways7b (withinB d.server 0 19) (withinB d.number 0 1073741824) (withinB d.kind 0 9) (withinB d.start 0 1099511627776) (withinB d.stop 0 1099511627776) (decide (d.start < d.stop)) (inOrd d.e && inOrd d.s) with h | ⟨g1, g2, g3, g4, g5, g6, g7⟩
  · have HR : decRight d = false := by
      cases hd : decRight d
      · rfl
      · exfalso
        unfold decRight at hd
        simp only [Bool.and_eq_true] at hd
        obtain ⟨d1, d2, d3, d4, d5, d6, d7, d8⟩ := hd
        have d9 := terms_kind d6
        rw [d1, d2, d3, d4, d5, d7, d8, d9] at h
        simp at h
    rw [HR]
    exact rdecided_out d w hI ho h
  · have HR : decRight d = termsB d := by
      unfold decRight
      rw [g1, g2, g4, g5, g6, g7]
      simp
    rw [HR]
    have g6 := of_decide_eq_true g6
    have h2 : 0 ≤ d.kind ∧ d.kind ≤ 9 := by simpa [withinB] using g3
    rcases (show d.kind = 0 ∨ d.kind = 1 ∨ d.kind = 2 ∨ d.kind = 3 ∨ d.kind = 4 ∨ d.kind = 5 ∨ d.kind = 6 ∨ d.kind = 7 ∨ d.kind = 8 ∨ d.kind = 9 by omega) with k | k | k | k | k | k | k | k | k | k
    · exact rdecided_0 d w hI ho k g1 g2 g3 g4 g5 g6 g7
    · exact rdecided_1 d w hI ho k g1 g2 g3 g4 g5 g6 g7
    · exact rdecided_2 d w hI ho k g1 g2 g3 g4 g5 g6 g7
    · exact rdecided_3 d w hI ho k g1 g2 g3 g4 g5 g6 g7
    · exact rdecided_4 d w hI ho k g1 g2 g3 g4 g5 g6 g7
    · exact rdecided_5 d w hI ho k g1 g2 g3 g4 g5 g6 g7
    · exact rdecided_6 d w hI ho k g1 g2 g3 g4 g5 g6 g7
    · exact rdecided_7 d w hI ho k g1 g2 g3 g4 g5 g6 g7
    · exact rdecided_8 d w hI ho k g1 g2 g3 g4 g5 g6 g7
    · exact rdecided_9 d w hI ho k g1 g2 g3 g4 g5 g6 g7

set_option maxRecDepth 100000 in
theorem zAct (w : World) : (Instr.build 44 #[]).run Tryz.prog w = .ok (.agg (actA act0)) w := by kernel_rfl
set_option maxRecDepth 100000 in
theorem zClaim (w : World) : (Instr.build 37 #[]).run Tryz.prog w = .ok (.agg (claimA claim0)) w := by kernel_rfl
set_option maxRecDepth 100000 in
theorem zBallot (w : World) : (Instr.build 46 #[]).run Tryz.prog w = .ok (.agg (ballotA ballot0)) w := by kernel_rfl
set_option maxRecDepth 100000 in
theorem zDecision (w : World) : (Instr.build 48 #[]).run Tryz.prog w = .ok (.agg (decA dec0)) w := by kernel_rfl
open Go.Op Go.Instr in
theorem claimEq0 (c : ClaimV) (w : World) : (binOp .eql 37 (.agg (claimA c)) (.agg #[.string ⟨#[]⟩, .int .i64 0, .string ⟨#[]⟩, .int .i64 0, .int .i64 0, .int .i64 0, .int .i64 0, .int .i64 0, .int .i64 0])).run Tryz.prog w = .ok (.bool (c.same claim0)) w := claimEq c claim0 w
open Go.Op Go.Instr in
theorem ballotEq0 (c : BallotV) (w : World) : (binOp .eql 46 (.agg (ballotA c)) (.agg #[.int .i64 0, .string ⟨#[]⟩, .int .i64 0, .string ⟨#[]⟩, .int .i64 0, .int .i64 0, .int .i64 0])).run Tryz.prog w = .ok (.bool (c.same ballot0)) w := ballotEq c ballot0 w
set_option maxRecDepth 100000 in
set_option maxHeartbeats 4000000 in
theorem rright_0 (i : ItemR) (w : World) (hI : ItemIn w i) (ho : ItemOk i) (hk : i.kind = 0) : Calls Tryz.prog 191 #[.agg (itA i)] w fun e w' => e = .returned (.bool (itemRight i)) ∧ Q w w' := by
  obtain ⟨w1, x, hx, hq1, hl, hr⟩ := boxed w 50 i.cells
  have hx : w.alloc (.cells (itA i) 50) = x.w := hx
  have hAct := item_act hl hr
  have hClaim := item_claim hl hr
  have hBallot := item_ballot hl hr
  have hDecision := item_dec hl hr
  have c0 := Wd.at0 hl hr 0 rfl
  have hI' : ∀ y : Wd w1, ItemIn y.w i := fun y => hI.q (Q.trans hq1 y.q)
  have hE1 := claimEq0
  have hE2 := ballotEq0
  clear hl hr
  rw [hk] at c0
  have HK := Lib.hid hk
  clear hk
  go_enter Tryz.func191, Tryz.ntmps191
  go_wp2_with (first | (refine wpList_load_run 44 (.tmp 8) (.pointer (some ⟨w.heap.size, 1, none⟩)) (.agg (actA i.act)) ?_ ?_ ?_ ?_ ?_; rfl; rfl; rfl; exact hAct _) | (refine wpList_load_run 37 (.tmp 12) (.pointer (some ⟨w.heap.size, 21, none⟩)) (.agg (claimA i.claim)) ?_ ?_ ?_ ?_ ?_; rfl; rfl; rfl; exact hClaim _) | (refine wpList_load_run 46 (.tmp 16) (.pointer (some ⟨w.heap.size, 30, none⟩)) (.agg (ballotA i.ballot)) ?_ ?_ ?_ ?_ ?_; rfl; rfl; rfl; exact hBallot _) | (refine wpList_load_run 48 (.tmp 20) (.pointer (some ⟨w.heap.size, 37, none⟩)) (.agg (decA i.dec)) ?_ ?_ ?_ ?_ ?_; rfl; rfl; rfl; exact hDecision _) | (refine wpList_build_run 44 _ #[] (.agg (actA act0)) rfl ?_ ?_ (zAct _) ?_; rfl; (simp; done)) | (refine wpList_build_run 37 _ #[] (.agg (claimA claim0)) rfl ?_ ?_ (zClaim _) ?_; rfl; (simp; done)) | (refine wpList_build_run 46 _ #[] (.agg (ballotA ballot0)) rfl ?_ ?_ (zBallot _) ?_; rfl; (simp; done)) | (refine wpList_build_run 48 _ #[] (.agg (decA dec0)) rfl ?_ ?_ (zDecision _) ?_; rfl; (simp; done)) | (go_at_call 133; refine (ractSame_any i.act act0 _ (hI' _).act (act0_in _)).mono ?_; rintro e w' ⟨rfl, hq2⟩; obtain ⟨y, rfl⟩ := Wd.next _ hq2; clear hq2) | (go_at_call 134; refine (rdecSame_any i.dec dec0 _ (hI' _).dec (dec0_in _)).mono ?_; rintro e w' ⟨rfl, hq2⟩; obtain ⟨y, rfl⟩ := Wd.next _ hq2; clear hq2) | (refine wpList_load_run 44 (.tmp 28) (.pointer (some ⟨w.heap.size, 1, none⟩)) (.agg (actA i.act)) ?_ ?_ ?_ ?_ ?_; rfl; rfl; rfl; exact hAct _) | (go_at_call 226; refine (ractRight_any i.act _ (hI' _).act ho.act).mono ?_; rintro e w' ⟨rfl, hq2⟩; obtain ⟨y, rfl⟩ := Wd.next _ hq2; clear hq2))
  all_goals
    go_ret
    refine ⟨?_, Q.trans hq1 (Wd.q _)⟩
    have hk := HK.out
    clear hAct hClaim hBallot hDecision c0 hx hE1 hE2 hI'
    simp_all [itemRight]
set_option maxRecDepth 100000 in
set_option maxHeartbeats 4000000 in
theorem rright_1 (i : ItemR) (w : World) (hI : ItemIn w i) (ho : ItemOk i) (hk : i.kind = 1) : Calls Tryz.prog 191 #[.agg (itA i)] w fun e w' => e = .returned (.bool (itemRight i)) ∧ Q w w' := by
  obtain ⟨w1, x, hx, hq1, hl, hr⟩ := boxed w 50 i.cells
  have hx : w.alloc (.cells (itA i) 50) = x.w := hx
  have hAct := item_act hl hr
  have hClaim := item_claim hl hr
  have hBallot := item_ballot hl hr
  have hDecision := item_dec hl hr
  have c0 := Wd.at0 hl hr 0 rfl
  have hI' : ∀ y : Wd w1, ItemIn y.w i := fun y => hI.q (Q.trans hq1 y.q)
  have hE1 := claimEq0
  have hE2 := ballotEq0
  clear hl hr
  rw [hk] at c0
  have HK := Lib.hid hk
  clear hk
  go_enter Tryz.func191, Tryz.ntmps191
  go_wp2_with (first | (refine wpList_load_run 44 (.tmp 8) (.pointer (some ⟨w.heap.size, 1, none⟩)) (.agg (actA i.act)) ?_ ?_ ?_ ?_ ?_; rfl; rfl; rfl; exact hAct _) | (refine wpList_load_run 37 (.tmp 12) (.pointer (some ⟨w.heap.size, 21, none⟩)) (.agg (claimA i.claim)) ?_ ?_ ?_ ?_ ?_; rfl; rfl; rfl; exact hClaim _) | (refine wpList_load_run 46 (.tmp 16) (.pointer (some ⟨w.heap.size, 30, none⟩)) (.agg (ballotA i.ballot)) ?_ ?_ ?_ ?_ ?_; rfl; rfl; rfl; exact hBallot _) | (refine wpList_load_run 48 (.tmp 20) (.pointer (some ⟨w.heap.size, 37, none⟩)) (.agg (decA i.dec)) ?_ ?_ ?_ ?_ ?_; rfl; rfl; rfl; exact hDecision _) | (refine wpList_build_run 44 _ #[] (.agg (actA act0)) rfl ?_ ?_ (zAct _) ?_; rfl; (simp; done)) | (refine wpList_build_run 37 _ #[] (.agg (claimA claim0)) rfl ?_ ?_ (zClaim _) ?_; rfl; (simp; done)) | (refine wpList_build_run 46 _ #[] (.agg (ballotA ballot0)) rfl ?_ ?_ (zBallot _) ?_; rfl; (simp; done)) | (refine wpList_build_run 48 _ #[] (.agg (decA dec0)) rfl ?_ ?_ (zDecision _) ?_; rfl; (simp; done)) | (go_at_call 133; refine (ractSame_any i.act act0 _ (hI' _).act (act0_in _)).mono ?_; rintro e w' ⟨rfl, hq2⟩; obtain ⟨y, rfl⟩ := Wd.next _ hq2; clear hq2) | (go_at_call 134; refine (rdecSame_any i.dec dec0 _ (hI' _).dec (dec0_in _)).mono ?_; rintro e w' ⟨rfl, hq2⟩; obtain ⟨y, rfl⟩ := Wd.next _ hq2; clear hq2) | (refine wpList_load_run 37 (.tmp 43) (.pointer (some ⟨w.heap.size, 21, none⟩)) (.agg (claimA i.claim)) ?_ ?_ ?_ ?_ ?_; rfl; rfl; rfl; exact hClaim _) | (go_at_call 227; refine (rclaimed_any i.claim _ ho.claim).mono ?_; rintro e w' ⟨rfl, hq2⟩; obtain ⟨y, rfl⟩ := Wd.next _ hq2; clear hq2))
  all_goals
    go_ret
    refine ⟨?_, Q.trans hq1 (Wd.q _)⟩
    have hk := HK.out
    clear hAct hClaim hBallot hDecision c0 hx hE1 hE2 hI'
    simp_all [itemRight]
set_option maxRecDepth 100000 in
set_option maxHeartbeats 4000000 in
theorem rright_2 (i : ItemR) (w : World) (hI : ItemIn w i) (ho : ItemOk i) (hk : i.kind = 2) : Calls Tryz.prog 191 #[.agg (itA i)] w fun e w' => e = .returned (.bool (itemRight i)) ∧ Q w w' := by
  obtain ⟨w1, x, hx, hq1, hl, hr⟩ := boxed w 50 i.cells
  have hx : w.alloc (.cells (itA i) 50) = x.w := hx
  have hAct := item_act hl hr
  have hClaim := item_claim hl hr
  have hBallot := item_ballot hl hr
  have hDecision := item_dec hl hr
  have c0 := Wd.at0 hl hr 0 rfl
  have hI' : ∀ y : Wd w1, ItemIn y.w i := fun y => hI.q (Q.trans hq1 y.q)
  have hE1 := claimEq0
  have hE2 := ballotEq0
  clear hl hr
  rw [hk] at c0
  have HK := Lib.hid hk
  clear hk
  go_enter Tryz.func191, Tryz.ntmps191
  go_wp2_with (first | (refine wpList_load_run 44 (.tmp 8) (.pointer (some ⟨w.heap.size, 1, none⟩)) (.agg (actA i.act)) ?_ ?_ ?_ ?_ ?_; rfl; rfl; rfl; exact hAct _) | (refine wpList_load_run 37 (.tmp 12) (.pointer (some ⟨w.heap.size, 21, none⟩)) (.agg (claimA i.claim)) ?_ ?_ ?_ ?_ ?_; rfl; rfl; rfl; exact hClaim _) | (refine wpList_load_run 46 (.tmp 16) (.pointer (some ⟨w.heap.size, 30, none⟩)) (.agg (ballotA i.ballot)) ?_ ?_ ?_ ?_ ?_; rfl; rfl; rfl; exact hBallot _) | (refine wpList_load_run 48 (.tmp 20) (.pointer (some ⟨w.heap.size, 37, none⟩)) (.agg (decA i.dec)) ?_ ?_ ?_ ?_ ?_; rfl; rfl; rfl; exact hDecision _) | (refine wpList_build_run 44 _ #[] (.agg (actA act0)) rfl ?_ ?_ (zAct _) ?_; rfl; (simp; done)) | (refine wpList_build_run 37 _ #[] (.agg (claimA claim0)) rfl ?_ ?_ (zClaim _) ?_; rfl; (simp; done)) | (refine wpList_build_run 46 _ #[] (.agg (ballotA ballot0)) rfl ?_ ?_ (zBallot _) ?_; rfl; (simp; done)) | (refine wpList_build_run 48 _ #[] (.agg (decA dec0)) rfl ?_ ?_ (zDecision _) ?_; rfl; (simp; done)) | (go_at_call 133; refine (ractSame_any i.act act0 _ (hI' _).act (act0_in _)).mono ?_; rintro e w' ⟨rfl, hq2⟩; obtain ⟨y, rfl⟩ := Wd.next _ hq2; clear hq2) | (go_at_call 134; refine (rdecSame_any i.dec dec0 _ (hI' _).dec (dec0_in _)).mono ?_; rintro e w' ⟨rfl, hq2⟩; obtain ⟨y, rfl⟩ := Wd.next _ hq2; clear hq2) | (refine wpList_load_run 46 (.tmp 57) (.pointer (some ⟨w.heap.size, 30, none⟩)) (.agg (ballotA i.ballot)) ?_ ?_ ?_ ?_ ?_; rfl; rfl; rfl; exact hBallot _) | (go_at_call 228; refine (rvoted_any i.ballot _ ho.ballot).mono ?_; rintro e w' ⟨rfl, hq2⟩; obtain ⟨y, rfl⟩ := Wd.next _ hq2; clear hq2))
  all_goals
    go_ret
    refine ⟨?_, Q.trans hq1 (Wd.q _)⟩
    have hk := HK.out
    clear hAct hClaim hBallot hDecision c0 hx hE1 hE2 hI'
    simp_all [itemRight]
set_option maxRecDepth 100000 in
set_option maxHeartbeats 4000000 in
theorem rright_3 (i : ItemR) (w : World) (hI : ItemIn w i) (ho : ItemOk i) (hk : i.kind = 3) : Calls Tryz.prog 191 #[.agg (itA i)] w fun e w' => e = .returned (.bool (itemRight i)) ∧ Q w w' := by
  obtain ⟨w1, x, hx, hq1, hl, hr⟩ := boxed w 50 i.cells
  have hx : w.alloc (.cells (itA i) 50) = x.w := hx
  have hAct := item_act hl hr
  have hClaim := item_claim hl hr
  have hBallot := item_ballot hl hr
  have hDecision := item_dec hl hr
  have c0 := Wd.at0 hl hr 0 rfl
  have hI' : ∀ y : Wd w1, ItemIn y.w i := fun y => hI.q (Q.trans hq1 y.q)
  have hE1 := claimEq0
  have hE2 := ballotEq0
  clear hl hr
  rw [hk] at c0
  have HK := Lib.hid hk
  clear hk
  go_enter Tryz.func191, Tryz.ntmps191
  go_wp2_with (first | (refine wpList_load_run 44 (.tmp 8) (.pointer (some ⟨w.heap.size, 1, none⟩)) (.agg (actA i.act)) ?_ ?_ ?_ ?_ ?_; rfl; rfl; rfl; exact hAct _) | (refine wpList_load_run 37 (.tmp 12) (.pointer (some ⟨w.heap.size, 21, none⟩)) (.agg (claimA i.claim)) ?_ ?_ ?_ ?_ ?_; rfl; rfl; rfl; exact hClaim _) | (refine wpList_load_run 46 (.tmp 16) (.pointer (some ⟨w.heap.size, 30, none⟩)) (.agg (ballotA i.ballot)) ?_ ?_ ?_ ?_ ?_; rfl; rfl; rfl; exact hBallot _) | (refine wpList_load_run 48 (.tmp 20) (.pointer (some ⟨w.heap.size, 37, none⟩)) (.agg (decA i.dec)) ?_ ?_ ?_ ?_ ?_; rfl; rfl; rfl; exact hDecision _) | (refine wpList_build_run 44 _ #[] (.agg (actA act0)) rfl ?_ ?_ (zAct _) ?_; rfl; (simp; done)) | (refine wpList_build_run 37 _ #[] (.agg (claimA claim0)) rfl ?_ ?_ (zClaim _) ?_; rfl; (simp; done)) | (refine wpList_build_run 46 _ #[] (.agg (ballotA ballot0)) rfl ?_ ?_ (zBallot _) ?_; rfl; (simp; done)) | (refine wpList_build_run 48 _ #[] (.agg (decA dec0)) rfl ?_ ?_ (zDecision _) ?_; rfl; (simp; done)) | (go_at_call 133; refine (ractSame_any i.act act0 _ (hI' _).act (act0_in _)).mono ?_; rintro e w' ⟨rfl, hq2⟩; obtain ⟨y, rfl⟩ := Wd.next _ hq2; clear hq2) | (go_at_call 134; refine (rdecSame_any i.dec dec0 _ (hI' _).dec (dec0_in _)).mono ?_; rintro e w' ⟨rfl, hq2⟩; obtain ⟨y, rfl⟩ := Wd.next _ hq2; clear hq2) | (refine wpList_load_run 48 (.tmp 71) (.pointer (some ⟨w.heap.size, 37, none⟩)) (.agg (decA i.dec)) ?_ ?_ ?_ ?_ ?_; rfl; rfl; rfl; exact hDecision _) | (go_at_call 229; refine (rdecided_any i.dec _ (hI' _).dec ho.dec).mono ?_; rintro e w' ⟨rfl, hq2⟩; obtain ⟨y, rfl⟩ := Wd.next _ hq2; clear hq2))
  all_goals
    go_ret
    refine ⟨?_, Q.trans hq1 (Wd.q _)⟩
    have hk := HK.out
    clear hAct hClaim hBallot hDecision c0 hx hE1 hE2 hI'
    simp_all [itemRight]
set_option maxRecDepth 100000 in
set_option maxHeartbeats 4000000 in
theorem rright_no (i : ItemR) (w : World) (hI : ItemIn w i) (ho : ItemOk i) (k0 : ¬ i.kind = 0) (k1 : ¬ i.kind = 1) (k2 : ¬ i.kind = 2) (k3 : ¬ i.kind = 3) : Calls Tryz.prog 191 #[.agg (itA i)] w fun e w' => e = .returned (.bool (itemRight i)) ∧ Q w w' := by
  obtain ⟨w1, x, hx, hq1, hl, hr⟩ := boxed w 50 i.cells
  have hx : w.alloc (.cells (itA i) 50) = x.w := hx
  have hAct := item_act hl hr
  have hClaim := item_claim hl hr
  have hBallot := item_ballot hl hr
  have hDecision := item_dec hl hr
  have c0 := Wd.at0 hl hr 0 rfl
  have hI' : ∀ y : Wd w1, ItemIn y.w i := fun y => hI.q (Q.trans hq1 y.q)
  have hE1 := claimEq0
  have hE2 := ballotEq0
  clear hl hr
  have e0 : (i.kind == 0) = false := by simpa using k0
  have e1 : (i.kind == 1) = false := by simpa using k1
  have e2 : (i.kind == 2) = false := by simpa using k2
  have e3 : (i.kind == 3) = false := by simpa using k3
  have HR := Lib.hid (show itemRight i = false by unfold itemRight; rw [if_neg k0, if_neg k1, if_neg k2, if_neg k3])
  clear k0 k1 k2 k3
  go_enter Tryz.func191, Tryz.ntmps191
  go_wp2_with (first | (refine wpList_load_run 44 (.tmp 8) (.pointer (some ⟨w.heap.size, 1, none⟩)) (.agg (actA i.act)) ?_ ?_ ?_ ?_ ?_; rfl; rfl; rfl; exact hAct _) | (refine wpList_load_run 37 (.tmp 12) (.pointer (some ⟨w.heap.size, 21, none⟩)) (.agg (claimA i.claim)) ?_ ?_ ?_ ?_ ?_; rfl; rfl; rfl; exact hClaim _) | (refine wpList_load_run 46 (.tmp 16) (.pointer (some ⟨w.heap.size, 30, none⟩)) (.agg (ballotA i.ballot)) ?_ ?_ ?_ ?_ ?_; rfl; rfl; rfl; exact hBallot _) | (refine wpList_load_run 48 (.tmp 20) (.pointer (some ⟨w.heap.size, 37, none⟩)) (.agg (decA i.dec)) ?_ ?_ ?_ ?_ ?_; rfl; rfl; rfl; exact hDecision _) | (refine wpList_build_run 44 _ #[] (.agg (actA act0)) rfl ?_ ?_ (zAct _) ?_; rfl; (simp; done)) | (refine wpList_build_run 37 _ #[] (.agg (claimA claim0)) rfl ?_ ?_ (zClaim _) ?_; rfl; (simp; done)) | (refine wpList_build_run 46 _ #[] (.agg (ballotA ballot0)) rfl ?_ ?_ (zBallot _) ?_; rfl; (simp; done)) | (refine wpList_build_run 48 _ #[] (.agg (decA dec0)) rfl ?_ ?_ (zDecision _) ?_; rfl; (simp; done)) | (go_at_call 133; refine (ractSame_any i.act act0 _ (hI' _).act (act0_in _)).mono ?_; rintro e w' ⟨rfl, hq2⟩; obtain ⟨y, rfl⟩ := Wd.next _ hq2; clear hq2) | (go_at_call 134; refine (rdecSame_any i.dec dec0 _ (hI' _).dec (dec0_in _)).mono ?_; rintro e w' ⟨rfl, hq2⟩; obtain ⟨y, rfl⟩ := Wd.next _ hq2; clear hq2))
  all_goals
    go_ret
    refine ⟨?_, Q.trans hq1 (Wd.q _)⟩
    rw [HR.out]
    rfl
theorem rright_any (i : ItemR) (w : World) (hI : ItemIn w i) (ho : ItemOk i) : Calls Tryz.prog 191 #[.agg (itA i)] w fun e w' => e = .returned (.bool (itemRight i)) ∧ Q w w' := by
  by_cases k0 : i.kind = 0
  · exact rright_0 i w hI ho k0
  by_cases k1 : i.kind = 1
  · exact rright_1 i w hI ho k1
  by_cases k2 : i.kind = 2
  · exact rright_2 i w hI ho k2
  by_cases k3 : i.kind = 3
  · exact rright_3 i w hI ho k3
  exact rright_no i w hI ho k0 k1 k2 k3
set_option maxRecDepth 100000 in
set_option maxHeartbeats 4000000 in
theorem rbytes_no (i : ItemR) (w : World) (hI : ItemIn w i) (ho : ItemOk i) (h : itemRight i = false)  : Calls Tryz.prog 120 #[.agg (itA i)] w fun e w' => e = .returned (.string (itemBytes i)) ∧ Q w w' := by
  obtain ⟨w1, x, hx, hq1, hl, hr⟩ := boxed w 50 i.cells
  have hx : w.alloc (.cells (itA i) 50) = x.w := hx
  have hIt : ∀ y : Wd w1, (Instr.loadAt 50 (.pointer (some ⟨w.heap.size, 0, none⟩))).run Tryz.prog y.w = .ok (.agg (itA i)) y.w := Wd.load hl hr Tryz.underlying50 rfl (by kernel_rfl)
  have hI' : ∀ y : Wd w1, ItemIn y.w i := fun y => hI.q (Q.trans hq1 y.q)
  have HR : Hid (itemBytes i = ⟨#[]⟩) := Lib.hid (by unfold itemBytes; rw [h]; rfl)
  clear hr
  go_enter Tryz.func120, Tryz.ntmps120
  go_wp2_with (first | (refine wpList_load_run 50 (.tmp 1) (.pointer (some ⟨w.heap.size, 0, none⟩)) (.agg (itA i)) ?_ ?_ ?_ ?_ ?_; rfl; rfl; rfl; exact hIt _) | (go_at_call 191; refine (rright_any i _ (hI' _) ho).mono ?_; rintro e w' ⟨rfl, hq2⟩; obtain ⟨y, rfl⟩ := Wd.next _ hq2; clear hq2))
  go_ret
  exact ⟨by rw [HR.out]; rfl, Q.trans hq1 (Wd.q _)⟩
theorem cat_flat (n : Int) (l : List UInt8) (e s : Int) : ((numB n ++ (⟨l.toArray⟩ : ByteArray)) ++ (numB e ++ numB s)) = ⟨(numL n ++ (l ++ (numL e ++ numL s))).toArray⟩ := by
  apply ba_ext
  rw [ba_list]
  simp only [ba_append, ba_list, numL_eq, List.append_assoc]
set_option maxRecDepth 100000 in
set_option maxHeartbeats 4000000 in
theorem rbytes_act (i : ItemR) (w : World) (hI : ItemIn w i) (ho : ItemOk i) (h : itemRight i = true) (hk : i.kind = 0) : Calls Tryz.prog 120 #[.agg (itA i)] w fun e w' => e = .returned (.string (itemBytes i)) ∧ Q w w' := by
  obtain ⟨w1, x, hx, hq1, hl, hr⟩ := boxed w 50 i.cells
  have hx : w.alloc (.cells (itA i) 50) = x.w := hx
  have hIt : ∀ y : Wd w1, (Instr.loadAt 50 (.pointer (some ⟨w.heap.size, 0, none⟩))).run Tryz.prog y.w = .ok (.agg (itA i)) y.w := Wd.load hl hr Tryz.underlying50 rfl (by kernel_rfl)
  have hI' : ∀ y : Wd w1, ItemIn y.w i := fun y => hI.q (Q.trans hq1 y.q)
  have c0 := Wd.at0 hl hr 0 rfl
  rw [hk] at c0
  have hAct := item_act hl hr
  have hra := right_actB h hk
  have hab := actBytes_le hra
  have hn := numB_size 0
  have hsz : (numB 0).size + (actBytes i.act).size ≤ 9223372036854775807 := by omega
  have HR : Hid (numB 0 ++ actBytes i.act = itemBytes i) := Lib.hid (by unfold itemBytes itemBytesL; rw [h, if_pos rfl, if_pos hk, hk]; apply ba_ext; rw [ba_append, ba_list]; rfl)
  clear hr hk hra
  go_enter Tryz.func120, Tryz.ntmps120
  go_wp2_with (first | (refine wpList_load_run 50 (.tmp 1) (.pointer (some ⟨w.heap.size, 0, none⟩)) (.agg (itA i)) ?_ ?_ ?_ ?_ ?_; rfl; rfl; rfl; exact hIt _) | (go_at_call 191; refine (rright_any i _ (hI' _) ho).mono ?_; rintro e w' ⟨rfl, hq2⟩; obtain ⟨y, rfl⟩ := Wd.next _ hq2; clear hq2) | (go_at_call 192; refine (RNum_any _ _ (by omega)).mono ?_; rintro e w' ⟨rfl, hq2⟩; obtain ⟨y, rfl⟩ := Wd.next _ hq2; clear hq2) | (refine wpList_load_run 44 (.tmp 17) (.pointer (some ⟨w.heap.size, 1, none⟩)) (.agg (actA i.act)) ?_ ?_ ?_ ?_ ?_; rfl; rfl; rfl; exact hAct _) | (go_at_call 193; refine (ractBytes_any i.act _ (hI' _).act ho.act).mono ?_; rintro e w' ⟨rfl, hq2⟩; obtain ⟨y, rfl⟩ := Wd.next _ hq2; clear hq2))
  go_ret
  exact ⟨by rw [← HR.out]; rfl, Q.trans hq1 (Wd.q _)⟩
set_option maxRecDepth 100000 in
set_option maxHeartbeats 4000000 in
theorem rbytes_claim (i : ItemR) (w : World) (hI : ItemIn w i) (ho : ItemOk i) (h : itemRight i = true) (hk : i.kind = 1) : Calls Tryz.prog 120 #[.agg (itA i)] w fun e w' => e = .returned (.string (itemBytes i)) ∧ Q w w' := by
  obtain ⟨w1, x, hx, hq1, hl, hr⟩ := boxed w 50 i.cells
  have hx : w.alloc (.cells (itA i) 50) = x.w := hx
  have hIt : ∀ y : Wd w1, (Instr.loadAt 50 (.pointer (some ⟨w.heap.size, 0, none⟩))).run Tryz.prog y.w = .ok (.agg (itA i)) y.w := Wd.load hl hr Tryz.underlying50 rfl (by kernel_rfl)
  have hI' : ∀ y : Wd w1, ItemIn y.w i := fun y => hI.q (Q.trans hq1 y.q)
  have c0 := Wd.at0 hl hr 0 rfl
  rw [hk] at c0
  have ce := Wd.at0 hl hr 28 rfl
  have cs := Wd.at0 hl hr 29 rfl
  have hClaim := item_claim hl hr
  have sm := small_claim (show claimRight i.claim = true by unfold itemRight at h; simp [hk] at h; exact h.1)
  have hil := itemL_le i (small_right h (by omega))
  have hse : (sigV i).1 ≤ 9223372036854775807 ∧ (sigV i).2 ≤ 9223372036854775807 := sig_le h (by omega)
  have HR : Hid (((numB 1 ++ (⟨(claimL i.claim).toArray⟩ : ByteArray)) ++ (numB i.claim.e ++ numB i.claim.s)) = itemBytes i) := Lib.hid (by rw [cat_flat]; unfold itemBytes itemBytesL itemL sigV; simp [h, hk])
  have hil : (⟨(claimL i.claim).toArray⟩ : ByteArray).size ≤ 110000000 := by rw [ba_size]; unfold itemL at hil; simpa [hk] using hil
  have hse : i.claim.e ≤ 9223372036854775807 ∧ i.claim.s ≤ 9223372036854775807 := by unfold sigV at hse; simpa [hk] using hse
  have hCo : ∀ y : Wd w1, Calls Tryz.prog 194 #[.agg (claimA i.claim)] y.w fun e w' => e = .returned (.string (⟨(claimL i.claim).toArray⟩ : ByteArray)) ∧ Q y.w w' := fun y => rcoreClaim_any i.claim y.w sm.1 sm.2.1 ⟨sm.2.2 _ (by simp), sm.2.2 _ (by simp), sm.2.2 _ (by simp), sm.2.2 _ (by simp), sm.2.2 _ (by simp)⟩
  have hSi : ∀ y : Wd w1, Calls Tryz.prog 195 #[.agg #[.int .i64 i.claim.e, .int .i64 i.claim.s]] y.w fun e w' => e = .returned (.string (numB i.claim.e ++ numB i.claim.s)) ∧ Q y.w w' := fun y => rsigBytes_any _ _ y.w hse.1 hse.2
  have n0 := numB_size 1
  have n1 : (numB i.claim.e ++ numB i.claim.s).size ≤ 20 := by have := numB_size i.claim.e; have := numB_size i.claim.s; rw [ByteArray.size_append]; omega
  generalize (⟨(claimL i.claim).toArray⟩ : ByteArray) = X at *
  generalize numB i.claim.e ++ numB i.claim.s = Y at *
  have f1 : (numB 1).size + X.size ≤ 9223372036854775807 := by omega
  have f2 : (numB 1).size + X.size + Y.size ≤ 9223372036854775807 := by omega
  clear hr hk
  go_enter Tryz.func120, Tryz.ntmps120
  go_wp2_with (first | (refine wpList_load_run 50 (.tmp 1) (.pointer (some ⟨w.heap.size, 0, none⟩)) (.agg (itA i)) ?_ ?_ ?_ ?_ ?_; rfl; rfl; rfl; exact hIt _) | (go_at_call 191; refine (rright_any i _ (hI' _) ho).mono ?_; rintro e w' ⟨rfl, hq2⟩; obtain ⟨y, rfl⟩ := Wd.next _ hq2; clear hq2) | (go_at_call 192; refine (RNum_any _ _ (by omega)).mono ?_; rintro e w' ⟨rfl, hq2⟩; obtain ⟨y, rfl⟩ := Wd.next _ hq2; clear hq2))
  refine wp_region_wd _ (by kernel_rfl) (by kernel_rfl) ?_
  repeat (first | (refine wpQuiet_load_run 37 (.tmp 24) (.pointer (some ⟨w.heap.size, 21, none⟩)) (.agg (claimA i.claim)) ?_ ?_ ?_ ?_ ?_; rfl; rfl; rfl; exact hClaim; dsimp only [Act.put]; simp only [List.setIfInBounds_toArray, List.set_cons_succ, List.set_cons_zero]) | go_big_quiet_step (first | with_reducible exact Wd.call _ (hCo _) | with_reducible exact Wd.call _ (hSi _)))
  refine wpQuiet_nil ?_
  rintro w'' ⟨z, rfl⟩
  go_wp2
  go_ret
  exact ⟨by rw [← HR.out]; rfl, Q.trans hq1 z.q⟩
set_option maxRecDepth 100000 in
set_option maxHeartbeats 4000000 in
theorem rbytes_ballot (i : ItemR) (w : World) (hI : ItemIn w i) (ho : ItemOk i) (h : itemRight i = true) (hk : i.kind = 2) : Calls Tryz.prog 120 #[.agg (itA i)] w fun e w' => e = .returned (.string (itemBytes i)) ∧ Q w w' := by
  obtain ⟨w1, x, hx, hq1, hl, hr⟩ := boxed w 50 i.cells
  have hx : w.alloc (.cells (itA i) 50) = x.w := hx
  have hIt : ∀ y : Wd w1, (Instr.loadAt 50 (.pointer (some ⟨w.heap.size, 0, none⟩))).run Tryz.prog y.w = .ok (.agg (itA i)) y.w := Wd.load hl hr Tryz.underlying50 rfl (by kernel_rfl)
  have hI' : ∀ y : Wd w1, ItemIn y.w i := fun y => hI.q (Q.trans hq1 y.q)
  have c0 := Wd.at0 hl hr 0 rfl
  rw [hk] at c0
  have ce := Wd.at0 hl hr 35 rfl
  have cs := Wd.at0 hl hr 36 rfl
  have hBallot := item_ballot hl hr
  have sm := small_ballot (show ballotRight i.ballot = true by unfold itemRight at h; simp [hk] at h; exact h.1)
  have hil := itemL_le i (small_right h (by omega))
  have hse : (sigV i).1 ≤ 9223372036854775807 ∧ (sigV i).2 ≤ 9223372036854775807 := sig_le h (by omega)
  have HR : Hid (((numB 2 ++ (⟨(ballotL i.ballot).toArray⟩ : ByteArray)) ++ (numB i.ballot.e ++ numB i.ballot.s)) = itemBytes i) := Lib.hid (by rw [cat_flat]; unfold itemBytes itemBytesL itemL sigV; simp [h, hk])
  have hil : (⟨(ballotL i.ballot).toArray⟩ : ByteArray).size ≤ 110000000 := by rw [ba_size]; unfold itemL at hil; simpa [hk] using hil
  have hse : i.ballot.e ≤ 9223372036854775807 ∧ i.ballot.s ≤ 9223372036854775807 := by unfold sigV at hse; simpa [hk] using hse
  have hCo : ∀ y : Wd w1, Calls Tryz.prog 196 #[.agg (ballotA i.ballot)] y.w fun e w' => e = .returned (.string (⟨(ballotL i.ballot).toArray⟩ : ByteArray)) ∧ Q y.w w' := fun y => rcoreBallot_any i.ballot y.w sm.1 sm.2.1 ⟨sm.2.2 _ (by simp), sm.2.2 _ (by simp), sm.2.2 _ (by simp)⟩
  have hSi : ∀ y : Wd w1, Calls Tryz.prog 195 #[.agg #[.int .i64 i.ballot.e, .int .i64 i.ballot.s]] y.w fun e w' => e = .returned (.string (numB i.ballot.e ++ numB i.ballot.s)) ∧ Q y.w w' := fun y => rsigBytes_any _ _ y.w hse.1 hse.2
  have n0 := numB_size 2
  have n1 : (numB i.ballot.e ++ numB i.ballot.s).size ≤ 20 := by have := numB_size i.ballot.e; have := numB_size i.ballot.s; rw [ByteArray.size_append]; omega
  generalize (⟨(ballotL i.ballot).toArray⟩ : ByteArray) = X at *
  generalize numB i.ballot.e ++ numB i.ballot.s = Y at *
  have f1 : (numB 2).size + X.size ≤ 9223372036854775807 := by omega
  have f2 : (numB 2).size + X.size + Y.size ≤ 9223372036854775807 := by omega
  clear hr hk
  go_enter Tryz.func120, Tryz.ntmps120
  go_wp2_with (first | (refine wpList_load_run 50 (.tmp 1) (.pointer (some ⟨w.heap.size, 0, none⟩)) (.agg (itA i)) ?_ ?_ ?_ ?_ ?_; rfl; rfl; rfl; exact hIt _) | (go_at_call 191; refine (rright_any i _ (hI' _) ho).mono ?_; rintro e w' ⟨rfl, hq2⟩; obtain ⟨y, rfl⟩ := Wd.next _ hq2; clear hq2) | (go_at_call 192; refine (RNum_any _ _ (by omega)).mono ?_; rintro e w' ⟨rfl, hq2⟩; obtain ⟨y, rfl⟩ := Wd.next _ hq2; clear hq2))
  refine wp_region_wd _ (by kernel_rfl) (by kernel_rfl) ?_
  repeat (first | (refine wpQuiet_load_run 46 (.tmp 36) (.pointer (some ⟨w.heap.size, 30, none⟩)) (.agg (ballotA i.ballot)) ?_ ?_ ?_ ?_ ?_; rfl; rfl; rfl; exact hBallot; dsimp only [Act.put]; simp only [List.setIfInBounds_toArray, List.set_cons_succ, List.set_cons_zero]) | go_big_quiet_step (first | with_reducible exact Wd.call _ (hCo _) | with_reducible exact Wd.call _ (hSi _)))
  refine wpQuiet_nil ?_
  rintro w'' ⟨z, rfl⟩
  go_wp2
  go_ret
  exact ⟨by rw [← HR.out]; rfl, Q.trans hq1 z.q⟩
set_option maxRecDepth 100000 in
set_option maxHeartbeats 4000000 in
theorem rbytes_dec (i : ItemR) (w : World) (hI : ItemIn w i) (ho : ItemOk i) (h : itemRight i = true) (hk : i.kind = 3) : Calls Tryz.prog 120 #[.agg (itA i)] w fun e w' => e = .returned (.string (itemBytes i)) ∧ Q w w' := by
  obtain ⟨w1, x, hx, hq1, hl, hr⟩ := boxed w 50 i.cells
  have hx : w.alloc (.cells (itA i) 50) = x.w := hx
  have hIt : ∀ y : Wd w1, (Instr.loadAt 50 (.pointer (some ⟨w.heap.size, 0, none⟩))).run Tryz.prog y.w = .ok (.agg (itA i)) y.w := Wd.load hl hr Tryz.underlying50 rfl (by kernel_rfl)
  have hI' : ∀ y : Wd w1, ItemIn y.w i := fun y => hI.q (Q.trans hq1 y.q)
  have c0 := Wd.at0 hl hr 0 rfl
  rw [hk] at c0
  have ce := Wd.at0 hl hr 47 rfl
  have cs := Wd.at0 hl hr 48 rfl
  have hDecision := item_dec hl hr
  have sm := small_dec (show decRight i.dec = true by unfold itemRight at h; simp [hk] at h; exact h.1)
  have hil := itemL_le i (small_right h (by omega))
  have hse : (sigV i).1 ≤ 9223372036854775807 ∧ (sigV i).2 ≤ 9223372036854775807 := sig_le h (by omega)
  have HR : Hid (((numB 3 ++ (⟨(decL i.dec).toArray⟩ : ByteArray)) ++ (numB i.dec.e ++ numB i.dec.s)) = itemBytes i) := Lib.hid (by rw [cat_flat]; unfold itemBytes itemBytesL itemL sigV; simp [h, hk])
  have hil : (⟨(decL i.dec).toArray⟩ : ByteArray).size ≤ 110000000 := by rw [ba_size]; unfold itemL at hil; simpa [hk] using hil
  have hse : i.dec.e ≤ 9223372036854775807 ∧ i.dec.s ≤ 9223372036854775807 := by unfold sigV at hse; simpa [hk] using hse
  have hCo : ∀ y : Wd w1, Calls Tryz.prog 197 #[.agg (decA i.dec)] y.w fun e w' => e = .returned (.string (⟨(decL i.dec).toArray⟩ : ByteArray)) ∧ Q y.w w' := fun y => rcoreDec_any i.dec y.w (hI' y).dec ⟨sm.1, sm.2.1, sm.2.2.1⟩ sm.2.2.2.2.2 sm.2.2.2.2.1 ⟨sm.2.2.2.1 _ (by simp), sm.2.2.2.1 _ (by simp), sm.2.2.2.1 _ (by simp), sm.2.2.2.1 _ (by simp), sm.2.2.2.1 _ (by simp), sm.2.2.2.1 _ (by simp)⟩
  have hSi : ∀ y : Wd w1, Calls Tryz.prog 195 #[.agg #[.int .i64 i.dec.e, .int .i64 i.dec.s]] y.w fun e w' => e = .returned (.string (numB i.dec.e ++ numB i.dec.s)) ∧ Q y.w w' := fun y => rsigBytes_any _ _ y.w hse.1 hse.2
  have n0 := numB_size 3
  have n1 : (numB i.dec.e ++ numB i.dec.s).size ≤ 20 := by have := numB_size i.dec.e; have := numB_size i.dec.s; rw [ByteArray.size_append]; omega
  generalize (⟨(decL i.dec).toArray⟩ : ByteArray) = X at *
  generalize numB i.dec.e ++ numB i.dec.s = Y at *
  have f1 : (numB 3).size + X.size ≤ 9223372036854775807 := by omega
  have f2 : (numB 3).size + X.size + Y.size ≤ 9223372036854775807 := by omega
  clear hr hk
  go_enter Tryz.func120, Tryz.ntmps120
  go_wp2_with (first | (refine wpList_load_run 50 (.tmp 1) (.pointer (some ⟨w.heap.size, 0, none⟩)) (.agg (itA i)) ?_ ?_ ?_ ?_ ?_; rfl; rfl; rfl; exact hIt _) | (go_at_call 191; refine (rright_any i _ (hI' _) ho).mono ?_; rintro e w' ⟨rfl, hq2⟩; obtain ⟨y, rfl⟩ := Wd.next _ hq2; clear hq2) | (go_at_call 192; refine (RNum_any _ _ (by omega)).mono ?_; rintro e w' ⟨rfl, hq2⟩; obtain ⟨y, rfl⟩ := Wd.next _ hq2; clear hq2))
  refine wp_region_wd _ (by kernel_rfl) (by kernel_rfl) ?_
  repeat (first | (refine wpQuiet_load_run 48 (.tmp 46) (.pointer (some ⟨w.heap.size, 37, none⟩)) (.agg (decA i.dec)) ?_ ?_ ?_ ?_ ?_; rfl; rfl; rfl; exact hDecision; dsimp only [Act.put]; simp only [List.setIfInBounds_toArray, List.set_cons_succ, List.set_cons_zero]) | go_big_quiet_step (first | with_reducible exact Wd.call _ (hCo _) | with_reducible exact Wd.call _ (hSi _)))
  refine wpQuiet_nil ?_
  rintro w'' ⟨z, rfl⟩
  go_wp2
  go_ret
  exact ⟨by rw [← HR.out]; rfl, Q.trans hq1 z.q⟩
theorem rbytes_any (i : ItemR) (w : World) (hI : ItemIn w i) (ho : ItemOk i) : Calls Tryz.prog 120 #[.agg (itA i)] w fun e w' => e = .returned (.string (itemBytes i)) ∧ Q w w' := by
  cases h : itemRight i
  · exact rbytes_no i w hI ho h
  · have hk := right_kind h
    rcases (show i.kind = 0 ∨ i.kind = 1 ∨ i.kind = 2 ∨ i.kind = 3 by omega) with k | k | k | k
    · exact rbytes_act i w hI ho h k
    · exact rbytes_claim i w hI ho h k
    · exact rbytes_ballot i w hI ho h k
    · exact rbytes_dec i w hI ho h k
set_option maxHeartbeats 2000000 in
theorem rdigest_any (i : ItemR) (w : World) (hI : ItemIn w i) (ho : ItemOk i) : Calls Tryz.prog 65 #[.agg (itA i)] w fun e w' => e = .returned (.string (digOf i)) ∧ Q w w' := by
  obtain ⟨w1, x, hx, hq1, hl, hr⟩ := boxed w 50 i.cells
  have hx : w.alloc (.cells (itA i) 50) = x.w := hx
  have hIt : ∀ y : Wd w1, (Instr.loadAt 50 (.pointer (some ⟨w.heap.size, 0, none⟩))).run Tryz.prog y.w = .ok (.agg (itA i)) y.w := Wd.load hl hr Tryz.underlying50 rfl (by kernel_rfl)
  have hI' : ∀ y : Wd w1, ItemIn y.w i := fun y => hI.q (Q.trans hq1 y.q)
  have hem := itemBytes_empty i
  have hle := itemBytes_le i
  clear hr
  cases h : itemRight i
  all_goals
    rw [h] at hem
    have HR := Lib.hid (show digOf i = if itemRight i then sha (itemBytes i) else emptyT from rfl)
    rw [h] at HR
    have hem2 : ((itemBytes i).toList == []) = _ := (show ((itemBytes i).toList == []) = (itemBytes i).toList.isEmpty by cases (itemBytes i).toList <;> rfl).trans hem
    go_enter Tryz.func65, Tryz.ntmps65
    go_wp2_with (first | (refine wpList_load_run 50 (.tmp 1) (.pointer (some ⟨w.heap.size, 0, none⟩)) (.agg (itA i)) ?_ ?_ ?_ ?_ ?_; rfl; rfl; rfl; exact hIt _) | (go_at_call 120; refine (rbytes_any i _ (hI' _) ho).mono ?_; rintro e w' ⟨rfl, hq2⟩; obtain ⟨y, rfl⟩ := Wd.next _ hq2; clear hq2) | (go_at_call 121; refine (RSha_any _ _ (by omega)).mono ?_; rintro e w' ⟨rfl, hq2⟩; obtain ⟨y, rfl⟩ := Wd.next _ hq2; clear hq2))
    go_ret
    exact ⟨by rw [HR.out]; rfl, Q.trans hq1 (Wd.q _)⟩
end Go.Proofs.YtflgkplneekpfaaGreatDoor.Item
