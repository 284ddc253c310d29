/-
  The contracts of package agoraref11's in, Right, Name and Ids.
  The contracts of package agoraref12's small tests.
  The contracts of package agoraref12's bare, fits and Right.
  The contract of agoraref12.fits, kinds 0 to 6, 13, 14, 20 (printed by gen_fits.py).
-/
import Derived.Test.YtomkeaeegdjhnaaGreatDoorOks
import Derived.Test.YtomkeaeegdjhnaaGreatDoorIdent2
import Derived.Test.YtomkeaeegdjhnaaGreatDoorActB
import Derived.Test.YtomkeaeegdjhnaaGreatDoorActSmall
import Derived.Test.YtomkeaeegdjhnaaGreatDoorActE
import Derived.Test.YtomkeaeegdjhnaaGreatDoorRuns
import Derived.Test.YtomkeaeegdjhnaaGreatDoorItemZ
import Derived.Deep.Cut
set_option linter.unusedVariables false
set_option linter.unusedSimpArgs false
namespace Go.Proofs.YtomkeaeegdjhnaaGreatDoor.Item
open Go.RowKit Grp Mem _root_.Go.Proofs.YtomkeaeegdjhnaaGreatDoor.Code Sha Sign

def inI (c lo hi : Int) : Bool := decide (lo ≤ c) && decide (c ≤ hi)
theorem rin_any (c lo hi : Int) (w : World) : Calls Tryz.prog 253 #[.int .u8 c, .int .u8 lo, .int .u8 hi] w fun e w' => e = .returned (.bool (inI c lo hi)) ∧ w = w' := by
  by_cases h : lo ≤ c
  · go_enter Tryz.func253, Tryz.ntmps253
    go_wp2
    go_ret
    exact ⟨by simp [inI, h], rfl⟩
  · have h2 : decide (lo ≤ c) = false := by simpa using h
    go_enter Tryz.func253, Tryz.ntmps253
    go_wp2
    go_ret
    exact ⟨by simp [inI, h2], rfl⟩

theorem len_eqI (s : ByteArray) (n : Nat) : ((s.size : Int) == (n : Int)) = decide (s.size = n) := by
  rw [Bool.eq_iff_iff]
  simp
  omega

set_option maxHeartbeats 1000000 in
theorem ridRight_any (s : ByteArray) (w : World) (hs : s.size ≤ maxLen) : Calls Tryz.prog 223 #[.string s] w fun e w' => e = .returned (.bool (idB s)) ∧ w = w' := by
  have hml : maxLen ≤ 9223372036854775807 := by decide
  go_enter Tryz.func223, Tryz.ntmps223
  go_wp2_with fail
  go_loopw [3] (fun i wr => ∃ k : Nat, i = .int .i64 k ∧ k ≤ s.size ∧ Hid ((s.data.toList.take k).all hexC = true) ∧ wr = w) (fun i _ => s.size - (intOf i).toNat)
  case atStart => exact ⟨0, rfl, Nat.zero_le _, Lib.hid (by simp), rfl⟩
  case round =>
    obtain ⟨k, rfl, hk, hall, rfl⟩ := hrel
    by_cases hp : k < s.size
    · have hb : s[k].toNat < 256 := s[k].toNat_lt
      have hst : Hid ((s.data.toList.take (k + 1)).all hexC = hexC s[k]) := Lib.hid (by rw [take_all_snoc s hexC k hp, hall.out]; rfl)
      have hres := Lib.hid (fun hx => idB_no s (fun _ => all_of_not s hexC k hp hx))
      have hx : Hid (hexC s[k] = (inI (s[k].toNat : Int) 48 57 || inI (s[k].toNat : Int) 97 102)) := Lib.hid (by
        unfold hexC inI
        rw [Bool.eq_iff_iff]
        simp only [Bool.or_eq_true, Bool.and_eq_true, decide_eq_true_eq]
        omega)
      clear hall
      go_wp2_with (go_at_call 253; refine (rin_any _ _ _ _).mono ?_; rintro e w' ⟨rfl, rfl⟩)
      all_goals
        first
          | (go_ret
             exact ⟨by rw [hres.out (by rw [hx.out]; simp_all)]; rfl, rfl⟩)
          | exact ⟨⟨k + 1, by go_num, by omega, Lib.hid (by rw [hst.out, hx.out]; simp_all), by trivial⟩, by simp only [intOf]; omega⟩
    · have hres : Hid (idB s = decide (s.size = 16)) := by
        refine Lib.hid ?_
        have := hall.out
        rw [List.take_of_length_le (by rw [ba_length]; omega)] at this
        simp [idB, this]
      clear hall
      go_wp2
      go_ret
      exact ⟨by rw [hres.out, ← len_eqI s 16]; rfl, rfl⟩

theorem name_step' (s : ByteArray) (k : Nat) (h : k < s.size) (hk : 0 < k → nameL (s.data.toList.take k) = true) :
    ((if k = 0 then lowC s[k] else tailC s[k]) = true → nameL (s.data.toList.take (k + 1)) = true) ∧ ((if k = 0 then lowC s[k] else tailC s[k]) = false → nameB s = false) := by
  by_cases h24 : s.size ≤ 24
  · exact name_step s k h hk h24
  · refine ⟨fun h1 => ?_, fun _ => nameB_long s (by omega)⟩
    have hl : k < s.data.toList.length := by rw [ba_length]; exact h
    have hg : s.data.toList[k] = s[k] := rfl
    rw [List.take_succ_eq_append_getElem hl, hg]
    by_cases h0 : k = 0
    · subst h0
      simpa [nameL] using h1
    · rw [nameL_snoc _ _ (by intro hn; have := congrArg List.length hn; rw [List.length_take, List.length_nil] at this; omega), hk (by omega)]
      rw [if_neg h0] at h1
      rw [h1]
      rfl
set_option maxHeartbeats 2000000 in
theorem rname_any (s : ByteArray) (w : World) (hs : s.size ≤ maxLen) : Calls Tryz.prog 255 #[.string s] w fun e w' => e = .returned (.bool (nameB s)) ∧ w = w' := by
  have hml : maxLen ≤ 9223372036854775807 := by decide
  go_enter Tryz.func255, Tryz.ntmps255
  go_wp2_with fail
  go_loopw [3] (fun i wr => ∃ k : Nat, i = .int .i64 k ∧ k ≤ s.size ∧ Hid (0 < k → nameL (s.data.toList.take k) = true) ∧ wr = w) (fun i _ => s.size - (intOf i).toNat)
  case atStart => exact ⟨0, rfl, Nat.zero_le _, Lib.hid (by simp), rfl⟩
  case round =>
    obtain ⟨k, rfl, hk, hall, rfl⟩ := hrel
    by_cases hp : k < s.size
    · have hb : s[k].toNat < 256 := s[k].toNat_lt
      have hst := Lib.hid (name_step' s k hp hall.out)
      have hx : Hid ((if k = 0 then lowC s[k] else tailC s[k]) = (inI (s[k].toNat : Int) 97 122 || (!decide ((k : Int) = 0) && (inI (s[k].toNat : Int) 48 57 || decide ((s[k].toNat : Int) = 95))))) := Lib.hid (by
        by_cases h0 : k = 0
        · rw [if_pos h0, show decide ((k : Int) = 0) = true by simp [h0]]
          unfold lowC inI
          rw [Bool.eq_iff_iff]
          simp only [Bool.or_eq_true, Bool.and_eq_true, decide_eq_true_eq, Bool.not_true, Bool.false_and, Bool.false_eq_true, or_false]
          omega
        · rw [if_neg h0, show decide ((k : Int) = 0) = false by simp [h0]]
          unfold tailC lowC inI
          rw [Bool.eq_iff_iff]
          simp only [Bool.or_eq_true, Bool.and_eq_true, decide_eq_true_eq, Bool.not_false, true_and]
          omega)
      clear hall
      go_wp2_with (go_at_call 253; refine (rin_any _ _ _ _).mono ?_; rintro e w' ⟨rfl, rfl⟩)
      all_goals
        first
          | (go_ret
             exact ⟨by rw [hst.out.2 (by rw [hx.out]; simp_all)]; rfl, rfl⟩)
          | exact ⟨⟨k + 1, by go_num, by omega, Lib.hid fun _ => (hst.out.1 (by rw [hx.out]; simp_all)), by trivial⟩, by simp only [intOf]; omega⟩
    · have hres : Hid (nameB s = (decide (1 ≤ (s.size : Int)) && decide ((s.size : Int) ≤ 24))) := by
        refine Lib.hid ?_
        by_cases h0 : 0 < s.size
        · have := hall.out (by omega)
          rw [List.take_of_length_le (by rw [ba_length]; omega)] at this
          rw [nameB, this, Bool.and_true, show decide (1 ≤ (s.size : Int)) = true by simp; omega, Bool.true_and, decide_eq_decide]
          omega
        · rw [nameB_empty s h0, show decide (1 ≤ (s.size : Int)) = false by simp; omega, Bool.false_and]
      clear hall
      by_cases h1 : 1 ≤ (s.size : Int)
      · go_wp2
        go_ret
        exact ⟨by rw [hres.out]; simp [h1], rfl⟩
      · have h2 : decide (1 ≤ (s.size : Int)) = false := by simpa using h1
        go_wp2
        go_ret
        exact ⟨by rw [hres.out]; simp [h2], rfl⟩

set_option maxHeartbeats 2000000 in
theorem rids_any (A : Option Addr) (c : Nat) (l : List ByteArray) (w : World) (hS : Strs w A l) (hc : l.length ≤ 9223372036854775807) (hz : ∀ s ∈ l, s.size ≤ maxLen) : Calls Tryz.prog 227 #[.slice A l.length c] w fun e w' => e = .returned (.bool (idsB l)) ∧ Q w w' := by
  go_enter Tryz.func227, Tryz.ntmps227
  go_wp2_with fail
  go_loopw [3] (fun i wr => ∃ k : Nat, i = .int .i64 k ∧ k ≤ l.length ∧ Hid (idsTo (l.take k) = true) ∧ Q w wr) (fun i _ => l.length - (intOf i).toNat)
  case atStart => exact ⟨0, rfl, Nat.zero_le _, Lib.hid rfl, Q.refl _⟩
  case round =>
    obtain ⟨k, rfl, hk, hto, hq⟩ := hrel
    by_cases hlt : k < l.length
    · obtain ⟨w1, x, rfl, hq1⟩ := Wd.enter hq
      obtain ⟨b, o, rfl, hb, hcell⟩ := (hS.q hq1) (by omega)
      have hst := idsTo_step l k hlt
      rw [hto.out, Bool.true_and] at hst
      have hzk := hz l[k] (List.getElem_mem hlt)
      have c1 : ∀ y : Wd w1, y.w.cell? ⟨b, o + k, none⟩ = some (.string l[k]) := fun y => (y.cell hb).trans (hcell k hlt)
      have HF := Lib.hid (idsTo_false l (k + 1))
      have hcal : ∀ y : Wd w1, Calls Tryz.prog 223 #[.string l[k]] y.w fun e w' => e = .returned (.bool (idB l[k])) ∧ y.w = w' := fun y => ridRight_any _ _ hzk
      cases hid : idB l[k] with
      | false =>
        rw [hid] at hcal hst
        have HST : Hid (idsTo (l.take (k + 1)) = false) := Lib.hid (by rw [hst]; rfl)
        clear hst hcell hto hid hzk
        generalize l[k] = z at *
        go_wp2_with fail
        refine wp_region_wd x (by kernel_rfl) (by kernel_rfl) ?_
        repeat (go_big_quiet_step (exact Wd.calm _ (hcal _)))
        refine wpQuiet_nil ?_
        rintro w'' ⟨y, rfl⟩
        go_wp2
        go_ret
        exact ⟨by rw [HF.out HST.out]; rfl, Q.trans hq1 y.q⟩
      | true =>
        rw [hid] at hcal hst
        by_cases h0 : k = 0
        · have n0 : ¬ 0 < k := by omega
          have HST : Hid (idsTo (l.take (k + 1)) = true) := Lib.hid (by rw [hst]; simp [h0])
          clear hst hcell hto hid hzk h0
          generalize l[k] = z at *
          go_wp2_with fail
          refine wp_region_wd x (by kernel_rfl) (by kernel_rfl) ?_
          repeat (go_big_quiet_step (exact Wd.calm _ (hcal _)))
          refine wpQuiet_nil ?_
          rintro w'' ⟨y, rfl⟩
          go_wp2
          exact ⟨⟨k + 1, by go_num, by omega, HST, Q.trans hq1 y.q⟩, by simp only [intOf]; omega⟩
        · have hk1 : (k : Int) - 1 < (l.length : Int) := by omega
          have hk2 : (0 : Int) ≤ (k : Int) - 1 := by omega
          have n0 : 0 < k := by omega
          have c2 : ∀ y : Wd w1, y.w.cell? ⟨b, o + (k - 1), none⟩ = some (.string (l.getD (k - 1) ⟨#[]⟩)) := fun y => by
            rw [y.cell hb, hcell (k - 1) (by omega), List.getD_eq_getElem?_getD, List.getElem?_eq_getElem (by omega)]
            rfl
          have HST : Hid (idsTo (l.take (k + 1)) = lessB (l.getD (k - 1) ⟨#[]⟩) l[k]) := Lib.hid (by rw [hst]; simp [h0])
          clear hst hcell hto hid hzk h0
          generalize l[k] = z at *
          generalize l.getD (k - 1) ⟨#[]⟩ = z1 at *
          go_wp2_with fail
          refine wp_region_wd x (by kernel_rfl) (by kernel_rfl) ?_
          repeat (go_big_quiet_step (exact Wd.calm _ (hcal _)))
          refine wpQuiet_nil ?_
          rintro w'' ⟨y, rfl⟩
          have hpo := Q.trans hq1 y.q
          go_wp2
          all_goals try simp only [Bool.not_eq_true', Bool.not_eq_false', Bool.not_eq_true, Bool.not_eq_false] at *
          all_goals
            first
              | (go_ret
                 exact ⟨by rw [HF.out (by rw [HST.out]; assumption)]; rfl, hpo⟩)
              | exact ⟨⟨k + 1, by go_num, by omega, Lib.hid (by rw [HST.out]; assumption), hpo⟩, by simp only [intOf]; omega⟩
    · have hks : k = l.length := by omega
      have hres : Hid (idsB l = decide ((l.length : Int) ≤ 64)) := by
        refine Lib.hid ?_
        have := hto.out
        rw [hks, List.take_length] at this
        unfold idsTo at this
        unfold idsB
        rw [Bool.and_eq_true] at this
        rw [this.1, this.2, Bool.and_true, Bool.and_true, decide_eq_decide]
        omega
      clear hks hto
      go_wp2
      go_ret
      exact ⟨by rw [hres.out]; rfl, hq⟩
end Go.Proofs.YtomkeaeegdjhnaaGreatDoor.Item

namespace Go.Proofs.YtomkeaeegdjhnaaGreatDoor.Item
open Go.RowKit Grp Mem _root_.Go.Proofs.YtomkeaeegdjhnaaGreatDoor.Code Sha Sign

theorem rpublic_any (n : Int) (w : World) : Calls Tryz.prog 254 #[.int .i64 n] w fun e w' => e = .returned (.bool (publicB n)) ∧ w = w' := by
  by_cases h1 : 1 ≤ n
  · go_enter Tryz.func254, Tryz.ntmps254
    go_wp2
    go_ret
    refine ⟨?_, rfl⟩
    by_cases h : n ≤ 2305843009213693950 <;> simp [publicB, withinB, h1, h] <;> omega
  · have h2 : decide (1 ≤ n) = false := by simpa using h1
    go_enter Tryz.func254, Tryz.ntmps254
    go_wp2
    go_ret
    exact ⟨by simp only [publicB, withinB, h2, Bool.false_and]; rfl, rfl⟩
set_option maxHeartbeats 1000000 in
theorem rboxed_any (n d t : ByteArray) (w : World) : Calls Tryz.prog 273 #[.agg #[.string n, .string d, .string t]] w fun e w' => e = .returned (.bool (sealedB n d t)) ∧ Q w w' := by
  obtain ⟨w1, x, hx, hq1, hlt, hr⟩ := boxed w 33 [.string n, .string d, .string t]
  have c0 := Wd.at0 hlt hr 0 rfl
  have c1 := Wd.at0 hlt hr 1 rfl
  have c2 := Wd.at0 hlt hr 2 rfl
  clear hr
  go_enter Tryz.func273, Tryz.ntmps273
  go_wp2
  all_goals
    go_ret
    refine ⟨?_, Q.trans hq1 x.q⟩
    simp_all [sealedB, shortB, cast32, cast16]
  all_goals omega
set_option maxHeartbeats 1000000 in
theorem rempty_any (n d t : ByteArray) (w : World) : Calls Tryz.prog 272 #[.agg #[.string n, .string d, .string t]] w fun e w' => e = .returned (.bool (noneB n && (noneB d && noneB t))) ∧ Q w w' := by
  obtain ⟨w1, x, hx, hq1, hlt, hr⟩ := boxed w 33 [.string n, .string d, .string t]
  have c0 := Wd.at0 hlt hr 0 rfl
  have c1 := Wd.at0 hlt hr 1 rfl
  have c2 := Wd.at0 hlt hr 2 rfl
  clear hr
  go_enter Tryz.func272, Tryz.ntmps272
  go_wp2
  all_goals
    go_ret
    refine ⟨?_, Q.trans hq1 x.q⟩
    simp_all [empty_none, toList_nil]
def rgroupB (a : ActR) : Bool := if a.scope = 2 then nameB a.group else noneB a.group
set_option maxHeartbeats 1000000 in
theorem rgroup_any (a : ActR) (w : World) (hz : a.group.size ≤ maxLen) : Calls Tryz.prog 258 #[.agg (actA a)] w fun e w' => e = .returned (.bool (rgroupB a)) ∧ Q w w' := by
  obtain ⟨w1, x, hx, hq1, hA⟩ := ActAt.box w a 38
  have c7 := hA.get 7 rfl
  have c8 := hA.get 8 rfl
  clear hA
  go_enter Tryz.func258, Tryz.ntmps258
  go_wp2_with (go_at_call 255; refine (rname_any _ _ hz).mono ?_; rintro e w' ⟨rfl, rfl⟩)
  all_goals
    go_ret
    refine ⟨?_, Q.trans hq1 x.q⟩
    simp_all [rgroupB, empty_none, toList_nil]
set_option maxHeartbeats 2000000 in
theorem raudience_any (a : ActR) (w : World) (hI : ActIn w a) (ho : ActOk a) : Calls Tryz.prog 256 #[.agg (actA a)] w fun e w' => e = .returned (.bool (audienceB a)) ∧ Q w w' := by
  obtain ⟨w1, x, hx, hq1, hA⟩ := ActAt.box w a 38
  have c7 := hA.get 7 rfl
  have c8 := hA.get 8 rfl
  have c9 := hA.get 9 rfl
  have c10 := hA.get 10 rfl
  have c11 := hA.get 11 rfl
  have c12 := hA.get 12 rfl
  have c13 := hA.get 13 rfl
  have c14 := hA.get 14 rfl
  have hL := hA.load
  have hS' : ∀ y : Wd w1, ActIn y.w a := fun y => hI.q (Q.trans hq1 y.q)
  have hS : ∀ y : Wd w1, Strs y.w a.toA a.to := fun y => (hS' y).to
  have hlen : a.to.length ≤ 9223372036854775807 := hI.toLen
  have hzg : a.group.size ≤ maxLen := ho.strs _ (by simp)
  have hzt : ∀ s ∈ a.to, s.size ≤ maxLen := ho.to
  clear hA ho
  cases g1 : idsB a.to
  all_goals
   go_enter Tryz.func256, Tryz.ntmps256
   go_wp2_with (first | (refine wpList_load_run 38 (.tmp 1) (.pointer (some ⟨w.heap.size, 0, none⟩)) (.agg (actA a)) ?_ ?_ ?_ ?_ ?_; rfl; rfl; rfl; exact hL _) | (go_at_call 227; refine (rids_any _ _ _ _ (hS _) hlen hzt).mono ?_; rintro e w' ⟨rfl, hq2⟩; obtain ⟨y, rfl⟩ := Wd.next _ hq2; clear hq2) | (go_at_call 258; refine (rgroup_any _ _ hzg).mono ?_; rintro e w' ⟨rfl, hq2⟩; obtain ⟨y, rfl⟩ := Wd.next _ hq2; clear hq2) | (go_at_call 273; refine (rboxed_any _ _ _ _).mono ?_; rintro e w' ⟨rfl, hq2⟩; obtain ⟨y, rfl⟩ := Wd.next _ hq2; clear hq2) | (go_at_call 272; refine (rempty_any _ _ _ _).mono ?_; rintro e w' ⟨rfl, hq2⟩; obtain ⟨y, rfl⟩ := Wd.next _ hq2; clear hq2))
  all_goals
    go_ret
    refine ⟨?_, Q.trans hq1 (Wd.q _)⟩
    simp_all [audienceB, sealedScopeB, rgroupB, withinB, shortB, bodyNone, empty_none, cast0, toList_nil]
  all_goals
    first
      | (intros; omega)
      | (by_cases h2 : a.scope = 2 <;> by_cases h0 : a.scope = 0 <;> by_cases h1 : a.scope = 1 <;> by_cases h3 : a.scope = 3 <;> simp_all <;> done)
set_option maxHeartbeats 2000000 in
theorem rwrapped_any (a : ActR) (w : World) (hI : ActIn w a) : Calls Tryz.prog 259 #[.agg (actA a)] w fun e w' => e = .returned (.bool (wrappedB a)) ∧ Q w w' := by
  obtain ⟨w1, x, hx, hq1, hA⟩ := ActAt.box w a 38
  have c9 := hA.get 9 rfl
  have c13 := hA.get 15 rfl
  have hlen := hI.toLen
  have hwlen := hI.wrLen
  go_enter Tryz.func259, Tryz.ntmps259
  go_wp2_with fail
  go_loopw [3] (fun i wr => ∃ (k : Nat) (z : Wd w1), i = .int .i64 k ∧ wr = z.w ∧ k ≤ a.wraps.length ∧ Hid ((a.wraps.take k).all wrapOk = true)) (fun i _ => a.wraps.length - (intOf i).toNat)
  case atStart => exact ⟨0, x, rfl, rfl, Nat.zero_le _, Lib.hid rfl⟩
  case round =>
    obtain ⟨k, z, rfl, rfl, hk, hall⟩ := hrel
    by_cases hlt : k < a.wraps.length
    · obtain ⟨b, o, hwA, hb, hcell⟩ := (hI.wraps.q hq1) (by omega)
      have hst := all_take_snoc a.wraps wrapOk k hlt
      rw [hall.out, Bool.true_and] at hst
      have hno := all_not a.wraps wrapOk k hlt
      have k0 := Wd.get (w0 := w1) hb (hcell k hlt) 0 rfl
      have k1 := Wd.get (w0 := w1) hb (hcell k hlt) 1 rfl
      have k2 := Wd.get (w0 := w1) hb (hcell k hlt) 2 rfl
      have k3 := Wd.get (w0 := w1) hb (hcell k hlt) 3 rfl
      have k4 := Wd.get (w0 := w1) hb (hcell k hlt) 4 rfl
      simp only [Nat.add_zero] at k0
      have HST : Hid ((a.wraps.take (k + 1)).all wrapOk = wrapOk a.wraps[k]) := Lib.hid hst
      have HNO := Lib.hid hno
      clear hst hno hcell hA hx hall
      generalize a.wraps[k] = v at *
      rw [hwA] at c13
      go_wp2_with (first | (go_at_call 254; refine (rpublic_any _ _).mono ?_; rintro e w' ⟨rfl, rfl⟩) | (go_at_call 273; refine (rboxed_any _ _ _ _).mono ?_; rintro e w' ⟨rfl, hq2⟩))
      all_goals try simp only [Bool.not_eq_true', Bool.not_eq_false', Bool.not_eq_true] at *
      all_goals
        first
          | (go_ret
             exact ⟨by rw [show wrappedB a = false by unfold wrappedB; rw [HNO.out (by simp [wrapOk, *]), Bool.false_and]]; rfl, Q.trans hq1 (by first | exact Q.trans z.q (Q.trans (q_new _ _ _) hq2) | exact Q.trans z.q (q_new _ _ _))⟩)
          | exact ⟨⟨k + 1, ⟨_, Q.trans z.q (Q.trans (q_new _ _ _) hq2)⟩, by go_num, rfl, by omega, Lib.hid (by rw [HST.out]; simp [wrapOk, *])⟩, by simp only [intOf]; omega⟩
    · have hks : k = a.wraps.length := by omega
      have hres : Hid (wrappedB a = decide (a.wraps.length = a.to.length)) := by
        refine Lib.hid ?_
        have := hall.out
        rw [hks, List.take_length] at this
        simp [wrappedB, this]
      clear hks
      go_wp2
      go_ret
      refine ⟨?_, Q.trans hq1 z.q⟩
      rw [hres.out]
      by_cases h : a.wraps.length = a.to.length <;> simp [h] <;> omega
def zeroB (a : ActR) : Bool := noneB a.object && (noneB a.target && (decide (a.scope = 0) && (noneB a.group && (decide (a.to.length = 0) && (noneB a.text && (bodyNone a && (decide (a.epoch = 0) && (decide (a.wraps.length = 0) && (decide (a.n = 0) && decide (a.m = 0))))))))))
set_option maxRecDepth 100000 in
set_option maxHeartbeats 4000000 in
theorem rzero_any (a : ActR) (w : World) : Calls Tryz.prog 260 #[.agg (actA a)] w fun e w' => e = .returned (.bool (zeroB a)) ∧ Q w w' := by
  obtain ⟨w1, x, hx, hq1, hA⟩ := ActAt.box w a 38
  have c5 := hA.get 5 rfl
  have c6 := hA.get 6 rfl
  have c7 := hA.get 7 rfl
  have c8 := hA.get 8 rfl
  have c9 := hA.get 9 rfl
  have c10 := hA.get 10 rfl
  have c11 := hA.get 11 rfl
  have c12 := hA.get 12 rfl
  have c13 := hA.get 13 rfl
  have c14 := hA.get 14 rfl
  have c15 := hA.get 15 rfl
  have c16 := hA.get 16 rfl
  have c17 := hA.get 17 rfl
  clear hA
  go_enter Tryz.func260, Tryz.ntmps260
  go_wp2_with (go_at_call 272; refine (rempty_any _ _ _ _).mono ?_; rintro e w' ⟨rfl, hq2⟩; obtain ⟨y, rfl⟩ := Wd.next _ hq2; clear hq2)
  all_goals
    go_ret
    refine ⟨?_, Q.trans hq1 (Wd.q _)⟩
    simp_all [zeroB, bodyNone, empty_none, cast0, toList_nil, intz]
end Go.Proofs.YtomkeaeegdjhnaaGreatDoor.Item

namespace Go.Proofs.YtomkeaeegdjhnaaGreatDoor.Item
open Go.RowKit Grp Mem _root_.Go.Proofs.YtomkeaeegdjhnaaGreatDoor.Code Sha Sign

theorem Blk.put {w : World} {g : Nat} {t : TypeId} {cs : List Value} (h : Blk w g t cs.toArray) (o : Nat) (v : Value) : Blk (w.setCell ⟨g, o, none⟩ v) g t (cs.set o v).toArray := by simpa using h.set_ o v
theorem Blk.past {w : World} {b g : Nat} {t : TypeId} {cs : Array Value} (h : Blk w b t cs) (hne : b ≠ g) (o : Nat) (v : Value) : Blk (w.setCell ⟨g, o, none⟩ v) b t cs := (setCells_far hne [v] o w).trans h
theorem q_put {w0 w : World} {g : Nat} (hq : Q w0 w) (hg : w0.heap.size ≤ g) (o : Nat) (v : Value) : Q w0 (w.setCell ⟨g, o, none⟩ v) := Below.setCell hq hg _
def bareR (a : ActR) : ActR := { a with scope := 0, group := emptyT, to := [], toA := none, toC := 0, text := emptyT, bn := emptyT, bd := emptyT, bt := emptyT, epoch := 0 }
set_option maxRecDepth 100000 in
set_option maxHeartbeats 4000000 in
theorem rbare_any (a : ActR) (w : World) : Calls Tryz.prog 257 #[.agg (actA a)] w fun e w' => e = .returned (.agg (actA (bareR a))) ∧ Q w w' := by
  have hb1 := Blk.new w 38 (actA a)
  have hq1 := q_new w (actA a) 38
  have hbr := Blk.new' (g := w.heap.size + 1) (w.alloc (.cells (actA a) 38)) 38 (actA act0) (by simp)
  have hq2 := q_new (w.alloc (.cells (actA a) 38)) (actA act0) 38
  have hb1 := hb1.q hq2
  have hq := Q.trans hq1 hq2
  obtain ⟨w2, hw2⟩ : ∃ w2, w2 = (w.alloc (.cells (actA a) 38)).alloc (.cells (actA act0) 38) := ⟨_, rfl⟩
  rw [← hw2] at hb1 hbr hq
  have HX := Lib.hid hw2.symm
  have c7 : w2.cell? ⟨w.heap.size, 7, none⟩ = some (.int .i64 a.scope) := hb1.cell 7
  have c8 : w2.cell? ⟨w.heap.size, 8, none⟩ = some (.string a.group) := hb1.cell 8
  have c9 : w2.cell? ⟨w.heap.size, 9, none⟩ = some (.slice a.toA a.to.length a.toC) := hb1.cell 9
  have c10 : w2.cell? ⟨w.heap.size, 10, none⟩ = some (.string a.text) := hb1.cell 10
  have c11 : w2.cell? ⟨w.heap.size, 11, none⟩ = some (.string a.bn) := hb1.cell 11
  have c12 : w2.cell? ⟨w.heap.size, 12, none⟩ = some (.string a.bd) := hb1.cell 12
  have c13 : w2.cell? ⟨w.heap.size, 13, none⟩ = some (.string a.bt) := hb1.cell 13
  have c14 : w2.cell? ⟨w.heap.size, 14, none⟩ = some (.int .i64 a.epoch) := hb1.cell 14
  have f7 := hb1.frozen 7
  have f8 := hb1.frozen 8
  have f9 := hb1.frozen 9
  have f10 := hb1.frozen 10
  have f11 := hb1.frozen 11
  have f12 := hb1.frozen 12
  have f13 := hb1.frozen 13
  have f14 := hb1.frozen 14
  clear hw2
  go_enter Tryz.func257, Tryz.ntmps257
  go_upto_region 1 with (fail)
  refine (show Code.wp _ _ _ _ w2 → Code.wp _ _ _ _ _ from fun h => by rw [← HX.out] at h; exact h) ?_
  go_upto_region 7 with (fail)
  have hB := Blk.put (Blk.put (Blk.put (Blk.put (Blk.put (Blk.put (Blk.put (Blk.put (show Blk w2 w.heap.size 38 a.cells.toArray from hb1) 7 (.int .i64 0)) 8 (.string ⟨#[]⟩)) 9 (.slice none 0 0)) 10 (.string ⟨#[]⟩)) 11 (.string ⟨#[]⟩)) 12 (.string ⟨#[]⟩)) 13 (.string ⟨#[]⟩)) 14 (.int .i64 0)
  have hR := Blk.past (Blk.past (Blk.past (Blk.past (Blk.past (Blk.past (Blk.past (Blk.past hbr (g := w.heap.size) (by omega) 7 (.int .i64 0)) (g := w.heap.size) (by omega) 8 (.string ⟨#[]⟩)) (g := w.heap.size) (by omega) 9 (.slice none 0 0)) (g := w.heap.size) (by omega) 10 (.string ⟨#[]⟩)) (g := w.heap.size) (by omega) 11 (.string ⟨#[]⟩)) (g := w.heap.size) (by omega) 12 (.string ⟨#[]⟩)) (g := w.heap.size) (by omega) 13 (.string ⟨#[]⟩)) (g := w.heap.size) (by omega) 14 (.int .i64 0)
  have hQ := q_put (q_put (q_put (q_put (q_put (q_put (q_put (q_put hq (Nat.le_refl _) 7 (.int .i64 0)) (Nat.le_refl _) 8 (.string ⟨#[]⟩)) (Nat.le_refl _) 9 (.slice none 0 0)) (Nat.le_refl _) 10 (.string ⟨#[]⟩)) (Nat.le_refl _) 11 (.string ⟨#[]⟩)) (Nat.le_refl _) 12 (.string ⟨#[]⟩)) (Nat.le_refl _) 13 (.string ⟨#[]⟩)) (Nat.le_refl _) 14 (.int .i64 0)
  generalize World.setCell _ ⟨w.heap.size, 14, none⟩ _ = W at *
  have hB : Blk W w.heap.size 38 (bareR a).cells.toArray := hB
  have hLd := Wd.load (P := Tryz.prog) (ty := 38) hB.lt (Blk.range hB) Tryz.underlying38 rfl (by kernel_rfl) ⟨W, Q.refl W⟩
  have HQ := Lib.hid hQ
  clear c7 c8 c9 c10 c11 c12 c13 c14 f7 f8 f9 f10 f11 f12 f13 f14 hB hQ hq hbr hb1 hq1 hq2 HX
  refine wp_region_lit ?_
  refine wpList_load_run 38 (.tmp 1) (.pointer (some ⟨w.heap.size, 0, none⟩)) (.agg (actA (bareR a))) rfl rfl rfl hLd ?_
  dsimp only [Act.put]
  simp only [List.setIfInBounds_toArray, List.set_cons_succ, List.set_cons_zero]
  refine wpList_store_far hR rfl 38 (.tmp 2) (.tmp 10) (bareR a).cells rfl rfl rfl (by kernel_rfl) (act_all _) (Nat.le_refl 20) ?_
  intro W3 hW3 hbel3 hfar3
  rw [splice_all _ _ (by rfl)] at hW3
  have hq3 : Q w W3 := hbel3 _ _ (Nat.le_succ _) HQ.out
  have HF := Lib.hid hq3
  clear hbel3 hfar3 hLd hq3
  go_wp2_with fail
  exact bodyPost_ret (results_cell_row rfl _ _ (w.heap.size + 1) 38 (actA (bareR a)) (0, 0) _ rfl hW3 Tryz.underlying38 rfl (by kernel_rfl)) rfl ⟨rfl, HF.out⟩
end Go.Proofs.YtomkeaeegdjhnaaGreatDoor.Item

namespace Go.Proofs.YtomkeaeegdjhnaaGreatDoor.Item
open Go.RowKit Grp Mem _root_.Go.Proofs.YtomkeaeegdjhnaaGreatDoor.Code Sha Sign


/-- Stores into a block of the walk's own, forgotten. -/
theorem put1_out {w0 w1 : World} {y : Wd w1} {g : Nat} {t : TypeId} {cs : List Value} (hb : Blk w1 g t cs.toArray) (hq : Q w0 w1) (hg : w0.heap.size ≤ g) {o1 : Nat} {v1 : Value} {C : World → Prop} (h : ∀ W, Blk W g t (cs.set o1 v1).toArray → Q w0 W → C W) : C (y.w.setCell ⟨g, o1, none⟩ v1) :=
  h _ (Blk.put (y.blk hb) _ _) (q_put (Q.trans hq y.q) hg _ _)
theorem put2_out {w0 w1 : World} {y : Wd w1} {g : Nat} {t : TypeId} {cs : List Value} (hb : Blk w1 g t cs.toArray) (hq : Q w0 w1) (hg : w0.heap.size ≤ g) {o1 o2 : Nat} {v1 v2 : Value} {C : World → Prop} (h : ∀ W, Blk W g t ((cs.set o1 v1).set o2 v2).toArray → Q w0 W → C W) : C ((y.w.setCell ⟨g, o1, none⟩ v1).setCell ⟨g, o2, none⟩ v2) :=
  h _ (Blk.put (Blk.put (y.blk hb) _ _) _ _) (q_put (q_put (Q.trans hq y.q) hg _ _) hg _ _)
theorem put3_out {w0 w1 : World} {y : Wd w1} {g : Nat} {t : TypeId} {cs : List Value} (hb : Blk w1 g t cs.toArray) (hq : Q w0 w1) (hg : w0.heap.size ≤ g) {o1 o2 o3 : Nat} {v1 v2 v3 : Value} {C : World → Prop} (h : ∀ W, Blk W g t (((cs.set o1 v1).set o2 v2).set o3 v3).toArray → Q w0 W → C W) : C (((y.w.setCell ⟨g, o1, none⟩ v1).setCell ⟨g, o2, none⟩ v2).setCell ⟨g, o3, none⟩ v3) :=
  h _ (Blk.put (Blk.put (Blk.put (y.blk hb) _ _) _ _) _ _) (q_put (q_put (q_put (Q.trans hq y.q) hg _ _) hg _ _) hg _ _)
theorem put4_out {w0 w1 : World} {y : Wd w1} {g : Nat} {t : TypeId} {cs : List Value} (hb : Blk w1 g t cs.toArray) (hq : Q w0 w1) (hg : w0.heap.size ≤ g) {o1 o2 o3 o4 : Nat} {v1 v2 v3 v4 : Value} {C : World → Prop} (h : ∀ W, Blk W g t ((((cs.set o1 v1).set o2 v2).set o3 v3).set o4 v4).toArray → Q w0 W → C W) : C ((((y.w.setCell ⟨g, o1, none⟩ v1).setCell ⟨g, o2, none⟩ v2).setCell ⟨g, o3, none⟩ v3).setCell ⟨g, o4, none⟩ v4) :=
  h _ (Blk.put (Blk.put (Blk.put (Blk.put (y.blk hb) _ _) _ _) _ _) _ _) (q_put (q_put (q_put (q_put (Q.trans hq y.q) hg _ _) hg _ _) hg _ _) hg _ _)
theorem put5_out {w0 w1 : World} {y : Wd w1} {g : Nat} {t : TypeId} {cs : List Value} (hb : Blk w1 g t cs.toArray) (hq : Q w0 w1) (hg : w0.heap.size ≤ g) {o1 o2 o3 o4 o5 : Nat} {v1 v2 v3 v4 v5 : Value} {C : World → Prop} (h : ∀ W, Blk W g t (((((cs.set o1 v1).set o2 v2).set o3 v3).set o4 v4).set o5 v5).toArray → Q w0 W → C W) : C (((((y.w.setCell ⟨g, o1, none⟩ v1).setCell ⟨g, o2, none⟩ v2).setCell ⟨g, o3, none⟩ v3).setCell ⟨g, o4, none⟩ v4).setCell ⟨g, o5, none⟩ v5) :=
  h _ (Blk.put (Blk.put (Blk.put (Blk.put (Blk.put (y.blk hb) _ _) _ _) _ _) _ _) _ _) (q_put (q_put (q_put (q_put (q_put (Q.trans hq y.q) hg _ _) hg _ _) hg _ _) hg _ _) hg _ _)
theorem noneE : noneB emptyT = true := rfl
theorem put1_here {w0 w : World} {g : Nat} {t : TypeId} {cs : List Value} (hb : Blk w g t cs.toArray) (hq : Q w0 w) (hg : w0.heap.size ≤ g) {o1 : Nat} {v1 : Value} {C : World → Prop} (h : ∀ W, Blk W g t (cs.set o1 v1).toArray → Q w0 W → C W) : C (w.setCell ⟨g, o1, none⟩ v1) :=
  h _ (Blk.put hb _ _) (q_put hq hg _ _)
theorem ways7 (b1 b2 b3 b4 b5 b6 b7 : Bool) : b1 = false ∨ (b1 = true ∧ b2 = false) ∨ (b1 = true ∧ b2 = true ∧ b3 = false) ∨ (b1 = true ∧ b2 = true ∧ b3 = true ∧ b4 = false) ∨ (b1 = true ∧ b2 = true ∧ b3 = true ∧ b4 = true ∧ b5 = false) ∨ (b1 = true ∧ b2 = true ∧ b3 = true ∧ b4 = true ∧ b5 = true ∧ b6 = false) ∨
      (b1 = true ∧ b2 = true ∧ b3 = true ∧ b4 = true ∧ b5 = true ∧ b6 = true ∧ b7 = false) ∨ (b1 = true ∧ b2 = true ∧ b3 = true ∧ b4 = true ∧ b5 = true ∧ b6 = true ∧ b7 = true) := by
  cases b1 <;> cases b2 <;> cases b3 <;> cases b4 <;> cases b5 <;> cases b6 <;> cases b7 <;> simp
theorem fits_mask (a : ActR) (k : Nat) (hk : k < 24) (h : a.kind = k) : fitsB a = (maskOk (ruleF k) (noneB a.object) (noneB a.target) (decide (a.scope = 0)) (noneB a.group) (decide (a.to.length = 0)) (noneB a.text) (bodyNone a) (decide (a.epoch = 0)) (decide (a.wraps.length = 0)) (decide (a.n = 0)) (decide (a.m = 0)) && ruleB k a) := by
  unfold fitsB
  rw [show a.kind.toNat = k by omega, mask_of a k hk, decide_eq_true (show 0 ≤ a.kind by omega), decide_eq_true (show a.kind < 24 by omega)]
  rfl

set_option maxRecDepth 100000 in
set_option maxHeartbeats 8000000 in
theorem rfits_0 (a : ActR) (w : World) (hI : ActIn w a) (ho : ActOk a) (hk : a.kind = 0) : Calls Tryz.prog 224 #[.agg (actA a)] w fun e w' => e = .returned (.bool (fitsB a)) ∧ Q w w' := by
  have hml : maxLen ≤ 9223372036854775807 := by decide
  obtain ⟨w1, x, hx, hq1, hA⟩ := ActAt.box w a 38
  have hL1 := hA.load
  have hx1 := x.q.size
  have hlt1 := hA.lt
  have HF := Lib.hid (fits_mask a 0 (by decide) hk)
  go_enter Tryz.func224, Tryz.ntmps224
  go_wp2_with (first | (refine wpList_load_run 38 (.tmp 1) (.pointer (some ⟨w.heap.size, 0, none⟩)) (.agg (actA a)) ?_ ?_ ?_ ?_ ?_; rfl; rfl; rfl; exact hL1 _) | (refine wpList_store_blk (Blk.new x.w 38 act0.cells.toArray) rfl 38 (.tmp 3) (.tmp 11) a.cells rfl rfl rfl (by kernel_rfl) (act_all _) (Nat.le_refl 20) ?_))
  intro W hW hbel
  rw [splice_all _ _ (by rfl)] at hW
  have hqx : Q x.w W := hbel _ _ (Nat.le_refl _) (q_new _ _ _)
  have hqW : Q w W := Q.trans hq1 (Q.trans x.q hqx)
  have hA := ActAt.mk (w0 := W) (g := w.heap.size) (a := a) (Nat.lt_of_lt_of_le hlt1 (Q.trans x.q hqx).size) (range_q hA.range (Q.trans x.q hqx) hlt1)
  have hgs : w.heap.size ≤ x.w.heap.size := Nat.le_trans hq1.size x.q.size
  generalize hg : x.w.heap.size = g at *
  have c3 := hA.get 3 rfl
  rw [hk] at c3
  have c10 := hA.get 10 rfl
  have c16 := hA.get 16 rfl
  have c17 := hA.get 17 rfl
  have hL := hA.load
  have hIn : ∀ y : Wd W, ActIn y.w a := fun y => hI.q (Q.trans hqW y.q)
  have hzg : a.group.size ≤ maxLen := ho.strs _ (by simp)
  have hzx : a.text.size ≤ maxLen := ho.strs _ (by simp)
  have hzr : a.target.size ≤ maxLen := ho.strs _ (by simp)
  have hnf : ∀ (y : Wd W) (j : Nat), y.w.frozen? ⟨g, j, none⟩ = false := fun y j => (y.blk hW).frozen j
  have d10 : ∀ y : Wd W, y.w.cell? ⟨g, 10, none⟩ = _ := fun y => (y.blk hW).cell 10
  have d16 : ∀ y : Wd W, y.w.cell? ⟨g, 16, none⟩ = _ := fun y => (y.blk hW).cell 16
  have d17 : ∀ y : Wd W, y.w.cell? ⟨g, 17, none⟩ = _ := fun y => (y.blk hW).cell 17
  have f10 : ∀ y : Wd W, y.w.frozen? ⟨g, 10, none⟩ = false := fun y => (y.blk hW).frozen 10
  have f16 : ∀ y : Wd W, y.w.frozen? ⟨g, 16, none⟩ = false := fun y => (y.blk hW).frozen 16
  have f17 : ∀ y : Wd W, y.w.frozen? ⟨g, 17, none⟩ = false := fun y => (y.blk hW).frozen 17
  clear hnf
  have HK := Lib.hid hk
  obtain ⟨v, hv⟩ := Wd.first W
  have HI := Lib.hid hI
  have HO := Lib.hid ho
  clear hbel hL1 hk hI hqx hx1 hlt1 hx hA hq1 hg hml
  clear ho
  clear hIn
  rw [hv]
  clear hv
  cases g1 : nameB a.text
  all_goals
    go_upto_region 80 with (first | (go_at_call 254; refine (rpublic_any _ _).mono ?_; rintro e w' ⟨rfl, rfl⟩) | (go_at_call 255; refine (rname_any _ _ (by with_reducible assumption)).mono ?_; rintro e w' ⟨rfl, rfl⟩))
  all_goals
    refine put3_out (C := fun u => Code.wp _ _ _ _ u) hW hqW hgs ?_
    intro W2 hB hQ2
    have hB : Blk W2 g 38 (ActR.cells { a with text := emptyT, n := 0, m := 0 }).toArray := hB
    have hLd := Wd.load (P := Tryz.prog) (ty := 38) hB.lt (Blk.range hB) Tryz.underlying38 rfl (by kernel_rfl) ⟨W2, Q.refl W2⟩
    have HQ2 := Lib.hid hQ2
    clear hB hQ2 hW hL
    go_wp2_with (first | (refine wpList_load_run 38 (.tmp 3) (.pointer (some ⟨g, 0, none⟩)) (.agg (actA { a with text := emptyT, n := 0, m := 0 })) ?_ ?_ ?_ ?_ ?_; rfl; rfl; rfl; exact hLd) | (go_at_call 260; refine (rzero_any { a with text := emptyT, n := 0, m := 0 } _).mono ?_; rintro e w' ⟨rfl, hq2⟩))
  all_goals
    go_ret
    refine ⟨?_, by first | exact Q.trans HQ2.out hq2 | exact HQ2.out⟩
    rw [HF.out]
    clear c3 hLd HQ2 HI HO hqW hgs
    simp_all [maskOk, conj, inMask, ruleF, ruleB, zeroB, homeB, objectB, targetB, grantB, labelB, setupB, publicB, digestB, shortB, noneE, bodyNone, bareR, sealedScopeB, rgroupB, withinB, cast32, empty_none, toList_nil, intz]
  all_goals (first | rfl | (rw [Bool.eq_iff_iff]; simp; done) | (intros; omega) | (intros; have := noneB_size (s := a.object) (by assumption); omega))
set_option maxRecDepth 100000 in
set_option maxHeartbeats 8000000 in
theorem rfits_1 (a : ActR) (w : World) (hI : ActIn w a) (ho : ActOk a) (hk : a.kind = 1) : Calls Tryz.prog 224 #[.agg (actA a)] w fun e w' => e = .returned (.bool (fitsB a)) ∧ Q w w' := by
  have hml : maxLen ≤ 9223372036854775807 := by decide
  obtain ⟨w1, x, hx, hq1, hA⟩ := ActAt.box w a 38
  have hL1 := hA.load
  have hx1 := x.q.size
  have hlt1 := hA.lt
  have HF := Lib.hid (fits_mask a 1 (by decide) hk)
  go_enter Tryz.func224, Tryz.ntmps224
  go_wp2_with (first | (refine wpList_load_run 38 (.tmp 1) (.pointer (some ⟨w.heap.size, 0, none⟩)) (.agg (actA a)) ?_ ?_ ?_ ?_ ?_; rfl; rfl; rfl; exact hL1 _) | (refine wpList_store_blk (Blk.new x.w 38 act0.cells.toArray) rfl 38 (.tmp 3) (.tmp 11) a.cells rfl rfl rfl (by kernel_rfl) (act_all _) (Nat.le_refl 20) ?_))
  intro W hW hbel
  rw [splice_all _ _ (by rfl)] at hW
  have hqx : Q x.w W := hbel _ _ (Nat.le_refl _) (q_new _ _ _)
  have hqW : Q w W := Q.trans hq1 (Q.trans x.q hqx)
  have hA := ActAt.mk (w0 := W) (g := w.heap.size) (a := a) (Nat.lt_of_lt_of_le hlt1 (Q.trans x.q hqx).size) (range_q hA.range (Q.trans x.q hqx) hlt1)
  have hgs : w.heap.size ≤ x.w.heap.size := Nat.le_trans hq1.size x.q.size
  generalize hg : x.w.heap.size = g at *
  have c3 := hA.get 3 rfl
  rw [hk] at c3
  have hL := hA.load
  have hIn : ∀ y : Wd W, ActIn y.w a := fun y => hI.q (Q.trans hqW y.q)
  have hzg : a.group.size ≤ maxLen := ho.strs _ (by simp)
  have hzx : a.text.size ≤ maxLen := ho.strs _ (by simp)
  have hzr : a.target.size ≤ maxLen := ho.strs _ (by simp)
  have HK := Lib.hid hk
  obtain ⟨v, hv⟩ := Wd.first W
  have HI := Lib.hid hI
  have HO := Lib.hid ho
  clear hbel hL1 hk hI hqx hx1 hlt1 hx hA hq1 hg hml
  rw [hv]
  clear hv
  cases g1 : audienceB a
  all_goals
    go_wp2_with (first | (refine wpList_store_blk (Wd.blk _ hW) rfl 38 (.tmp 3) (.tmp 48) (bareR a).cells rfl rfl rfl (by kernel_rfl) (act_all _) (Nat.le_refl 20) ?_) | (refine wpList_load_run 38 (.tmp 1) (.pointer (some ⟨w.heap.size, 0, none⟩)) (.agg (actA a)) ?_ ?_ ?_ ?_ ?_; rfl; rfl; rfl; exact hL _) | (go_at_call 254; refine (rpublic_any _ _).mono ?_; rintro e w' ⟨rfl, rfl⟩) | (go_at_call 256; refine (raudience_any a _ (hIn _) ho).mono ?_; rintro e w' ⟨rfl, hq2⟩; obtain ⟨y, rfl⟩ := Wd.next _ hq2; clear hq2) | (go_at_call 257; refine (rbare_any a _).mono ?_; rintro e w' ⟨rfl, hq2⟩; obtain ⟨y, rfl⟩ := Wd.next _ hq2; clear hq2))
  all_goals
    intro W3 hW3 hbel3
    rw [splice_all _ _ (by rfl)] at hW3
    have hq3 : Q w W3 := hbel3 _ _ hgs (Q.trans hqW (Wd.q _))
    clear hbel3
  all_goals
    have hB := hW3
    have hQ2 := hq3
    have hB : Blk W3 g 38 (ActR.cells (bareR a)).toArray := hB
    have hLd := Wd.load (P := Tryz.prog) (ty := 38) hB.lt (Blk.range hB) Tryz.underlying38 rfl (by kernel_rfl) ⟨W3, Q.refl W3⟩
    have HQ2 := Lib.hid hQ2
    clear hB hQ2 hW hL
    go_wp2_with (first | (refine wpList_load_run 38 (.tmp 3) (.pointer (some ⟨g, 0, none⟩)) (.agg (actA (bareR a))) ?_ ?_ ?_ ?_ ?_; rfl; rfl; rfl; exact hLd) | (go_at_call 260; refine (rzero_any (bareR a) _).mono ?_; rintro e w' ⟨rfl, hq2⟩))
  all_goals
    go_ret
    refine ⟨?_, by first | exact Q.trans HQ2.out hq2 | exact HQ2.out⟩
    rw [HF.out]
    clear c3 hLd HQ2 HI HO hqW hgs
    simp_all [maskOk, conj, inMask, ruleF, ruleB, zeroB, homeB, objectB, targetB, grantB, labelB, setupB, publicB, digestB, shortB, noneE, bodyNone, bareR, sealedScopeB, rgroupB, withinB, cast32, empty_none, toList_nil, intz]
  all_goals (first | rfl | (rw [Bool.eq_iff_iff]; simp; done) | (intros; omega) | (intros; have := noneB_size (s := a.object) (by assumption); omega))
set_option maxRecDepth 100000 in
set_option maxHeartbeats 8000000 in
theorem rfits_2 (a : ActR) (w : World) (hI : ActIn w a) (ho : ActOk a) (hk : a.kind = 2) : Calls Tryz.prog 224 #[.agg (actA a)] w fun e w' => e = .returned (.bool (fitsB a)) ∧ Q w w' := by
  have hml : maxLen ≤ 9223372036854775807 := by decide
  obtain ⟨w1, x, hx, hq1, hA⟩ := ActAt.box w a 38
  have hL1 := hA.load
  have hx1 := x.q.size
  have hlt1 := hA.lt
  have HF := Lib.hid (fits_mask a 2 (by decide) hk)
  go_enter Tryz.func224, Tryz.ntmps224
  go_wp2_with (first | (refine wpList_load_run 38 (.tmp 1) (.pointer (some ⟨w.heap.size, 0, none⟩)) (.agg (actA a)) ?_ ?_ ?_ ?_ ?_; rfl; rfl; rfl; exact hL1 _) | (refine wpList_store_blk (Blk.new x.w 38 act0.cells.toArray) rfl 38 (.tmp 3) (.tmp 11) a.cells rfl rfl rfl (by kernel_rfl) (act_all _) (Nat.le_refl 20) ?_))
  intro W hW hbel
  rw [splice_all _ _ (by rfl)] at hW
  have hqx : Q x.w W := hbel _ _ (Nat.le_refl _) (q_new _ _ _)
  have hqW : Q w W := Q.trans hq1 (Q.trans x.q hqx)
  have hA := ActAt.mk (w0 := W) (g := w.heap.size) (a := a) (Nat.lt_of_lt_of_le hlt1 (Q.trans x.q hqx).size) (range_q hA.range (Q.trans x.q hqx) hlt1)
  have hgs : w.heap.size ≤ x.w.heap.size := Nat.le_trans hq1.size x.q.size
  generalize hg : x.w.heap.size = g at *
  have c3 := hA.get 3 rfl
  rw [hk] at c3
  have c5 := hA.get 5 rfl
  have hL := hA.load
  have hIn : ∀ y : Wd W, ActIn y.w a := fun y => hI.q (Q.trans hqW y.q)
  have hzg : a.group.size ≤ maxLen := ho.strs _ (by simp)
  have hzx : a.text.size ≤ maxLen := ho.strs _ (by simp)
  have hzr : a.target.size ≤ maxLen := ho.strs _ (by simp)
  have HK := Lib.hid hk
  obtain ⟨v, hv⟩ := Wd.first W
  have HI := Lib.hid hI
  have HO := Lib.hid ho
  clear hbel hL1 hk hI hqx hx1 hlt1 hx hA hq1 hg hml
  rw [hv]
  clear hv
  cases g1 : audienceB a <;> cases g2 : ((a.object.size : Int) == 32)
  all_goals
    go_wp2_with (first | (refine wpList_store_blk (Wd.blk _ hW) rfl 38 (.tmp 3) (.tmp 62) (bareR a).cells rfl rfl rfl (by kernel_rfl) (act_all _) (Nat.le_refl 20) ?_) | (refine wpList_load_run 38 (.tmp 1) (.pointer (some ⟨w.heap.size, 0, none⟩)) (.agg (actA a)) ?_ ?_ ?_ ?_ ?_; rfl; rfl; rfl; exact hL _) | (go_at_call 254; refine (rpublic_any _ _).mono ?_; rintro e w' ⟨rfl, rfl⟩) | (go_at_call 256; refine (raudience_any a _ (hIn _) ho).mono ?_; rintro e w' ⟨rfl, hq2⟩; obtain ⟨y, rfl⟩ := Wd.next _ hq2; clear hq2) | (go_at_call 257; refine (rbare_any a _).mono ?_; rintro e w' ⟨rfl, hq2⟩; obtain ⟨y, rfl⟩ := Wd.next _ hq2; clear hq2))
  all_goals
    intro W3 hW3 hbel3
    rw [splice_all _ _ (by rfl)] at hW3
    have hq3 : Q w W3 := hbel3 _ _ hgs (Q.trans hqW (Wd.q _))
    clear hbel3
    have d5 : W3.cell? ⟨g, 5, none⟩ = _ := hW3.cell 5
    have f5 : W3.frozen? ⟨g, 5, none⟩ = false := hW3.frozen 5
    go_upto_region 80 with (fail)
  all_goals
    refine put1_here (C := fun u => Code.wp _ _ _ _ u) hW3 hq3 hgs ?_
    intro W2 hB hQ2
    have hB : Blk W2 g 38 (ActR.cells { bareR a with object := emptyT }).toArray := hB
    have hLd := Wd.load (P := Tryz.prog) (ty := 38) hB.lt (Blk.range hB) Tryz.underlying38 rfl (by kernel_rfl) ⟨W2, Q.refl W2⟩
    have HQ2 := Lib.hid hQ2
    clear hB hQ2 hW hL
    go_wp2_with (first | (refine wpList_load_run 38 (.tmp 3) (.pointer (some ⟨g, 0, none⟩)) (.agg (actA { bareR a with object := emptyT })) ?_ ?_ ?_ ?_ ?_; rfl; rfl; rfl; exact hLd) | (go_at_call 260; refine (rzero_any { bareR a with object := emptyT } _).mono ?_; rintro e w' ⟨rfl, hq2⟩))
  all_goals
    go_ret
    refine ⟨?_, by first | exact Q.trans HQ2.out hq2 | exact HQ2.out⟩
    rw [HF.out]
    clear c3 hLd HQ2 HI HO hqW hgs
    simp_all [maskOk, conj, inMask, ruleF, ruleB, zeroB, homeB, objectB, targetB, grantB, labelB, setupB, publicB, digestB, shortB, noneE, bodyNone, bareR, sealedScopeB, rgroupB, withinB, cast32, empty_none, toList_nil, intz]
  all_goals (first | rfl | (rw [Bool.eq_iff_iff]; simp; done) | (intros; omega) | (intros; have := noneB_size (s := a.object) (by assumption); omega))
set_option maxRecDepth 100000 in
set_option maxHeartbeats 8000000 in
theorem rfits_3 (a : ActR) (w : World) (hI : ActIn w a) (ho : ActOk a) (hk : a.kind = 3) : Calls Tryz.prog 224 #[.agg (actA a)] w fun e w' => e = .returned (.bool (fitsB a)) ∧ Q w w' := by
  have hml : maxLen ≤ 9223372036854775807 := by decide
  obtain ⟨w1, x, hx, hq1, hA⟩ := ActAt.box w a 38
  have hL1 := hA.load
  have hx1 := x.q.size
  have hlt1 := hA.lt
  have HF := Lib.hid (fits_mask a 3 (by decide) hk)
  go_enter Tryz.func224, Tryz.ntmps224
  go_wp2_with (first | (refine wpList_load_run 38 (.tmp 1) (.pointer (some ⟨w.heap.size, 0, none⟩)) (.agg (actA a)) ?_ ?_ ?_ ?_ ?_; rfl; rfl; rfl; exact hL1 _) | (refine wpList_store_blk (Blk.new x.w 38 act0.cells.toArray) rfl 38 (.tmp 3) (.tmp 11) a.cells rfl rfl rfl (by kernel_rfl) (act_all _) (Nat.le_refl 20) ?_))
  intro W hW hbel
  rw [splice_all _ _ (by rfl)] at hW
  have hqx : Q x.w W := hbel _ _ (Nat.le_refl _) (q_new _ _ _)
  have hqW : Q w W := Q.trans hq1 (Q.trans x.q hqx)
  have hA := ActAt.mk (w0 := W) (g := w.heap.size) (a := a) (Nat.lt_of_lt_of_le hlt1 (Q.trans x.q hqx).size) (range_q hA.range (Q.trans x.q hqx) hlt1)
  have hgs : w.heap.size ≤ x.w.heap.size := Nat.le_trans hq1.size x.q.size
  generalize hg : x.w.heap.size = g at *
  have c3 := hA.get 3 rfl
  rw [hk] at c3
  have c5 := hA.get 5 rfl
  have hL := hA.load
  have hIn : ∀ y : Wd W, ActIn y.w a := fun y => hI.q (Q.trans hqW y.q)
  have hzg : a.group.size ≤ maxLen := ho.strs _ (by simp)
  have hzx : a.text.size ≤ maxLen := ho.strs _ (by simp)
  have hzr : a.target.size ≤ maxLen := ho.strs _ (by simp)
  have HK := Lib.hid hk
  obtain ⟨v, hv⟩ := Wd.first W
  have HI := Lib.hid hI
  have HO := Lib.hid ho
  clear hbel hL1 hk hI hqx hx1 hlt1 hx hA hq1 hg hml
  rw [hv]
  clear hv
  cases g1 : audienceB a <;> cases g2 : ((a.object.size : Int) == 32)
  all_goals
    go_wp2_with (first | (refine wpList_store_blk (Wd.blk _ hW) rfl 38 (.tmp 3) (.tmp 62) (bareR a).cells rfl rfl rfl (by kernel_rfl) (act_all _) (Nat.le_refl 20) ?_) | (refine wpList_load_run 38 (.tmp 1) (.pointer (some ⟨w.heap.size, 0, none⟩)) (.agg (actA a)) ?_ ?_ ?_ ?_ ?_; rfl; rfl; rfl; exact hL _) | (go_at_call 254; refine (rpublic_any _ _).mono ?_; rintro e w' ⟨rfl, rfl⟩) | (go_at_call 256; refine (raudience_any a _ (hIn _) ho).mono ?_; rintro e w' ⟨rfl, hq2⟩; obtain ⟨y, rfl⟩ := Wd.next _ hq2; clear hq2) | (go_at_call 257; refine (rbare_any a _).mono ?_; rintro e w' ⟨rfl, hq2⟩; obtain ⟨y, rfl⟩ := Wd.next _ hq2; clear hq2))
  all_goals
    intro W3 hW3 hbel3
    rw [splice_all _ _ (by rfl)] at hW3
    have hq3 : Q w W3 := hbel3 _ _ hgs (Q.trans hqW (Wd.q _))
    clear hbel3
    have d5 : W3.cell? ⟨g, 5, none⟩ = _ := hW3.cell 5
    have f5 : W3.frozen? ⟨g, 5, none⟩ = false := hW3.frozen 5
    go_upto_region 80 with (fail)
  all_goals
    refine put1_here (C := fun u => Code.wp _ _ _ _ u) hW3 hq3 hgs ?_
    intro W2 hB hQ2
    have hB : Blk W2 g 38 (ActR.cells { bareR a with object := emptyT }).toArray := hB
    have hLd := Wd.load (P := Tryz.prog) (ty := 38) hB.lt (Blk.range hB) Tryz.underlying38 rfl (by kernel_rfl) ⟨W2, Q.refl W2⟩
    have HQ2 := Lib.hid hQ2
    clear hB hQ2 hW hL
    go_wp2_with (first | (refine wpList_load_run 38 (.tmp 3) (.pointer (some ⟨g, 0, none⟩)) (.agg (actA { bareR a with object := emptyT })) ?_ ?_ ?_ ?_ ?_; rfl; rfl; rfl; exact hLd) | (go_at_call 260; refine (rzero_any { bareR a with object := emptyT } _).mono ?_; rintro e w' ⟨rfl, hq2⟩))
  all_goals
    go_ret
    refine ⟨?_, by first | exact Q.trans HQ2.out hq2 | exact HQ2.out⟩
    rw [HF.out]
    clear c3 hLd HQ2 HI HO hqW hgs
    simp_all [maskOk, conj, inMask, ruleF, ruleB, zeroB, homeB, objectB, targetB, grantB, labelB, setupB, publicB, digestB, shortB, noneE, bodyNone, bareR, sealedScopeB, rgroupB, withinB, cast32, empty_none, toList_nil, intz]
  all_goals (first | rfl | (rw [Bool.eq_iff_iff]; simp; done) | (intros; omega) | (intros; have := noneB_size (s := a.object) (by assumption); omega))
set_option maxRecDepth 100000 in
set_option maxHeartbeats 8000000 in
theorem rfits_14 (a : ActR) (w : World) (hI : ActIn w a) (ho : ActOk a) (hk : a.kind = 14) : Calls Tryz.prog 224 #[.agg (actA a)] w fun e w' => e = .returned (.bool (fitsB a)) ∧ Q w w' := by
  have hml : maxLen ≤ 9223372036854775807 := by decide
  obtain ⟨w1, x, hx, hq1, hA⟩ := ActAt.box w a 38
  have hL1 := hA.load
  have hx1 := x.q.size
  have hlt1 := hA.lt
  have HF := Lib.hid (fits_mask a 14 (by decide) hk)
  go_enter Tryz.func224, Tryz.ntmps224
  go_wp2_with (first | (refine wpList_load_run 38 (.tmp 1) (.pointer (some ⟨w.heap.size, 0, none⟩)) (.agg (actA a)) ?_ ?_ ?_ ?_ ?_; rfl; rfl; rfl; exact hL1 _) | (refine wpList_store_blk (Blk.new x.w 38 act0.cells.toArray) rfl 38 (.tmp 3) (.tmp 11) a.cells rfl rfl rfl (by kernel_rfl) (act_all _) (Nat.le_refl 20) ?_))
  intro W hW hbel
  rw [splice_all _ _ (by rfl)] at hW
  have hqx : Q x.w W := hbel _ _ (Nat.le_refl _) (q_new _ _ _)
  have hqW : Q w W := Q.trans hq1 (Q.trans x.q hqx)
  have hA := ActAt.mk (w0 := W) (g := w.heap.size) (a := a) (Nat.lt_of_lt_of_le hlt1 (Q.trans x.q hqx).size) (range_q hA.range (Q.trans x.q hqx) hlt1)
  have hgs : w.heap.size ≤ x.w.heap.size := Nat.le_trans hq1.size x.q.size
  generalize hg : x.w.heap.size = g at *
  have c3 := hA.get 3 rfl
  rw [hk] at c3
  have c5 := hA.get 5 rfl
  have hL := hA.load
  have hIn : ∀ y : Wd W, ActIn y.w a := fun y => hI.q (Q.trans hqW y.q)
  have hzg : a.group.size ≤ maxLen := ho.strs _ (by simp)
  have hzx : a.text.size ≤ maxLen := ho.strs _ (by simp)
  have hzr : a.target.size ≤ maxLen := ho.strs _ (by simp)
  have HK := Lib.hid hk
  obtain ⟨v, hv⟩ := Wd.first W
  have HI := Lib.hid hI
  have HO := Lib.hid ho
  clear hbel hL1 hk hI hqx hx1 hlt1 hx hA hq1 hg hml
  rw [hv]
  clear hv
  cases g1 : audienceB a <;> cases g2 : ((a.object.size : Int) == 32)
  all_goals
    go_wp2_with (first | (refine wpList_store_blk (Wd.blk _ hW) rfl 38 (.tmp 3) (.tmp 62) (bareR a).cells rfl rfl rfl (by kernel_rfl) (act_all _) (Nat.le_refl 20) ?_) | (refine wpList_load_run 38 (.tmp 1) (.pointer (some ⟨w.heap.size, 0, none⟩)) (.agg (actA a)) ?_ ?_ ?_ ?_ ?_; rfl; rfl; rfl; exact hL _) | (go_at_call 254; refine (rpublic_any _ _).mono ?_; rintro e w' ⟨rfl, rfl⟩) | (go_at_call 256; refine (raudience_any a _ (hIn _) ho).mono ?_; rintro e w' ⟨rfl, hq2⟩; obtain ⟨y, rfl⟩ := Wd.next _ hq2; clear hq2) | (go_at_call 257; refine (rbare_any a _).mono ?_; rintro e w' ⟨rfl, hq2⟩; obtain ⟨y, rfl⟩ := Wd.next _ hq2; clear hq2))
  all_goals
    intro W3 hW3 hbel3
    rw [splice_all _ _ (by rfl)] at hW3
    have hq3 : Q w W3 := hbel3 _ _ hgs (Q.trans hqW (Wd.q _))
    clear hbel3
    have d5 : W3.cell? ⟨g, 5, none⟩ = _ := hW3.cell 5
    have f5 : W3.frozen? ⟨g, 5, none⟩ = false := hW3.frozen 5
    go_upto_region 80 with (fail)
  all_goals
    refine put1_here (C := fun u => Code.wp _ _ _ _ u) hW3 hq3 hgs ?_
    intro W2 hB hQ2
    have hB : Blk W2 g 38 (ActR.cells { bareR a with object := emptyT }).toArray := hB
    have hLd := Wd.load (P := Tryz.prog) (ty := 38) hB.lt (Blk.range hB) Tryz.underlying38 rfl (by kernel_rfl) ⟨W2, Q.refl W2⟩
    have HQ2 := Lib.hid hQ2
    clear hB hQ2 hW hL
    go_wp2_with (first | (refine wpList_load_run 38 (.tmp 3) (.pointer (some ⟨g, 0, none⟩)) (.agg (actA { bareR a with object := emptyT })) ?_ ?_ ?_ ?_ ?_; rfl; rfl; rfl; exact hLd) | (go_at_call 260; refine (rzero_any { bareR a with object := emptyT } _).mono ?_; rintro e w' ⟨rfl, hq2⟩))
  all_goals
    go_ret
    refine ⟨?_, by first | exact Q.trans HQ2.out hq2 | exact HQ2.out⟩
    rw [HF.out]
    clear c3 hLd HQ2 HI HO hqW hgs
    simp_all [maskOk, conj, inMask, ruleF, ruleB, zeroB, homeB, objectB, targetB, grantB, labelB, setupB, publicB, digestB, shortB, noneE, bodyNone, bareR, sealedScopeB, rgroupB, withinB, cast32, empty_none, toList_nil, intz]
  all_goals (first | rfl | (rw [Bool.eq_iff_iff]; simp; done) | (intros; omega) | (intros; have := noneB_size (s := a.object) (by assumption); omega))
set_option maxRecDepth 100000 in
set_option maxHeartbeats 8000000 in
theorem rfits_4 (a : ActR) (w : World) (hI : ActIn w a) (ho : ActOk a) (hk : a.kind = 4) : Calls Tryz.prog 224 #[.agg (actA a)] w fun e w' => e = .returned (.bool (fitsB a)) ∧ Q w w' := by
  have hml : maxLen ≤ 9223372036854775807 := by decide
  obtain ⟨w1, x, hx, hq1, hA⟩ := ActAt.box w a 38
  have hL1 := hA.load
  have hx1 := x.q.size
  have hlt1 := hA.lt
  have HF := Lib.hid (fits_mask a 4 (by decide) hk)
  go_enter Tryz.func224, Tryz.ntmps224
  go_wp2_with (first | (refine wpList_load_run 38 (.tmp 1) (.pointer (some ⟨w.heap.size, 0, none⟩)) (.agg (actA a)) ?_ ?_ ?_ ?_ ?_; rfl; rfl; rfl; exact hL1 _) | (refine wpList_store_blk (Blk.new x.w 38 act0.cells.toArray) rfl 38 (.tmp 3) (.tmp 11) a.cells rfl rfl rfl (by kernel_rfl) (act_all _) (Nat.le_refl 20) ?_))
  intro W hW hbel
  rw [splice_all _ _ (by rfl)] at hW
  have hqx : Q x.w W := hbel _ _ (Nat.le_refl _) (q_new _ _ _)
  have hqW : Q w W := Q.trans hq1 (Q.trans x.q hqx)
  have hA := ActAt.mk (w0 := W) (g := w.heap.size) (a := a) (Nat.lt_of_lt_of_le hlt1 (Q.trans x.q hqx).size) (range_q hA.range (Q.trans x.q hqx) hlt1)
  have hgs : w.heap.size ≤ x.w.heap.size := Nat.le_trans hq1.size x.q.size
  generalize hg : x.w.heap.size = g at *
  have c3 := hA.get 3 rfl
  rw [hk] at c3
  have c5 := hA.get 5 rfl
  have hL := hA.load
  have hIn : ∀ y : Wd W, ActIn y.w a := fun y => hI.q (Q.trans hqW y.q)
  have hzg : a.group.size ≤ maxLen := ho.strs _ (by simp)
  have hzx : a.text.size ≤ maxLen := ho.strs _ (by simp)
  have hzr : a.target.size ≤ maxLen := ho.strs _ (by simp)
  have hnf : ∀ (y : Wd W) (j : Nat), y.w.frozen? ⟨g, j, none⟩ = false := fun y j => (y.blk hW).frozen j
  have d5 : ∀ y : Wd W, y.w.cell? ⟨g, 5, none⟩ = _ := fun y => (y.blk hW).cell 5
  have f5 : ∀ y : Wd W, y.w.frozen? ⟨g, 5, none⟩ = false := fun y => (y.blk hW).frozen 5
  clear hnf
  have HK := Lib.hid hk
  obtain ⟨v, hv⟩ := Wd.first W
  have HI := Lib.hid hI
  have HO := Lib.hid ho
  clear hbel hL1 hk hI hqx hx1 hlt1 hx hA hq1 hg hml
  clear ho
  clear hIn
  rw [hv]
  clear hv
  cases g1 : ((a.object.size : Int) == 32)
  all_goals
    go_upto_region 80 with (first | (go_at_call 254; refine (rpublic_any _ _).mono ?_; rintro e w' ⟨rfl, rfl⟩))
  all_goals
    refine put1_out (C := fun u => Code.wp _ _ _ _ u) hW hqW hgs ?_
    intro W2 hB hQ2
    have hB : Blk W2 g 38 (ActR.cells { a with object := emptyT }).toArray := hB
    have hLd := Wd.load (P := Tryz.prog) (ty := 38) hB.lt (Blk.range hB) Tryz.underlying38 rfl (by kernel_rfl) ⟨W2, Q.refl W2⟩
    have HQ2 := Lib.hid hQ2
    clear hB hQ2 hW hL
    go_wp2_with (first | (refine wpList_load_run 38 (.tmp 3) (.pointer (some ⟨g, 0, none⟩)) (.agg (actA { a with object := emptyT })) ?_ ?_ ?_ ?_ ?_; rfl; rfl; rfl; exact hLd) | (go_at_call 260; refine (rzero_any { a with object := emptyT } _).mono ?_; rintro e w' ⟨rfl, hq2⟩))
  all_goals
    go_ret
    refine ⟨?_, by first | exact Q.trans HQ2.out hq2 | exact HQ2.out⟩
    rw [HF.out]
    clear c3 hLd HQ2 HI HO hqW hgs
    simp_all [maskOk, conj, inMask, ruleF, ruleB, zeroB, homeB, objectB, targetB, grantB, labelB, setupB, publicB, digestB, shortB, noneE, bodyNone, bareR, sealedScopeB, rgroupB, withinB, cast32, empty_none, toList_nil, intz]
  all_goals (first | rfl | (rw [Bool.eq_iff_iff]; simp; done) | (intros; omega) | (intros; have := noneB_size (s := a.object) (by assumption); omega))
set_option maxRecDepth 100000 in
set_option maxHeartbeats 8000000 in
theorem rfits_5 (a : ActR) (w : World) (hI : ActIn w a) (ho : ActOk a) (hk : a.kind = 5) : Calls Tryz.prog 224 #[.agg (actA a)] w fun e w' => e = .returned (.bool (fitsB a)) ∧ Q w w' := by
  have hml : maxLen ≤ 9223372036854775807 := by decide
  obtain ⟨w1, x, hx, hq1, hA⟩ := ActAt.box w a 38
  have hL1 := hA.load
  have hx1 := x.q.size
  have hlt1 := hA.lt
  have HF := Lib.hid (fits_mask a 5 (by decide) hk)
  go_enter Tryz.func224, Tryz.ntmps224
  go_wp2_with (first | (refine wpList_load_run 38 (.tmp 1) (.pointer (some ⟨w.heap.size, 0, none⟩)) (.agg (actA a)) ?_ ?_ ?_ ?_ ?_; rfl; rfl; rfl; exact hL1 _) | (refine wpList_store_blk (Blk.new x.w 38 act0.cells.toArray) rfl 38 (.tmp 3) (.tmp 11) a.cells rfl rfl rfl (by kernel_rfl) (act_all _) (Nat.le_refl 20) ?_))
  intro W hW hbel
  rw [splice_all _ _ (by rfl)] at hW
  have hqx : Q x.w W := hbel _ _ (Nat.le_refl _) (q_new _ _ _)
  have hqW : Q w W := Q.trans hq1 (Q.trans x.q hqx)
  have hA := ActAt.mk (w0 := W) (g := w.heap.size) (a := a) (Nat.lt_of_lt_of_le hlt1 (Q.trans x.q hqx).size) (range_q hA.range (Q.trans x.q hqx) hlt1)
  have hgs : w.heap.size ≤ x.w.heap.size := Nat.le_trans hq1.size x.q.size
  generalize hg : x.w.heap.size = g at *
  have c3 := hA.get 3 rfl
  rw [hk] at c3
  have c5 := hA.get 5 rfl
  have hL := hA.load
  have hIn : ∀ y : Wd W, ActIn y.w a := fun y => hI.q (Q.trans hqW y.q)
  have hzg : a.group.size ≤ maxLen := ho.strs _ (by simp)
  have hzx : a.text.size ≤ maxLen := ho.strs _ (by simp)
  have hzr : a.target.size ≤ maxLen := ho.strs _ (by simp)
  have hnf : ∀ (y : Wd W) (j : Nat), y.w.frozen? ⟨g, j, none⟩ = false := fun y j => (y.blk hW).frozen j
  have d5 : ∀ y : Wd W, y.w.cell? ⟨g, 5, none⟩ = _ := fun y => (y.blk hW).cell 5
  have f5 : ∀ y : Wd W, y.w.frozen? ⟨g, 5, none⟩ = false := fun y => (y.blk hW).frozen 5
  clear hnf
  have HK := Lib.hid hk
  obtain ⟨v, hv⟩ := Wd.first W
  have HI := Lib.hid hI
  have HO := Lib.hid ho
  clear hbel hL1 hk hI hqx hx1 hlt1 hx hA hq1 hg hml
  clear ho
  clear hIn
  rw [hv]
  clear hv
  cases g1 : ((a.object.size : Int) == 32)
  all_goals
    go_upto_region 80 with (first | (go_at_call 254; refine (rpublic_any _ _).mono ?_; rintro e w' ⟨rfl, rfl⟩))
  all_goals
    refine put1_out (C := fun u => Code.wp _ _ _ _ u) hW hqW hgs ?_
    intro W2 hB hQ2
    have hB : Blk W2 g 38 (ActR.cells { a with object := emptyT }).toArray := hB
    have hLd := Wd.load (P := Tryz.prog) (ty := 38) hB.lt (Blk.range hB) Tryz.underlying38 rfl (by kernel_rfl) ⟨W2, Q.refl W2⟩
    have HQ2 := Lib.hid hQ2
    clear hB hQ2 hW hL
    go_wp2_with (first | (refine wpList_load_run 38 (.tmp 3) (.pointer (some ⟨g, 0, none⟩)) (.agg (actA { a with object := emptyT })) ?_ ?_ ?_ ?_ ?_; rfl; rfl; rfl; exact hLd) | (go_at_call 260; refine (rzero_any { a with object := emptyT } _).mono ?_; rintro e w' ⟨rfl, hq2⟩))
  all_goals
    go_ret
    refine ⟨?_, by first | exact Q.trans HQ2.out hq2 | exact HQ2.out⟩
    rw [HF.out]
    clear c3 hLd HQ2 HI HO hqW hgs
    simp_all [maskOk, conj, inMask, ruleF, ruleB, zeroB, homeB, objectB, targetB, grantB, labelB, setupB, publicB, digestB, shortB, noneE, bodyNone, bareR, sealedScopeB, rgroupB, withinB, cast32, empty_none, toList_nil, intz]
  all_goals (first | rfl | (rw [Bool.eq_iff_iff]; simp; done) | (intros; omega) | (intros; have := noneB_size (s := a.object) (by assumption); omega))
set_option maxRecDepth 100000 in
set_option maxHeartbeats 8000000 in
theorem rfits_6 (a : ActR) (w : World) (hI : ActIn w a) (ho : ActOk a) (hk : a.kind = 6) : Calls Tryz.prog 224 #[.agg (actA a)] w fun e w' => e = .returned (.bool (fitsB a)) ∧ Q w w' := by
  have hml : maxLen ≤ 9223372036854775807 := by decide
  obtain ⟨w1, x, hx, hq1, hA⟩ := ActAt.box w a 38
  have hL1 := hA.load
  have hx1 := x.q.size
  have hlt1 := hA.lt
  have HF := Lib.hid (fits_mask a 6 (by decide) hk)
  go_enter Tryz.func224, Tryz.ntmps224
  go_wp2_with (first | (refine wpList_load_run 38 (.tmp 1) (.pointer (some ⟨w.heap.size, 0, none⟩)) (.agg (actA a)) ?_ ?_ ?_ ?_ ?_; rfl; rfl; rfl; exact hL1 _) | (refine wpList_store_blk (Blk.new x.w 38 act0.cells.toArray) rfl 38 (.tmp 3) (.tmp 11) a.cells rfl rfl rfl (by kernel_rfl) (act_all _) (Nat.le_refl 20) ?_))
  intro W hW hbel
  rw [splice_all _ _ (by rfl)] at hW
  have hqx : Q x.w W := hbel _ _ (Nat.le_refl _) (q_new _ _ _)
  have hqW : Q w W := Q.trans hq1 (Q.trans x.q hqx)
  have hA := ActAt.mk (w0 := W) (g := w.heap.size) (a := a) (Nat.lt_of_lt_of_le hlt1 (Q.trans x.q hqx).size) (range_q hA.range (Q.trans x.q hqx) hlt1)
  have hgs : w.heap.size ≤ x.w.heap.size := Nat.le_trans hq1.size x.q.size
  generalize hg : x.w.heap.size = g at *
  have c3 := hA.get 3 rfl
  rw [hk] at c3
  have c5 := hA.get 5 rfl
  have hL := hA.load
  have hIn : ∀ y : Wd W, ActIn y.w a := fun y => hI.q (Q.trans hqW y.q)
  have hzg : a.group.size ≤ maxLen := ho.strs _ (by simp)
  have hzx : a.text.size ≤ maxLen := ho.strs _ (by simp)
  have hzr : a.target.size ≤ maxLen := ho.strs _ (by simp)
  have hnf : ∀ (y : Wd W) (j : Nat), y.w.frozen? ⟨g, j, none⟩ = false := fun y j => (y.blk hW).frozen j
  have d5 : ∀ y : Wd W, y.w.cell? ⟨g, 5, none⟩ = _ := fun y => (y.blk hW).cell 5
  have f5 : ∀ y : Wd W, y.w.frozen? ⟨g, 5, none⟩ = false := fun y => (y.blk hW).frozen 5
  clear hnf
  have HK := Lib.hid hk
  obtain ⟨v, hv⟩ := Wd.first W
  have HI := Lib.hid hI
  have HO := Lib.hid ho
  clear hbel hL1 hk hI hqx hx1 hlt1 hx hA hq1 hg hml
  clear ho
  clear hIn
  rw [hv]
  clear hv
  cases g1 : ((a.object.size : Int) == 32)
  all_goals
    go_upto_region 80 with (first | (go_at_call 254; refine (rpublic_any _ _).mono ?_; rintro e w' ⟨rfl, rfl⟩))
  all_goals
    refine put1_out (C := fun u => Code.wp _ _ _ _ u) hW hqW hgs ?_
    intro W2 hB hQ2
    have hB : Blk W2 g 38 (ActR.cells { a with object := emptyT }).toArray := hB
    have hLd := Wd.load (P := Tryz.prog) (ty := 38) hB.lt (Blk.range hB) Tryz.underlying38 rfl (by kernel_rfl) ⟨W2, Q.refl W2⟩
    have HQ2 := Lib.hid hQ2
    clear hB hQ2 hW hL
    go_wp2_with (first | (refine wpList_load_run 38 (.tmp 3) (.pointer (some ⟨g, 0, none⟩)) (.agg (actA { a with object := emptyT })) ?_ ?_ ?_ ?_ ?_; rfl; rfl; rfl; exact hLd) | (go_at_call 260; refine (rzero_any { a with object := emptyT } _).mono ?_; rintro e w' ⟨rfl, hq2⟩))
  all_goals
    go_ret
    refine ⟨?_, by first | exact Q.trans HQ2.out hq2 | exact HQ2.out⟩
    rw [HF.out]
    clear c3 hLd HQ2 HI HO hqW hgs
    simp_all [maskOk, conj, inMask, ruleF, ruleB, zeroB, homeB, objectB, targetB, grantB, labelB, setupB, publicB, digestB, shortB, noneE, bodyNone, bareR, sealedScopeB, rgroupB, withinB, cast32, empty_none, toList_nil, intz]
  all_goals (first | rfl | (rw [Bool.eq_iff_iff]; simp; done) | (intros; omega) | (intros; have := noneB_size (s := a.object) (by assumption); omega))
set_option maxRecDepth 100000 in
set_option maxHeartbeats 8000000 in
theorem rfits_13 (a : ActR) (w : World) (hI : ActIn w a) (ho : ActOk a) (hk : a.kind = 13) : Calls Tryz.prog 224 #[.agg (actA a)] w fun e w' => e = .returned (.bool (fitsB a)) ∧ Q w w' := by
  have hml : maxLen ≤ 9223372036854775807 := by decide
  obtain ⟨w1, x, hx, hq1, hA⟩ := ActAt.box w a 38
  have hL1 := hA.load
  have hx1 := x.q.size
  have hlt1 := hA.lt
  have HF := Lib.hid (fits_mask a 13 (by decide) hk)
  go_enter Tryz.func224, Tryz.ntmps224
  go_wp2_with (first | (refine wpList_load_run 38 (.tmp 1) (.pointer (some ⟨w.heap.size, 0, none⟩)) (.agg (actA a)) ?_ ?_ ?_ ?_ ?_; rfl; rfl; rfl; exact hL1 _) | (refine wpList_store_blk (Blk.new x.w 38 act0.cells.toArray) rfl 38 (.tmp 3) (.tmp 11) a.cells rfl rfl rfl (by kernel_rfl) (act_all _) (Nat.le_refl 20) ?_))
  intro W hW hbel
  rw [splice_all _ _ (by rfl)] at hW
  have hqx : Q x.w W := hbel _ _ (Nat.le_refl _) (q_new _ _ _)
  have hqW : Q w W := Q.trans hq1 (Q.trans x.q hqx)
  have hA := ActAt.mk (w0 := W) (g := w.heap.size) (a := a) (Nat.lt_of_lt_of_le hlt1 (Q.trans x.q hqx).size) (range_q hA.range (Q.trans x.q hqx) hlt1)
  have hgs : w.heap.size ≤ x.w.heap.size := Nat.le_trans hq1.size x.q.size
  generalize hg : x.w.heap.size = g at *
  have c3 := hA.get 3 rfl
  rw [hk] at c3
  have c5 := hA.get 5 rfl
  have hL := hA.load
  have hIn : ∀ y : Wd W, ActIn y.w a := fun y => hI.q (Q.trans hqW y.q)
  have hzg : a.group.size ≤ maxLen := ho.strs _ (by simp)
  have hzx : a.text.size ≤ maxLen := ho.strs _ (by simp)
  have hzr : a.target.size ≤ maxLen := ho.strs _ (by simp)
  have hnf : ∀ (y : Wd W) (j : Nat), y.w.frozen? ⟨g, j, none⟩ = false := fun y j => (y.blk hW).frozen j
  have d5 : ∀ y : Wd W, y.w.cell? ⟨g, 5, none⟩ = _ := fun y => (y.blk hW).cell 5
  have f5 : ∀ y : Wd W, y.w.frozen? ⟨g, 5, none⟩ = false := fun y => (y.blk hW).frozen 5
  clear hnf
  have HK := Lib.hid hk
  obtain ⟨v, hv⟩ := Wd.first W
  have HI := Lib.hid hI
  have HO := Lib.hid ho
  clear hbel hL1 hk hI hqx hx1 hlt1 hx hA hq1 hg hml
  clear ho
  clear hIn
  rw [hv]
  clear hv
  cases g1 : ((a.object.size : Int) == 32)
  all_goals
    go_upto_region 80 with (first | (go_at_call 254; refine (rpublic_any _ _).mono ?_; rintro e w' ⟨rfl, rfl⟩))
  all_goals
    refine put1_out (C := fun u => Code.wp _ _ _ _ u) hW hqW hgs ?_
    intro W2 hB hQ2
    have hB : Blk W2 g 38 (ActR.cells { a with object := emptyT }).toArray := hB
    have hLd := Wd.load (P := Tryz.prog) (ty := 38) hB.lt (Blk.range hB) Tryz.underlying38 rfl (by kernel_rfl) ⟨W2, Q.refl W2⟩
    have HQ2 := Lib.hid hQ2
    clear hB hQ2 hW hL
    go_wp2_with (first | (refine wpList_load_run 38 (.tmp 3) (.pointer (some ⟨g, 0, none⟩)) (.agg (actA { a with object := emptyT })) ?_ ?_ ?_ ?_ ?_; rfl; rfl; rfl; exact hLd) | (go_at_call 260; refine (rzero_any { a with object := emptyT } _).mono ?_; rintro e w' ⟨rfl, hq2⟩))
  all_goals
    go_ret
    refine ⟨?_, by first | exact Q.trans HQ2.out hq2 | exact HQ2.out⟩
    rw [HF.out]
    clear c3 hLd HQ2 HI HO hqW hgs
    simp_all [maskOk, conj, inMask, ruleF, ruleB, zeroB, homeB, objectB, targetB, grantB, labelB, setupB, publicB, digestB, shortB, noneE, bodyNone, bareR, sealedScopeB, rgroupB, withinB, cast32, empty_none, toList_nil, intz]
  all_goals (first | rfl | (rw [Bool.eq_iff_iff]; simp; done) | (intros; omega) | (intros; have := noneB_size (s := a.object) (by assumption); omega))
set_option maxRecDepth 100000 in
set_option maxHeartbeats 8000000 in
theorem rfits_20 (a : ActR) (w : World) (hI : ActIn w a) (ho : ActOk a) (hk : a.kind = 20) : Calls Tryz.prog 224 #[.agg (actA a)] w fun e w' => e = .returned (.bool (fitsB a)) ∧ Q w w' := by
  have hml : maxLen ≤ 9223372036854775807 := by decide
  obtain ⟨w1, x, hx, hq1, hA⟩ := ActAt.box w a 38
  have hL1 := hA.load
  have hx1 := x.q.size
  have hlt1 := hA.lt
  have HF := Lib.hid (fits_mask a 20 (by decide) hk)
  go_enter Tryz.func224, Tryz.ntmps224
  go_wp2_with (first | (refine wpList_load_run 38 (.tmp 1) (.pointer (some ⟨w.heap.size, 0, none⟩)) (.agg (actA a)) ?_ ?_ ?_ ?_ ?_; rfl; rfl; rfl; exact hL1 _) | (refine wpList_store_blk (Blk.new x.w 38 act0.cells.toArray) rfl 38 (.tmp 3) (.tmp 11) a.cells rfl rfl rfl (by kernel_rfl) (act_all _) (Nat.le_refl 20) ?_))
  intro W hW hbel
  rw [splice_all _ _ (by rfl)] at hW
  have hqx : Q x.w W := hbel _ _ (Nat.le_refl _) (q_new _ _ _)
  have hqW : Q w W := Q.trans hq1 (Q.trans x.q hqx)
  have hA := ActAt.mk (w0 := W) (g := w.heap.size) (a := a) (Nat.lt_of_lt_of_le hlt1 (Q.trans x.q hqx).size) (range_q hA.range (Q.trans x.q hqx) hlt1)
  have hgs : w.heap.size ≤ x.w.heap.size := Nat.le_trans hq1.size x.q.size
  generalize hg : x.w.heap.size = g at *
  have c3 := hA.get 3 rfl
  rw [hk] at c3
  have c5 := hA.get 5 rfl
  have hL := hA.load
  have hIn : ∀ y : Wd W, ActIn y.w a := fun y => hI.q (Q.trans hqW y.q)
  have hzg : a.group.size ≤ maxLen := ho.strs _ (by simp)
  have hzx : a.text.size ≤ maxLen := ho.strs _ (by simp)
  have hzr : a.target.size ≤ maxLen := ho.strs _ (by simp)
  have hnf : ∀ (y : Wd W) (j : Nat), y.w.frozen? ⟨g, j, none⟩ = false := fun y j => (y.blk hW).frozen j
  have d5 : ∀ y : Wd W, y.w.cell? ⟨g, 5, none⟩ = _ := fun y => (y.blk hW).cell 5
  have f5 : ∀ y : Wd W, y.w.frozen? ⟨g, 5, none⟩ = false := fun y => (y.blk hW).frozen 5
  clear hnf
  have HK := Lib.hid hk
  obtain ⟨v, hv⟩ := Wd.first W
  have HI := Lib.hid hI
  have HO := Lib.hid ho
  clear hbel hL1 hk hI hqx hx1 hlt1 hx hA hq1 hg hml
  clear ho
  clear hIn
  rw [hv]
  clear hv
  cases g1 : ((a.object.size : Int) == 32)
  all_goals
    go_upto_region 80 with (first | (go_at_call 254; refine (rpublic_any _ _).mono ?_; rintro e w' ⟨rfl, rfl⟩))
  all_goals
    refine put1_out (C := fun u => Code.wp _ _ _ _ u) hW hqW hgs ?_
    intro W2 hB hQ2
    have hB : Blk W2 g 38 (ActR.cells { a with object := emptyT }).toArray := hB
    have hLd := Wd.load (P := Tryz.prog) (ty := 38) hB.lt (Blk.range hB) Tryz.underlying38 rfl (by kernel_rfl) ⟨W2, Q.refl W2⟩
    have HQ2 := Lib.hid hQ2
    clear hB hQ2 hW hL
    go_wp2_with (first | (refine wpList_load_run 38 (.tmp 3) (.pointer (some ⟨g, 0, none⟩)) (.agg (actA { a with object := emptyT })) ?_ ?_ ?_ ?_ ?_; rfl; rfl; rfl; exact hLd) | (go_at_call 260; refine (rzero_any { a with object := emptyT } _).mono ?_; rintro e w' ⟨rfl, hq2⟩))
  all_goals
    go_ret
    refine ⟨?_, by first | exact Q.trans HQ2.out hq2 | exact HQ2.out⟩
    rw [HF.out]
    clear c3 hLd HQ2 HI HO hqW hgs
    simp_all [maskOk, conj, inMask, ruleF, ruleB, zeroB, homeB, objectB, targetB, grantB, labelB, setupB, publicB, digestB, shortB, noneE, bodyNone, bareR, sealedScopeB, rgroupB, withinB, cast32, empty_none, toList_nil, intz]
  all_goals (first | rfl | (rw [Bool.eq_iff_iff]; simp; done) | (intros; omega) | (intros; have := noneB_size (s := a.object) (by assumption); omega))
end Go.Proofs.YtomkeaeegdjhnaaGreatDoor.Item
