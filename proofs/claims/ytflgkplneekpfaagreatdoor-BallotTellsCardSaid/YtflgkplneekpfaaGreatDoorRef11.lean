/-
  The contracts of package agoraref11's in, Right, Name and Ids.
-/
import Derived.Test.YtflgkplneekpfaaGreatDoorOks
import Derived.Test.YtflgkplneekpfaaGreatDoorIdent2
import Derived.Test.YtflgkplneekpfaaGreatDoorActB
import Derived.Test.YtflgkplneekpfaaGreatDoorActSmall
set_option linter.unusedVariables false
set_option linter.unusedSimpArgs false
namespace Go.Proofs.YtflgkplneekpfaaGreatDoor.Item
open Go.RowKit Grp Mem _root_.Go.Proofs.YtflgkplneekpfaaGreatDoor.Code Sha Sign

def inI (c lo hi : Int) : Bool := decide (lo ≤ c) && decide (c ≤ hi)
theorem rin_any (c lo hi : Int) (w : World) : Calls Tryz.prog 273 #[.int .u8 c, .int .u8 lo, .int .u8 hi] w fun e w' => e = .returned (.bool (inI c lo hi)) ∧ w = w' := by
  by_cases h : lo ≤ c
  · go_enter Tryz.func273, Tryz.ntmps273
    go_wp2
    go_ret
    exact ⟨by simp [inI, h], rfl⟩
  · have h2 : decide (lo ≤ c) = false := by simpa using h
    go_enter Tryz.func273, Tryz.ntmps273
    go_wp2
    go_ret
    exact ⟨by simp [inI, h2], rfl⟩

theorem len_eqI (s : ByteArray) (n : Nat) : ((s.size : Int) == (n : Int)) = decide (s.size = n) := by
  rw [Bool.eq_iff_iff]
  simp
  omega

set_option maxHeartbeats 1000000 in
theorem ridRight_any (s : ByteArray) (w : World) (hs : s.size ≤ maxLen) : Calls Tryz.prog 257 #[.string s] w fun e w' => e = .returned (.bool (idB s)) ∧ w = w' := by
  have hml : maxLen ≤ 9223372036854775807 := by decide
  go_enter Tryz.func257, Tryz.ntmps257
  go_wp2_with fail
  go_loopw [3] (fun i wr => ∃ k : Nat, i = .int .i64 k ∧ k ≤ s.size ∧ Hid ((s.data.toList.take k).all hexC = true) ∧ wr = w) (fun i _ => s.size - (intOf i).toNat)
  case atStart => exact ⟨0, rfl, Nat.zero_le _, Lib.hid (by simp), rfl⟩
  case round =>
    obtain ⟨k, rfl, hk, hall, rfl⟩ := hrel
    by_cases hp : k < s.size
    · have hb : s[k].toNat < 256 := s[k].toNat_lt
      have hst : Hid ((s.data.toList.take (k + 1)).all hexC = hexC s[k]) := Lib.hid (by rw [take_all_snoc s hexC k hp, hall.out]; rfl)
      have hres := Lib.hid (fun hx => idB_no s (fun _ => all_of_not s hexC k hp hx))
      have hx : Hid (hexC s[k] = (inI (s[k].toNat : Int) 48 57 || inI (s[k].toNat : Int) 97 102)) := Lib.hid (by
        unfold hexC inI
        rw [Bool.eq_iff_iff]
        simp only [Bool.or_eq_true, Bool.and_eq_true, decide_eq_true_eq]
        omega)
      clear hall
      go_wp2_with (go_at_call 273; refine (rin_any _ _ _ _).mono ?_; rintro e w' ⟨rfl, rfl⟩)
      all_goals
        first
          | (go_ret
             exact ⟨by rw [hres.out (by rw [hx.out]; simp_all)]; rfl, rfl⟩)
          | exact ⟨⟨k + 1, by go_num, by omega, Lib.hid (by rw [hst.out, hx.out]; simp_all), by trivial⟩, by simp only [intOf]; omega⟩
    · have hres : Hid (idB s = decide (s.size = 16)) := by
        refine Lib.hid ?_
        have := hall.out
        rw [List.take_of_length_le (by rw [ba_length]; omega)] at this
        simp [idB, this]
      clear hall
      go_wp2
      go_ret
      exact ⟨by rw [hres.out, ← len_eqI s 16]; rfl, rfl⟩

theorem name_step' (s : ByteArray) (k : Nat) (h : k < s.size) (hk : 0 < k → nameL (s.data.toList.take k) = true) :
    ((if k = 0 then lowC s[k] else tailC s[k]) = true → nameL (s.data.toList.take (k + 1)) = true) ∧ ((if k = 0 then lowC s[k] else tailC s[k]) = false → nameB s = false) := by
  by_cases h24 : s.size ≤ 24
  · exact name_step s k h hk h24
  · refine ⟨fun h1 => ?_, fun _ => nameB_long s (by omega)⟩
    have hl : k < s.data.toList.length := by rw [ba_length]; exact h
    have hg : s.data.toList[k] = s[k] := rfl
    rw [List.take_succ_eq_append_getElem hl, hg]
    by_cases h0 : k = 0
    · subst h0
      simpa [nameL] using h1
    · rw [nameL_snoc _ _ (by intro hn; have := congrArg List.length hn; rw [List.length_take, List.length_nil] at this; omega), hk (by omega)]
      rw [if_neg h0] at h1
      rw [h1]
      rfl
set_option maxHeartbeats 2000000 in
theorem rname_any (s : ByteArray) (w : World) (hs : s.size ≤ maxLen) : Calls Tryz.prog 275 #[.string s] w fun e w' => e = .returned (.bool (nameB s)) ∧ w = w' := by
  have hml : maxLen ≤ 9223372036854775807 := by decide
  go_enter Tryz.func275, Tryz.ntmps275
  go_wp2_with fail
  go_loopw [3] (fun i wr => ∃ k : Nat, i = .int .i64 k ∧ k ≤ s.size ∧ Hid (0 < k → nameL (s.data.toList.take k) = true) ∧ wr = w) (fun i _ => s.size - (intOf i).toNat)
  case atStart => exact ⟨0, rfl, Nat.zero_le _, Lib.hid (by simp), rfl⟩
  case round =>
    obtain ⟨k, rfl, hk, hall, rfl⟩ := hrel
    by_cases hp : k < s.size
    · have hb : s[k].toNat < 256 := s[k].toNat_lt
      have hst := Lib.hid (name_step' s k hp hall.out)
      have hx : Hid ((if k = 0 then lowC s[k] else tailC s[k]) = (inI (s[k].toNat : Int) 97 122 || (!decide ((k : Int) = 0) && (inI (s[k].toNat : Int) 48 57 || decide ((s[k].toNat : Int) = 95))))) := Lib.hid (by
        by_cases h0 : k = 0
        · rw [if_pos h0, show decide ((k : Int) = 0) = true by simp [h0]]
          unfold lowC inI
          rw [Bool.eq_iff_iff]
          simp only [Bool.or_eq_true, Bool.and_eq_true, decide_eq_true_eq, Bool.not_true, Bool.false_and, Bool.false_eq_true, or_false]
          omega
        · rw [if_neg h0, show decide ((k : Int) = 0) = false by simp [h0]]
          unfold tailC lowC inI
          rw [Bool.eq_iff_iff]
          simp only [Bool.or_eq_true, Bool.and_eq_true, decide_eq_true_eq, Bool.not_false, true_and]
          omega)
      clear hall
      go_wp2_with (go_at_call 273; refine (rin_any _ _ _ _).mono ?_; rintro e w' ⟨rfl, rfl⟩)
      all_goals
        first
          | (go_ret
             exact ⟨by rw [hst.out.2 (by rw [hx.out]; simp_all)]; rfl, rfl⟩)
          | exact ⟨⟨k + 1, by go_num, by omega, Lib.hid fun _ => (hst.out.1 (by rw [hx.out]; simp_all)), by trivial⟩, by simp only [intOf]; omega⟩
    · have hres : Hid (nameB s = (decide (1 ≤ (s.size : Int)) && decide ((s.size : Int) ≤ 24))) := by
        refine Lib.hid ?_
        by_cases h0 : 0 < s.size
        · have := hall.out (by omega)
          rw [List.take_of_length_le (by rw [ba_length]; omega)] at this
          rw [nameB, this, Bool.and_true, show decide (1 ≤ (s.size : Int)) = true by simp; omega, Bool.true_and, decide_eq_decide]
          omega
        · rw [nameB_empty s h0, show decide (1 ≤ (s.size : Int)) = false by simp; omega, Bool.false_and]
      clear hall
      by_cases h1 : 1 ≤ (s.size : Int)
      · go_wp2
        go_ret
        exact ⟨by rw [hres.out]; simp [h1], rfl⟩
      · have h2 : decide (1 ≤ (s.size : Int)) = false := by simpa using h1
        go_wp2
        go_ret
        exact ⟨by rw [hres.out]; simp [h2], rfl⟩

set_option maxHeartbeats 2000000 in
theorem rids_any (A : Option Addr) (c : Nat) (l : List ByteArray) (w : World) (hS : Strs w A l) (hc : l.length ≤ 9223372036854775807) (hz : ∀ s ∈ l, s.size ≤ maxLen) : Calls Tryz.prog 261 #[.slice A l.length c] w fun e w' => e = .returned (.bool (idsB l)) ∧ Q w w' := by
  go_enter Tryz.func261, Tryz.ntmps261
  go_wp2_with fail
  go_loopw [3] (fun i wr => ∃ k : Nat, i = .int .i64 k ∧ k ≤ l.length ∧ Hid (idsTo (l.take k) = true) ∧ Q w wr) (fun i _ => l.length - (intOf i).toNat)
  case atStart => exact ⟨0, rfl, Nat.zero_le _, Lib.hid rfl, Q.refl _⟩
  case round =>
    obtain ⟨k, rfl, hk, hto, hq⟩ := hrel
    by_cases hlt : k < l.length
    · obtain ⟨w1, x, rfl, hq1⟩ := Wd.enter hq
      obtain ⟨b, o, rfl, hb, hcell⟩ := (hS.q hq1) (by omega)
      have hst := idsTo_step l k hlt
      rw [hto.out, Bool.true_and] at hst
      have hzk := hz l[k] (List.getElem_mem hlt)
      have c1 : ∀ y : Wd w1, y.w.cell? ⟨b, o + k, none⟩ = some (.string l[k]) := fun y => (y.cell hb).trans (hcell k hlt)
      have HF := Lib.hid (idsTo_false l (k + 1))
      have hcal : ∀ y : Wd w1, Calls Tryz.prog 257 #[.string l[k]] y.w fun e w' => e = .returned (.bool (idB l[k])) ∧ y.w = w' := fun y => ridRight_any _ _ hzk
      cases hid : idB l[k] with
      | false =>
        rw [hid] at hcal hst
        have HST : Hid (idsTo (l.take (k + 1)) = false) := Lib.hid (by rw [hst]; rfl)
        clear hst hcell hto hid hzk
        generalize l[k] = z at *
        go_wp2_with fail
        refine wp_region_wd x (by kernel_rfl) (by kernel_rfl) ?_
        repeat (go_big_quiet_step (exact Wd.calm _ (hcal _)))
        refine wpQuiet_nil ?_
        rintro w'' ⟨y, rfl⟩
        go_wp2
        go_ret
        exact ⟨by rw [HF.out HST.out]; rfl, Q.trans hq1 y.q⟩
      | true =>
        rw [hid] at hcal hst
        by_cases h0 : k = 0
        · have n0 : ¬ 0 < k := by omega
          have HST : Hid (idsTo (l.take (k + 1)) = true) := Lib.hid (by rw [hst]; simp [h0])
          clear hst hcell hto hid hzk h0
          generalize l[k] = z at *
          go_wp2_with fail
          refine wp_region_wd x (by kernel_rfl) (by kernel_rfl) ?_
          repeat (go_big_quiet_step (exact Wd.calm _ (hcal _)))
          refine wpQuiet_nil ?_
          rintro w'' ⟨y, rfl⟩
          go_wp2
          exact ⟨⟨k + 1, by go_num, by omega, HST, Q.trans hq1 y.q⟩, by simp only [intOf]; omega⟩
        · have hk1 : (k : Int) - 1 < (l.length : Int) := by omega
          have hk2 : (0 : Int) ≤ (k : Int) - 1 := by omega
          have n0 : 0 < k := by omega
          have c2 : ∀ y : Wd w1, y.w.cell? ⟨b, o + (k - 1), none⟩ = some (.string (l.getD (k - 1) ⟨#[]⟩)) := fun y => by
            rw [y.cell hb, hcell (k - 1) (by omega), List.getD_eq_getElem?_getD, List.getElem?_eq_getElem (by omega)]
            rfl
          have HST : Hid (idsTo (l.take (k + 1)) = lessB (l.getD (k - 1) ⟨#[]⟩) l[k]) := Lib.hid (by rw [hst]; simp [h0])
          clear hst hcell hto hid hzk h0
          generalize l[k] = z at *
          generalize l.getD (k - 1) ⟨#[]⟩ = z1 at *
          go_wp2_with fail
          refine wp_region_wd x (by kernel_rfl) (by kernel_rfl) ?_
          repeat (go_big_quiet_step (exact Wd.calm _ (hcal _)))
          refine wpQuiet_nil ?_
          rintro w'' ⟨y, rfl⟩
          have hpo := Q.trans hq1 y.q
          go_wp2
          all_goals try simp only [Bool.not_eq_true', Bool.not_eq_false', Bool.not_eq_true, Bool.not_eq_false] at *
          all_goals
            first
              | (go_ret
                 exact ⟨by rw [HF.out (by rw [HST.out]; assumption)]; rfl, hpo⟩)
              | exact ⟨⟨k + 1, by go_num, by omega, Lib.hid (by rw [HST.out]; assumption), hpo⟩, by simp only [intOf]; omega⟩
    · have hks : k = l.length := by omega
      have hres : Hid (idsB l = decide ((l.length : Int) ≤ 64)) := by
        refine Lib.hid ?_
        have := hto.out
        rw [hks, List.take_length] at this
        unfold idsTo at this
        unfold idsB
        rw [Bool.and_eq_true] at this
        rw [this.1, this.2, Bool.and_true, Bool.and_true, decide_eq_decide]
        omega
      clear hks hto
      go_wp2
      go_ret
      exact ⟨by rw [hres.out]; rfl, hq⟩
end Go.Proofs.YtflgkplneekpfaaGreatDoor.Item
