/-
  The contracts of agoraref12.Same and agoraref13.sameDecision (printed by gen_refsame.py).
-/
import Derived.Test.YtjfcllanochhmaaGreatDoorItemC
set_option linter.unusedVariables false
set_option linter.unusedSimpArgs false
namespace Go.Proofs.YtjfcllanochhmaaGreatDoor.Item
open Go.RowKit Grp Mem _root_.Go.Proofs.YtjfcllanochhmaaGreatDoor.Code Sha Sign

theorem act_to_no {a b : ActR} (h : a.to ≠ b.to) : a.same b = false := by
  simp [ActR.same, conj, h]
theorem act_wr_no {a b : ActR} (h : a.wraps.map WrapV.tup ≠ b.wraps.map WrapV.tup) : a.same b = false := by
  simp [ActR.same, conj, h]
theorem dec_to_no {a b : DecR} (h : a.to ≠ b.to) : a.same b = false := by
  simp [DecR.same, conj, h]
theorem len_ne {α : Type} {l m : List α} (h : l.length ≠ m.length) : l ≠ m := fun e => h (by rw [e])
theorem nat_ne {a b : Nat} (h : a ≠ b) : ((a : Int) != (b : Int)) = true := by simp; omega
theorem nat_eq {a b : Nat} (h : a = b) : ((a : Int) != (b : Int)) = false := by simp [h]

set_option maxRecDepth 100000 in
set_option maxHeartbeats 16000000 in
theorem ractSame_any (a b : ActR) (w : World) (hI : ActIn w a) (hJ : ActIn w b) : Calls Tryz.prog 68 #[.agg (actA a), .agg (actA b)] w fun e w' => e = .returned (.bool (a.same b)) ∧ Q w w' := by
  obtain ⟨w1, x, hx, hq1, hA, hB⟩ := ActAt.two w a b 39
  have c0 := hA.get 0 rfl
  have d0 := hB.get 0 rfl
  have c1 := hA.get 1 rfl
  have d1 := hB.get 1 rfl
  have c2 := hA.get 2 rfl
  have d2 := hB.get 2 rfl
  have c3 := hA.get 3 rfl
  have d3 := hB.get 3 rfl
  have c4 := hA.get 4 rfl
  have d4 := hB.get 4 rfl
  have c5 := hA.get 5 rfl
  have d5 := hB.get 5 rfl
  have c6 := hA.get 6 rfl
  have d6 := hB.get 6 rfl
  have c7 := hA.get 7 rfl
  have d7 := hB.get 7 rfl
  have c8 := hA.get 8 rfl
  have d8 := hB.get 8 rfl
  have c9 := hA.get 9 rfl
  have d9 := hB.get 9 rfl
  have c10 := hA.get 10 rfl
  have d10 := hB.get 10 rfl
  have c11 := hA.get 11 rfl
  have d11 := hB.get 11 rfl
  have c12 := hA.get 12 rfl
  have d12 := hB.get 12 rfl
  have c13 := hA.get 13 rfl
  have d13 := hB.get 13 rfl
  have c14 := hA.get 14 rfl
  have d14 := hB.get 14 rfl
  have c15 := hA.get 15 rfl
  have d15 := hB.get 15 rfl
  have c16 := hA.get 16 rfl
  have d16 := hB.get 16 rfl
  have c17 := hA.get 17 rfl
  have d17 := hB.get 17 rfl
  have c18 := hA.get 18 rfl
  have d18 := hB.get 18 rfl
  have c19 := hA.get 19 rfl
  have d19 := hB.get 19 rfl
  have hBox := boxEq
  have hSig := sigEq2
  have hS : ∀ y : Wd w1, Strs y.w a.toA a.to := fun y => (hI.q (Q.trans hq1 y.q)).to
  have hT : ∀ y : Wd w1, Strs y.w b.toA b.to := fun y => (hJ.q (Q.trans hq1 y.q)).to
  have hU : ∀ y : Wd w1, Wrs y.w a.wrA a.wraps := fun y => (hI.q (Q.trans hq1 y.q)).wraps
  have hV : ∀ y : Wd w1, Wrs y.w b.wrA b.wraps := fun y => (hJ.q (Q.trans hq1 y.q)).wraps
  have l1 := hI.toLen
  have l2 := hJ.toLen
  have l3 := hI.wrLen
  have l4 := hJ.wrLen
  clear hA hB
  by_cases e1 : a.to.length = b.to.length
  rotate_left
  · have n1 := nat_ne e1
    have HR := Lib.hid (act_to_no (len_ne e1))
    clear e1
    go_enter Tryz.func68, Tryz.ntmps68
    go_wp2
    go_ret
    exact ⟨by rw [HR.out]; rfl, Q.trans hq1 x.q⟩
  by_cases e2 : a.wraps.length = b.wraps.length
  rotate_left
  · have n1 := nat_eq e1
    have n2 := nat_ne e2
    have HR := Lib.hid (act_wr_no (a := a) (b := b) (len_ne (by simpa using e2)))
    clear e1 e2
    go_enter Tryz.func68, Tryz.ntmps68
    go_wp2
    go_ret
    exact ⟨by rw [HR.out]; rfl, Q.trans hq1 x.q⟩
  have n1 := nat_eq e1
  have n2 := nat_eq e2
  have HL := Lib.hid e1
  have HL2 := Lib.hid e2
  clear e1 e2
  go_enter Tryz.func68, Tryz.ntmps68
  go_wp2_with fail
  clear n1 n2
  go_loopw [5] (fun i wr => ∃ (k : Nat) (z : Wd w1), i = .int .i64 k ∧ wr = z.w ∧ k ≤ a.to.length ∧ Hid (a.to.take k = b.to.take k)) (fun i _ => a.to.length - (intOf i).toNat)
  case atStart => exact ⟨0, x, rfl, rfl, Nat.zero_le _, Lib.hid rfl⟩
  case round =>
    obtain ⟨k, z, rfl, rfl, hk, hto⟩ := hrel
    by_cases hlt : k < a.to.length
    · have hlt2 : k < b.to.length := by rw [← HL.out]; exact hlt
      obtain ⟨p, o, eA, hp, hcell⟩ := (hS ⟨w1, Q.refl _⟩) (by omega)
      obtain ⟨p2, o2, eB, hp2, hcell2⟩ := (hT ⟨w1, Q.refl _⟩) (by omega)
      rw [eA] at c9
      rw [eB] at d9
      clear eA eB
      have u0 : ∀ y : Wd w1, y.w.cell? ⟨p, o + k, none⟩ = some (.string a.to[k]) := fun y => (y.cell hp).trans (hcell k hlt)
      have u1 : ∀ y : Wd w1, y.w.cell? ⟨p2, o2 + k, none⟩ = some (.string b.to[k]) := fun y => (y.cell hp2).trans (hcell2 k hlt2)
      have hk0 : (0 : Int) ≤ (k : Int) := by omega
      have hk1 : (k : Int) < (a.to.length : Int) := by omega
      have hk2 : (k : Int) < (b.to.length : Int) := by omega
      have HST := Lib.hid (take_step a.to b.to k hlt hlt2 hto.out)
      have HNE := Lib.hid (ne_at a.to b.to k hlt hlt2)
      clear hcell hcell2 hto
      generalize a.to[k] = u at *
      generalize b.to[k] = v at *
      by_cases huv : u = v
      · have HST2 := Lib.hid (HST.out huv)
        clear HST HNE
        subst huv
        go_wp2
        refine wp_region_wd z (by kernel_rfl) (by kernel_rfl) ?_
        repeat (go_big_quiet_step (fail))
        refine wpQuiet_nil ?_
        rintro w'' ⟨y, rfl⟩
        go_wp2
        exact ⟨⟨k + 1, y, by go_num, rfl, by omega, HST2⟩, by simp only [intOf]; omega⟩
      · have huv' : (u.toList == v.toList) = false := beq_eq_false_iff_ne.2 (str_ne huv)
        have HR := Lib.hid (act_to_no (HNE.out huv))
        clear huv
        go_wp2
        refine wp_region_wd z (by kernel_rfl) (by kernel_rfl) ?_
        repeat (go_big_quiet_step (fail))
        refine wpQuiet_nil ?_
        rintro w'' ⟨y, rfl⟩
        go_wp2
        go_ret
        exact ⟨by rw [HR.out]; rfl, Q.trans hq1 y.q⟩
    have hks : k = a.to.length := by omega
    have HTO : Hid (a.to = b.to) := Lib.hid (by
      have := hto.out
      rwa [List.take_of_length_le (by omega), List.take_of_length_le (by rw [← HL.out]; omega)] at this)
    clear hks hto hk
    go_wp2_with fail
    obtain ⟨x2, hx2⟩ : ∃ x2 : Wd w1, x2 = z := ⟨_, rfl⟩
    rw [← hx2]
    clear hx2
    go_loopw [6] (fun i wr => ∃ (k : Nat) (z : Wd w1), i = .int .i64 k ∧ wr = z.w ∧ k ≤ a.wraps.length ∧ Hid ((a.wraps.map WrapV.tup).take k = (b.wraps.map WrapV.tup).take k)) (fun i _ => a.wraps.length - (intOf i).toNat)
    case atStart => exact ⟨0, x2, rfl, rfl, Nat.zero_le _, Lib.hid rfl⟩
    case round =>
      obtain ⟨k2, z2, rfl, rfl, hk, hto⟩ := hrel
      by_cases hlt : k2 < a.wraps.length
      · have hlt2 : k2 < b.wraps.length := by rw [← HL2.out]; exact hlt
        obtain ⟨p, o, eA, hp, hcell⟩ := (hU ⟨w1, Q.refl _⟩) (by omega)
        obtain ⟨p2, o2, eB, hp2, hcell2⟩ := (hV ⟨w1, Q.refl _⟩) (by omega)
        rw [eA] at c15
        rw [eB] at d15
        clear eA eB
        have u0 := Wd.get (w0 := w1) hp (hcell k2 hlt) 0 rfl
        have u1 := Wd.get (w0 := w1) hp (hcell k2 hlt) 1 rfl
        have u2 := Wd.get (w0 := w1) hp (hcell k2 hlt) 2 rfl
        have u3 := Wd.get (w0 := w1) hp (hcell k2 hlt) 3 rfl
        have u4 := Wd.get (w0 := w1) hp (hcell k2 hlt) 4 rfl
        have v0 := Wd.get (w0 := w1) hp2 (hcell2 k2 hlt2) 0 rfl
        have v1 := Wd.get (w0 := w1) hp2 (hcell2 k2 hlt2) 1 rfl
        have v2 := Wd.get (w0 := w1) hp2 (hcell2 k2 hlt2) 2 rfl
        have v3 := Wd.get (w0 := w1) hp2 (hcell2 k2 hlt2) 3 rfl
        have v4 := Wd.get (w0 := w1) hp2 (hcell2 k2 hlt2) 4 rfl
        simp only [Nat.add_zero] at u0 v0
        have hk0 : (0 : Int) ≤ (k2 : Int) := by omega
        have hk1 : (k2 : Int) < (a.wraps.length : Int) := by omega
        have hk2 : (k2 : Int) < (b.wraps.length : Int) := by omega
        have HST := Lib.hid (take_step (a.wraps.map WrapV.tup) (b.wraps.map WrapV.tup) k2 (by simpa using hlt) (by simpa using hlt2) hto.out)
        simp only [List.getElem_map] at HST
        have HNE := Lib.hid (ne_at (a.wraps.map WrapV.tup) (b.wraps.map WrapV.tup) k2 (by simpa using hlt) (by simpa using hlt2))
        simp only [List.getElem_map] at HNE
        clear hcell hcell2 hto hBox hSig c0 d0 c1 d1 c2 d2 c3 d3 c4 d4 c5 d5 c6 d6 c7 d7 c8 d8 c10 d10 c11 d11 c12 d12 c13 d13 c14 d14 c16 d16 c17 d17 c18 d18 c19 d19
        generalize a.wraps[k2] = u at *
        generalize b.wraps[k2] = v at *
        by_cases huv : u.tup = v.tup
        · have hcmp := wrapNe_yes huv
          have hcg := wrapGuard
          have HU := Lib.hid huv
          clear huv
          go_wp2
          refine wp_region_wd z2 (by kernel_rfl) (by kernel_rfl) ?_
          repeat (go_big_quiet_step (fail))
          refine wpQuiet_nil ?_
          rintro w'' ⟨y, rfl⟩
          go_wp2
          exact ⟨⟨k2 + 1, y, by go_num, rfl, by omega, Lib.hid (HST.out HU.out)⟩, by simp only [intOf]; omega⟩
        · have hcmp := wrapNe_no huv
          have hcg := wrapGuard
          have HR := Lib.hid (act_wr_no (HNE.out huv))
          clear huv
          go_wp2
          refine wp_region_wd z2 (by kernel_rfl) (by kernel_rfl) ?_
          repeat (go_big_quiet_step (fail))
          refine wpQuiet_nil ?_
          rintro w'' ⟨y, rfl⟩
          go_wp2
          go_ret
          exact ⟨by rw [HR.out]; rfl, Q.trans hq1 y.q⟩
      have hks : k2 = a.wraps.length := by omega
      have HWR : Hid (a.wraps.map WrapV.tup = b.wraps.map WrapV.tup) := Lib.hid (by
        have := hto.out
        rwa [List.take_of_length_le (by rw [List.length_map]; omega), List.take_of_length_le (by rw [List.length_map, ← HL2.out]; omega)] at this)
      clear hks hto hk c9 d9 hU hV hS hT l1 l2 l3 l4 hI hJ
      go_wp2
      all_goals
        go_ret
        refine ⟨?_, Q.trans hq1 (Wd.q _)⟩
        clear c0 d0 c1 d1 c2 d2 c3 d3 c4 d4 c5 d5 c6 d6 c7 d7 c8 d8 c10 d10 c11 d11 c12 d12 c13 d13 c14 d14 c15 d15 c16 d16 c17 d17 c18 d18 c19 d19 hx hBox hSig hlt
        simp only [str_iff] at *
        simp [ActR.same, conj, HTO.out, HWR.out, *]
      all_goals exact fun e1 e2 e3 => absurd ⟨e1, e2, e3⟩ ‹¬(a.bn = b.bn ∧ a.bd = b.bd ∧ a.bt = b.bt)›
set_option maxRecDepth 100000 in
set_option maxHeartbeats 16000000 in
theorem rdecSame_any (a b : DecR) (w : World) (hI : DecIn w a) (hJ : DecIn w b) : Calls Tryz.prog 69 #[.agg (decA a), .agg (decA b)] w fun e w' => e = .returned (.bool (a.same b)) ∧ Q w w' := by
  obtain ⟨w1, x, hx, hq1, ⟨hA1, hA2⟩, hB1, hB2⟩ := boxed_two w 45 a.cells b.cells
  have hx : (w.alloc (.cells (decA a) 45)).alloc (.cells (decA b) 45) = x.w := hx
  have c0 := Wd.at0 hA1 hA2 0 rfl
  have d0 := Wd.at0 hB1 hB2 0 rfl
  have c1 := Wd.at0 hA1 hA2 1 rfl
  have d1 := Wd.at0 hB1 hB2 1 rfl
  have c2 := Wd.at0 hA1 hA2 2 rfl
  have d2 := Wd.at0 hB1 hB2 2 rfl
  have c3 := Wd.at0 hA1 hA2 3 rfl
  have d3 := Wd.at0 hB1 hB2 3 rfl
  have c4 := Wd.at0 hA1 hA2 4 rfl
  have d4 := Wd.at0 hB1 hB2 4 rfl
  have c5 := Wd.at0 hA1 hA2 5 rfl
  have d5 := Wd.at0 hB1 hB2 5 rfl
  have c6 := Wd.at0 hA1 hA2 6 rfl
  have d6 := Wd.at0 hB1 hB2 6 rfl
  have c7 := Wd.at0 hA1 hA2 7 rfl
  have d7 := Wd.at0 hB1 hB2 7 rfl
  have c8 := Wd.at0 hA1 hA2 8 rfl
  have d8 := Wd.at0 hB1 hB2 8 rfl
  have c9 := Wd.at0 hA1 hA2 9 rfl
  have d9 := Wd.at0 hB1 hB2 9 rfl
  have c10 := Wd.at0 hA1 hA2 10 rfl
  have d10 := Wd.at0 hB1 hB2 10 rfl
  have c11 := Wd.at0 hA1 hA2 11 rfl
  have d11 := Wd.at0 hB1 hB2 11 rfl
  have hSig := sigEq2
  have hS : ∀ y : Wd w1, Strs y.w a.toA a.to := fun y => (hI.q (Q.trans hq1 y.q)).to
  have hT : ∀ y : Wd w1, Strs y.w b.toA b.to := fun y => (hJ.q (Q.trans hq1 y.q)).to
  have l1 := hI.toLen
  have l2 := hJ.toLen
  clear hA1 hA2 hB1 hB2
  by_cases e1 : a.to.length = b.to.length
  rotate_left
  · have n1 := nat_ne e1
    have HR := Lib.hid (dec_to_no (len_ne e1))
    clear e1
    go_enter Tryz.func69, Tryz.ntmps69
    go_wp2
    go_ret
    exact ⟨by rw [HR.out]; rfl, Q.trans hq1 x.q⟩
  have n1 := nat_eq e1
  have HL := Lib.hid e1
  clear e1
  go_enter Tryz.func69, Tryz.ntmps69
  go_wp2_with fail
  clear n1
  go_loopw [5] (fun i wr => ∃ (k : Nat) (z : Wd w1), i = .int .i64 k ∧ wr = z.w ∧ k ≤ a.to.length ∧ Hid (a.to.take k = b.to.take k)) (fun i _ => a.to.length - (intOf i).toNat)
  case atStart => exact ⟨0, x, rfl, rfl, Nat.zero_le _, Lib.hid rfl⟩
  case round =>
    obtain ⟨k, z, rfl, rfl, hk, hto⟩ := hrel
    by_cases hlt : k < a.to.length
    · have hlt2 : k < b.to.length := by rw [← HL.out]; exact hlt
      obtain ⟨p, o, eA, hp, hcell⟩ := (hS ⟨w1, Q.refl _⟩) (by omega)
      obtain ⟨p2, o2, eB, hp2, hcell2⟩ := (hT ⟨w1, Q.refl _⟩) (by omega)
      rw [eA] at c6
      rw [eB] at d6
      clear eA eB
      have u0 : ∀ y : Wd w1, y.w.cell? ⟨p, o + k, none⟩ = some (.string a.to[k]) := fun y => (y.cell hp).trans (hcell k hlt)
      have u1 : ∀ y : Wd w1, y.w.cell? ⟨p2, o2 + k, none⟩ = some (.string b.to[k]) := fun y => (y.cell hp2).trans (hcell2 k hlt2)
      have hk0 : (0 : Int) ≤ (k : Int) := by omega
      have hk1 : (k : Int) < (a.to.length : Int) := by omega
      have hk2 : (k : Int) < (b.to.length : Int) := by omega
      have HST := Lib.hid (take_step a.to b.to k hlt hlt2 hto.out)
      have HNE := Lib.hid (ne_at a.to b.to k hlt hlt2)
      clear hcell hcell2 hto
      generalize a.to[k] = u at *
      generalize b.to[k] = v at *
      by_cases huv : u = v
      · have HST2 := Lib.hid (HST.out huv)
        clear HST HNE
        subst huv
        go_wp2
        refine wp_region_wd z (by kernel_rfl) (by kernel_rfl) ?_
        repeat (go_big_quiet_step (fail))
        refine wpQuiet_nil ?_
        rintro w'' ⟨y, rfl⟩
        go_wp2
        exact ⟨⟨k + 1, y, by go_num, rfl, by omega, HST2⟩, by simp only [intOf]; omega⟩
      · have huv' : (u.toList == v.toList) = false := beq_eq_false_iff_ne.2 (str_ne huv)
        have HR := Lib.hid (dec_to_no (HNE.out huv))
        clear huv
        go_wp2
        refine wp_region_wd z (by kernel_rfl) (by kernel_rfl) ?_
        repeat (go_big_quiet_step (fail))
        refine wpQuiet_nil ?_
        rintro w'' ⟨y, rfl⟩
        go_wp2
        go_ret
        exact ⟨by rw [HR.out]; rfl, Q.trans hq1 y.q⟩
    have hks : k = a.to.length := by omega
    have HTO : Hid (a.to = b.to) := Lib.hid (by
      have := hto.out
      rwa [List.take_of_length_le (by omega), List.take_of_length_le (by rw [← HL.out]; omega)] at this)
    clear hks hto hk hS hT l1 l2 hI hJ
    go_wp2
    all_goals
      go_ret
      refine ⟨?_, Q.trans hq1 (Wd.q _)⟩
      clear c0 d0 c1 d1 c2 d2 c3 d3 c4 d4 c5 d5 c6 d6 c7 d7 c8 d8 c9 d9 c10 d10 c11 d11 hx hSig hlt
      simp only [str_iff] at *
      simp [DecR.same, conj, HTO.out, *]
end Go.Proofs.YtjfcllanochhmaaGreatDoor.Item
