/-
  slices.Equal at strings and at wraps.
-/
import Derived.Test.YtjfcllanochhmaaGreatDoorActB
set_option linter.unusedVariables false
set_option linter.unusedSimpArgs false
namespace Go.Proofs.YtjfcllanochhmaaGreatDoor.Item
open Go.RowKit Grp Mem _root_.Go.Proofs.YtjfcllanochhmaaGreatDoor.Code Sha Sign

theorem take_step {α : Type} (l m : List α) (k : Nat) (h1 : k < l.length) (h2 : k < m.length) (h : l.take k = m.take k) (he : l[k] = m[k]) : l.take (k + 1) = m.take (k + 1) := by
  rw [List.take_succ_eq_append_getElem h1, List.take_succ_eq_append_getElem h2, h, he]
theorem ne_at {α : Type} (l m : List α) (k : Nat) (h1 : k < l.length) (h2 : k < m.length) (he : l[k] ≠ m[k]) : l ≠ m := fun e => by
  subst e
  exact he rfl

set_option maxHeartbeats 2000000 in
theorem strsEq_any (A B : Option Addr) (c d : Nat) (l m : List ByteArray) (w : World) (hS : Strs w A l) (hT : Strs w B m) (hl : l.length ≤ 9223372036854775807) (hm : m.length ≤ 9223372036854775807) :
    Calls Tryz.prog 138 #[.slice A l.length c, .slice B m.length d] w fun e w' => e = .returned (.bool (decide (l = m))) ∧ Q w w' := by
  by_cases hlen : l.length = m.length
  · have hn : ((l.length : Int) != (m.length : Int)) = false := by simp [hlen]
    go_enter Tryz.func138, Tryz.ntmps138
    go_wp2
    clear hn
    have HL := Lib.hid hlen
    clear hlen
    go_loopw [5, 13] (fun _ i wr => ∃ (k : Nat), i = .int .i64 k ∧ k ≤ l.length ∧ Hid (l.take k = m.take k) ∧ Q w wr) (fun _ i _ => l.length - (intOf i).toNat)
    case atStart => exact ⟨0, rfl, Nat.zero_le _, Lib.hid rfl, Q.refl _⟩
    case round =>
      obtain ⟨k, rfl, hk, hto, hq⟩ := hrel
      obtain ⟨w1, x, rfl, hq1⟩ := Wd.enter hq
      by_cases hlt : k < l.length
      · have hlt2 : k < m.length := by rw [← HL.out]; exact hlt
        obtain ⟨b, o, rfl, hb, hcell⟩ := (hS.q hq1) (by omega)
        obtain ⟨b2, o2, rfl, hb2, hcell2⟩ := (hT.q hq1) (by omega)
        have c1 : ∀ y : Wd w1, y.w.cell? ⟨b, o + k, none⟩ = some (.string l[k]) := fun y => (y.cell hb).trans (hcell k hlt)
        have c2 : ∀ y : Wd w1, y.w.cell? ⟨b2, o2 + k, none⟩ = some (.string m[k]) := fun y => (y.cell hb2).trans (hcell2 k hlt2)
        have hk0 : (0 : Int) ≤ (k : Int) := by omega
        have hk1 : (k : Int) < (l.length : Int) := by omega
        have hk2 : (k : Int) < (m.length : Int) := by omega
        have HST := Lib.hid (take_step l m k hlt hlt2 hto.out)
        have HNE := Lib.hid (ne_at l m k hlt hlt2)
        clear hcell hcell2 hto
        generalize l[k] = u at *
        generalize m[k] = v at *
        by_cases huv : u = v
        · subst huv
          go_wp2
          refine wp_region_wd x (by kernel_rfl) (by kernel_rfl) ?_
          repeat (go_big_quiet_step (fail))
          refine wpQuiet_nil ?_
          rintro w'' ⟨y, rfl⟩
          go_wp2
          exact ⟨⟨k + 1, by go_num, by omega, Lib.hid (HST.out trivial), Q.trans hq1 y.q⟩, by simp only [intOf]; omega⟩
        · have hne : (u.toList == v.toList) = false := by
            rw [beq_eq_false_iff_ne]
            exact str_ne huv
          have hne2 : (u.toList != v.toList) = true := by rw [bne, hne]; rfl
          have HU := Lib.hid huv
          clear huv
          go_wp2
          refine wp_region_wd x (by kernel_rfl) (by kernel_rfl) ?_
          repeat (go_big_quiet_step (fail))
          refine wpQuiet_nil ?_
          rintro w'' ⟨y, rfl⟩
          go_wp2
          go_ret
          exact ⟨by rw [show decide (l = m) = false from decide_eq_false (HNE.out HU.out)]; rfl, Q.trans hq1 y.q⟩
      · have hks : k = l.length := by omega
        have HF : Hid (decide (l = m) = true) := Lib.hid (by
          have := hto.out
          rw [hks, List.take_length, HL.out, List.take_length] at this
          exact decide_eq_true this)
        have hlt3 : ¬ k < m.length := by rw [← HL.out]; exact hlt
        clear hks
        go_wp2
        go_ret
        exact ⟨by rw [HF.out]; rfl, Q.trans hq1 x.q⟩
  · have hn : ((l.length : Int) != (m.length : Int)) = true := by simp; omega
    have HF : Hid (decide (l = m) = false) := Lib.hid (decide_eq_false fun e => hlen (by rw [e]))
    clear hlen
    go_enter Tryz.func138, Tryz.ntmps138
    go_wp2
    go_ret
    exact ⟨by rw [HF.out]; rfl, Q.refl _⟩

open Go.Op Go.Instr in
theorem wrapNe (a b a' b' : Int) (x y z x' y' z' : ByteArray) (w : World) : (binOp .neq 130 (.agg #[.int .i64 a, .int .i64 b, .string x, .string y, .string z]) (.agg #[.int .i64 a', .int .i64 b', .string x', .string y', .string z'])).run Tryz.prog w = .ok (.bool (!(decide (a = a') && (decide (b = b') && (decide (x = x') && (decide (y = y') && decide (z = z'))))))) w := by
  have u3 := Tryz.underlying9
  have a3 := Tryz.isAgg9
  have z3 := Tryz.sizeOf9
  have u4 := Tryz.underlying3
  have a4 := Tryz.isAgg3
  have z4 := Tryz.sizeOf3
  have a5 := Tryz.isAgg34
  have z5 := Tryz.sizeOf34
  have hS : Tryz.prog.underlying 130 = some (.struct (Tryz.prog.fieldsOf 130)) := by kernel_rfl
  have hp : Tryz.prog.stoodInHeld 130 = false := by kernel_rfl
  rw [run_neq_struct, show (10000 : Nat) = 9999 + 1 from rfl, run_equalIn_agg w 9999 130 _ _ hS hp]
  simp only [Program.fieldsOf, Tryz.underlying130]
  go_simp
  simp only [str_iff]
  by_cases h1 : a = a' <;> by_cases h2 : b = b' <;> by_cases h3 : x = x' <;> by_cases h4 : y = y' <;> by_cases h5 : z = z' <;> simp [h1, h2, h3, h4, h5]
theorem wrapGuard (op : BinOp) (a b : Operand) (xs ys : Array Value) (w : World) : (eqGuard op 130 a b (.agg xs) (.agg ys)).run Tryz.prog w = .ok () w := run_eqGuard_agg w op _ _ _ _ _ (by kernel_rfl)
open Go.Op Go.Instr in
theorem wrapNe_yes {u v : WrapV} (h : u.tup = v.tup) : ∀ w : World, (binOp .neq 130 (.agg #[.int .i64 u.to, .int .i64 u.eph, .string u.n, .string u.d, .string u.t]) (.agg #[.int .i64 v.to, .int .i64 v.eph, .string v.n, .string v.d, .string v.t])).run Tryz.prog w = .ok (.bool false) w := by
  intro w
  rw [wrapNe]
  simp only [WrapV.tup, Prod.mk.injEq] at h
  obtain ⟨h1, h2, h3, h4, h5⟩ := h
  simp [h1, h2, h3, h4, h5]
open Go.Op Go.Instr in
theorem wrapNe_no {u v : WrapV} (h : ¬ u.tup = v.tup) : ∀ w : World, (binOp .neq 130 (.agg #[.int .i64 u.to, .int .i64 u.eph, .string u.n, .string u.d, .string u.t]) (.agg #[.int .i64 v.to, .int .i64 v.eph, .string v.n, .string v.d, .string v.t])).run Tryz.prog w = .ok (.bool true) w := by
  intro w
  rw [wrapNe]
  simp only [WrapV.tup, Prod.mk.injEq] at h
  by_cases h1 : u.to = v.to <;> by_cases h2 : u.eph = v.eph <;> by_cases h3 : u.n = v.n <;> by_cases h4 : u.d = v.d <;> by_cases h5 : u.t = v.t <;> simp_all

set_option maxHeartbeats 2000000 in
theorem wrsEq_any (A B : Option Addr) (c d : Nat) (l m : List WrapV) (w : World) (hS : Wrs w A l) (hT : Wrs w B m) (hl : l.length ≤ 9223372036854775807) (hm : m.length ≤ 9223372036854775807) :
    Calls Tryz.prog 139 #[.slice A l.length c, .slice B m.length d] w fun e w' => e = .returned (.bool (decide (l.map WrapV.tup = m.map WrapV.tup))) ∧ Q w w' := by
  by_cases hlen : l.length = m.length
  · have hn : ((l.length : Int) != (m.length : Int)) = false := by simp [hlen]
    go_enter Tryz.func139, Tryz.ntmps139
    go_wp2
    clear hn
    have HL := Lib.hid hlen
    clear hlen
    go_loopw [5, 13] (fun _ i wr => ∃ (k : Nat), i = .int .i64 k ∧ k ≤ l.length ∧ Hid ((l.map WrapV.tup).take k = (m.map WrapV.tup).take k) ∧ Q w wr) (fun _ i _ => l.length - (intOf i).toNat)
    case atStart => exact ⟨0, rfl, Nat.zero_le _, Lib.hid rfl, Q.refl _⟩
    case round =>
      obtain ⟨k, rfl, hk, hto, hq⟩ := hrel
      obtain ⟨w1, x, rfl, hq1⟩ := Wd.enter hq
      by_cases hlt : k < l.length
      · have hlt2 : k < m.length := by rw [← HL.out]; exact hlt
        obtain ⟨b, o, rfl, hb, hcell⟩ := (hS.q hq1) (by omega)
        obtain ⟨b2, o2, rfl, hb2, hcell2⟩ := (hT.q hq1) (by omega)
        have c0 := Wd.get (w0 := w1) hb (hcell k hlt) 0 rfl
        have c1 := Wd.get (w0 := w1) hb (hcell k hlt) 1 rfl
        have c2 := Wd.get (w0 := w1) hb (hcell k hlt) 2 rfl
        have c3 := Wd.get (w0 := w1) hb (hcell k hlt) 3 rfl
        have c4 := Wd.get (w0 := w1) hb (hcell k hlt) 4 rfl
        have d0 := Wd.get (w0 := w1) hb2 (hcell2 k hlt2) 0 rfl
        have d1 := Wd.get (w0 := w1) hb2 (hcell2 k hlt2) 1 rfl
        have d2 := Wd.get (w0 := w1) hb2 (hcell2 k hlt2) 2 rfl
        have d3 := Wd.get (w0 := w1) hb2 (hcell2 k hlt2) 3 rfl
        have d4 := Wd.get (w0 := w1) hb2 (hcell2 k hlt2) 4 rfl
        simp only [Nat.add_zero] at c0 d0
        have hk0 : (0 : Int) ≤ (k : Int) := by omega
        have hk1 : (k : Int) < (l.length : Int) := by omega
        have hk2 : (k : Int) < (m.length : Int) := by omega
        have HST := Lib.hid (take_step (l.map WrapV.tup) (m.map WrapV.tup) k (by simpa using hlt) (by simpa using hlt2) hto.out)
        simp only [List.getElem_map] at HST
        have HNE := Lib.hid (ne_at (l.map WrapV.tup) (m.map WrapV.tup) k (by simpa using hlt) (by simpa using hlt2))
        simp only [List.getElem_map] at HNE
        clear hcell hcell2 hto
        generalize l[k] = u at *
        generalize m[k] = v at *
        by_cases huv : u.tup = v.tup
        · have hcmp := wrapNe_yes huv
          have hcg := wrapGuard
          have HU := Lib.hid huv
          clear huv
          go_wp2
          refine wp_region_wd x (by kernel_rfl) (by kernel_rfl) ?_
          repeat (go_big_quiet_step (fail))
          refine wpQuiet_nil ?_
          rintro w'' ⟨y, rfl⟩
          go_wp2
          exact ⟨⟨k + 1, by go_num, by omega, Lib.hid (HST.out HU.out), Q.trans hq1 y.q⟩, by simp only [intOf]; omega⟩
        · have hcmp := wrapNe_no huv
          have hcg := wrapGuard
          have HU := Lib.hid huv
          clear huv
          go_wp2
          refine wp_region_wd x (by kernel_rfl) (by kernel_rfl) ?_
          repeat (go_big_quiet_step (fail))
          refine wpQuiet_nil ?_
          rintro w'' ⟨y, rfl⟩
          go_wp2
          go_ret
          exact ⟨by rw [show decide (l.map WrapV.tup = m.map WrapV.tup) = false from decide_eq_false (HNE.out HU.out)]; rfl, Q.trans hq1 y.q⟩
      · have hks : k = l.length := by omega
        have HF : Hid (decide (l.map WrapV.tup = m.map WrapV.tup) = true) := Lib.hid (by
          have := hto.out
          rw [List.take_of_length_le (by rw [List.length_map]; omega), List.take_of_length_le (by rw [List.length_map]; have := HL.out; omega)] at this
          exact decide_eq_true this)
        have hlt3 : ¬ k < m.length := by rw [← HL.out]; exact hlt
        clear hks
        go_wp2
        go_ret
        exact ⟨by rw [HF.out]; rfl, Q.trans hq1 x.q⟩
  · have hn : ((l.length : Int) != (m.length : Int)) = true := by simp; omega
    have HF : Hid (decide (l.map WrapV.tup = m.map WrapV.tup) = false) := Lib.hid (decide_eq_false fun e => hlen (by have := congrArg List.length e; rwa [List.length_map, List.length_map] at this))
    clear hlen
    go_enter Tryz.func139, Tryz.ntmps139
    go_wp2
    go_ret
    exact ⟨by rw [HF.out]; rfl, Q.refl _⟩
end Go.Proofs.YtjfcllanochhmaaGreatDoor.Item
