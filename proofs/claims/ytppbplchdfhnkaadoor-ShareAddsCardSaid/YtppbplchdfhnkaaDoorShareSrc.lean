/-
  append of shares from any source (nil, empty or not); the contract of agoralaw07.chosen.
-/
import Derived.Test.YtppbplchdfhnkaaDoorShareTellsWalk
import Derived.Test.YtppbplchdfhnkaaDoorRefShaWalk
set_option linter.unusedVariables false
set_option linter.unusedSimpArgs false
namespace Go.Proofs.YtppbplchdfhnkaaDoor.Share
open Go.RowKit Grp Mem _root_.Go.Proofs.YtppbplchdfhnkaaDoor.Code Sha
open Sign (q_new)

theorem run_append_zero {P : Program} (w : World) (t ty e : TypeId) (i : TypeInfo) (ht : P.underlying t = some (.slice e)) (hi : P.info? e = some i) (B A : Option Addr) (n cap c : Nat) (h : n ≤ cap) :
    (Builtin.append_ #[t, t] ty #[.slice B n cap, .slice A 0 c]).run P w = .ok (.slice B n cap) w := by
  cases A <;> cases B <;> simp [Builtin.append_, run_underlying ht, sizeOf, typeInfo, hi, Builtin.lenOf, h, Builtin.firstCells, storeCells, loadCells, loadCellsFrom]
theorem run_append_shares (w : World) (ty : TypeId) (base : Nat) (v : Value) (n : Nat) (L : List (Int × Int)) (hown : Owns w base 61 2 v n (cells2 L)) (A : Option Addr) (m c : Nat) (M : List (Int × Int)) (hS : Shares w A M) (hm : M.length = m)
    (hsz : n + m ≤ 1000000) (hbase : base ≤ w.heap.size) :
    ∃ v' w', (Builtin.append_ #[47, 47] ty #[v, .slice A m c]).run Tryd.prog w = .ok v' w' ∧ Owns w' base 61 2 v' (n + m) (cells2 (L ++ M)) ∧ w.grownBy w' v.ownBlock := by
  obtain ⟨i0, hi, hz0, hz1, hz2⟩ := info_parts share_info
  by_cases h0 : m = 0
  · subst h0
    have hM : M = [] := List.eq_nil_of_length_eq_zero hm
    subst hM
    obtain ⟨B, cap, rfl, hc1, hc2⟩ := hown.shape
    refine ⟨_, _, run_append_zero w _ ty 61 i0 Tryd.underlying47 hi B A n cap c hc1, by rw [List.append_nil]; exact hown, ⟨rfl, rfl, rfl, Nat.le_refl _, fun _ _ _ => rfl⟩⟩
  · obtain ⟨b, o, rfl, hb, hc⟩ := hS (by omega)
    have hS' : Shares w (some ⟨b, o, none⟩) M := fun _ => ⟨b, o, rfl, hb, hc⟩
    rw [cells2_append]
    exact run_append_owns w base 47 ty 61 i0 _ 2 16 Tryd.underlying47 hi hz0 hz1 hz2 rfl (by decide) v n (cells2 L) hown ⟨b, o, none⟩ m c (cells2 M) (by rw [cells2_length, hm]) (hS'.news (by omega)) (cells2_one M) (by simp only [maxLen]; omega) (by omega) hbase
theorem wpList_append_shares {w : World} {ops : Array Oper} {rest : List Oper} {o : Oper} {a : Act} {Q : Exit → Act → World → Prop} (hgd : o.guard = none) (s x : Operand)
    (ho : o.op = .call { callee := .builtin .append, args := #[s, x], argTypes := #[47, 47] })
    (base : Nat) (v : Value) (n : Nat) (L : List (Int × Int)) (hs : a.eval s = v) (hown : Owns w base 61 2 v n (cells2 L)) (A : Option Addr) (m c : Nat) (M : List (Int × Int)) (hx : a.eval x = .slice A m c) (hS : Shares w A M) (hm : M.length = m)
    (hsz : n + m ≤ 1000000) (hbase : base ≤ w.heap.size)
    (h : ∀ A' cap w', n + m ≤ cap → cap ≤ maxLen → Owns w' base 61 2 (.slice A' (n + m) cap) (n + m) (cells2 (L ++ M)) → w.grownBy w' v.ownBlock → wpList Tryd.prog ops Q rest (a.put o.dst (.slice A' (n + m) cap)) w') : wpList Tryd.prog ops Q (o :: rest) a w :=
  wpList_plain hgd fun _ hK => by
    obtain ⟨v', w', hr, h2, h3⟩ := run_append_shares w o.type base v n L hown A m c M hS hm hsz hbase
    obtain ⟨A', cap, rfl, hc1, hc2⟩ := h2.shape
    unfold Oper.wp execOp
    simp only [ho, resolve, invoke, builtin, Sem.run_bind, Sem.run_pure, Result.andThen_ok, List.map_toArray, List.map_cons, List.map_nil, hs, hx, hr]
    exact hK _ _ (h A' cap w' hc1 hc2 h2 h3)
theorem step_append_shares {w : World} {ops : Array Oper} {o : Oper} {a : Act} {K : Act → World → Prop} {Q : Exit → Act → World → Prop} {E : Prop} (hgd : o.guard = none) (s x : Operand)
    (ho : o.op = .call { callee := .builtin .append, args := #[s, x], argTypes := #[47, 47] })
    (base : Nat) (v : Value) (n : Nat) (L : List (Int × Int)) (hs : a.eval s = v) (hown : Owns w base 61 2 v n (cells2 L)) (A : Option Addr) (m c : Nat) (M : List (Int × Int)) (hx : a.eval x = .slice A m c) (hS : Shares w A M) (hm : M.length = m)
    (hsz : n + m ≤ 1000000) (hbase : base ≤ w.heap.size)
    (h : ∀ A' cap w', n + m ≤ cap → cap ≤ maxLen → Owns w' base 61 2 (.slice A' (n + m) cap) (n + m) (cells2 (L ++ M)) → w.grownBy w' v.ownBlock → K (a.put o.dst (.slice A' (n + m) cap)) w') :
    if Region.wanted o (yielded ops a.tmps) = true then Oper.wp Tryd.prog o a w K Q else E := by
  have hw : Region.wanted o (yielded ops a.tmps) = true := by simp [Region.wanted, hgd]
  rw [if_pos hw]
  obtain ⟨v', w', hr, h2, h3⟩ := run_append_shares w o.type base v n L hown A m c M hS hm hsz hbase
  obtain ⟨A', cap, rfl, hc1, hc2⟩ := h2.shape
  unfold Oper.wp execOp
  simp only [ho, resolve, invoke, builtin, Sem.run_bind, Sem.run_pure, Result.andThen_ok, List.map_toArray, List.map_cons, List.map_nil, hs, hx, hr]
  exact h A' cap w' hc1 hc2 h2 h3
/-- append onto an empty row of the call's own. -/
theorem step_append_first {w : World} {ops : Array Oper} {o : Oper} {a : Act} {K : Act → World → Prop} {Q : Exit → Act → World → Prop} {E : Prop} (hgd : o.guard = none) (s x : Operand)
    (ho : o.op = .call { callee := .builtin .append, args := #[s, x], argTypes := #[47, 47] })
    (base : Nat) (v : Value) (hs : a.eval s = v) (hown : Owns w base 61 2 v 0 (cells2 [])) (A : Option Addr) (m c : Nat) (M : List (Int × Int)) (hx : a.eval x = .slice A m c) (hS : Shares w A M) (hm : M.length = m)
    (hsz : m ≤ 1000000) (hbase : base ≤ w.heap.size)
    (h : ∀ A' cap w', m ≤ cap → cap ≤ maxLen → Owns w' base 61 2 (.slice A' m cap) m (cells2 M) → w.grownBy w' v.ownBlock → K (a.put o.dst (.slice A' m cap)) w') :
    if Region.wanted o (yielded ops a.tmps) = true then Oper.wp Tryd.prog o a w K Q else E :=
  step_append_shares hgd s x ho base v 0 [] hs hown A m c M hx hS hm (by omega) hbase (fun A' cap w' h1 h2 h3 h4 => by
    rw [Nat.zero_add] at h1 h3 ⊢
    exact h A' cap w' h1 h2 h3 h4)
/-- The empty literal. -/
theorem owns_empty (w : World) : Owns (w.alloc (.cells #[] 61)) w.heap.size 61 2 (.slice (some ⟨w.heap.size, 0, none⟩) 0 0) 0 (cells2 []) :=
  ⟨rfl, .inr ⟨w.heap.size, 0, #[], (0, 0), rfl, Nat.le_refl _, heap_alloc_new w _, .inl rfl, Nat.le_refl _, Nat.zero_le _, rfl, rfl⟩⟩

/-! ### chosen -/
/-- A choice without repetitions. -/
structure Picked (l m : List (Int × Int)) : Prop where
  sub : ∀ p ∈ m, p ∈ l
  dist : m.Pairwise fun a b => a.1 ≠ b.1
theorem Picked.nil_ (l : List (Int × Int)) : Picked l [] := ⟨by simp, List.Pairwise.nil⟩
def knownB (m : List (Int × Int)) (x : Int) (j : Nat) : Bool := (m.take j).any fun s => s.1 == x
theorem knownB_succ (m : List (Int × Int)) (x : Int) (j : Nat) (h : j < m.length) : knownB m x (j + 1) = (knownB m x j || ((pt m j).1 == x)) := by
  unfold knownB
  rw [List.take_succ_eq_append_getElem h, List.any_append, pt_get m j h]
  simp
theorem Picked.snoc {l m : List (Int × Int)} (h : Picked l m) (p : Int × Int) (hp : p ∈ l) (hk : knownB m p.1 m.length = false) : Picked l (m ++ [p]) := by
  refine ⟨fun q hq => ?_, ?_⟩
  · rcases List.mem_append.1 hq with hq | hq
    · exact h.sub q hq
    · rw [List.mem_singleton] at hq; subst hq; exact hp
  · rw [List.pairwise_append]
    refine ⟨h.dist, List.pairwise_singleton _ _, fun a ha b hb => ?_⟩
    rw [List.mem_singleton] at hb
    subst hb
    unfold knownB at hk
    rw [List.take_length, List.any_eq_false] at hk
    have := hk a ha
    simpa using this
theorem int_cell {w : World} {A : Option Addr} {l : List Int} (h : Ints w A l) (k : Nat) (hk : k < l.length) : ∃ b o, A = some ⟨b, o, none⟩ ∧ b < w.heap.size ∧ w.cell? ⟨b, o + k, none⟩ = some (.int .i64 (l.getD k 0)) := by
  obtain ⟨b, o, e, hb, hc⟩ := h (by omega)
  refine ⟨b, o, e, hb, ?_⟩
  rw [hc k hk, List.getD_eq_getElem?_getD, List.getElem?_eq_getElem hk]
  rfl
theorem pt_mem (l : List (Int × Int)) (k : Nat) (h : k < l.length) : pt l k ∈ l := by rw [pt_get l k h]; exact List.getElem_mem h

set_option maxRecDepth 100000 in
set_option maxHeartbeats 4000000 in
theorem chosen_any (A : Option Addr) (c : Nat) (l : List (Int × Int)) (B : Option Addr) (d : Nat) (os : List Int) (w : World) (hS : Shares w A l) (hO : Ints w B os) (hl : l.length ≤ 1000000) (hos : os.length ≤ maxLen) :
    Calls Tryd.prog 43 #[.slice A l.length c, .slice B os.length d] w fun e w' => ∃ (C : Option Addr) (cap : Nat) (m : List (Int × Int)), e = .returned (.slice C m.length cap) ∧ m.length ≤ cap ∧ cap ≤ maxLen ∧ Shares w' C m ∧ Picked l m ∧ m.length ≤ 24 ∧ Q w w' := by
  go_enter Tryd.func43, Tryd.ntmps43
  go_wp2_with fail
  go_loopw [5, 6] (fun x i wr => ∃ (C : Option Addr) (cap k : Nat) (m : List (Int × Int)), x = .slice C m.length cap ∧ i = .int .i64 k ∧ k ≤ os.length ∧ k ≤ 24 ∧ m.length ≤ k ∧ m.length ≤ cap ∧ cap ≤ maxLen ∧ Owns wr w.heap.size 61 2 (.slice C m.length cap) m.length (cells2 m) ∧ Picked l m ∧ Q w wr) (fun _ i _ => 24 - (intOf i).toNat)
  case atStart => exact ⟨none, 0, 0, [], rfl, rfl, Nat.zero_le _, by omega, Nat.le_refl _, Nat.le_refl _, Nat.zero_le _, Owns.nil_ _ _ _ _, Picked.nil_ _, Q.refl _⟩
  case round =>
    obtain ⟨C, cap, k, m, rfl, rfl, hk, hk24, hmk, hmc, hcm, hown, hp, hq⟩ := hrel
    by_cases hend : k < os.length ∧ k < 24
    · obtain ⟨hlt, h24⟩ := hend
      obtain ⟨wo, rfl⟩ : ∃ wo : World, wo = wr := ⟨_, rfl⟩
      obtain ⟨bo, oo, rfl, hbo, hco⟩ := int_cell (hO.q hq) k hlt
      have t1 : decide ((k : Int) < (os.length : Int)) = true := by simp; omega
      have t2 : decide ((k : Int) < 24) = true := by simp; omega
      have k0 : (0 : Int) ≤ (k : Int) := by omega
      have k1 : (k : Int) < (os.length : Int) := by omega
      generalize os.getD k 0 = v at *
      by_cases hv : 0 ≤ v ∧ v < (l.length : Int)
      · obtain ⟨v0, v1⟩ := hv
        have d0 : decide (0 ≤ v) = true := by simp [v0]
        have d1 : decide (v < (l.length : Int)) = true := by simp [v1]
        obtain ⟨b, o, rfl, hb, c0, c1⟩ := shares_in (hS.q hq) v.toNat (by omega)
        have hpm := pt_mem l v.toNat (by omega)
        generalize hpt : pt l v.toNat = p at *
        clear hpt
        obtain ⟨X, Y⟩ := p
        dsimp only at c0 c1
        go_wp2_with fail
        go_loopw [7, 8] (fun x i wr2 => ∃ j : Nat, i = .int .i64 j ∧ j ≤ m.length ∧ x = .bool (knownB m X j) ∧ Q wo wr2) (fun _ i _ => m.length - (intOf i).toNat)
        case atStart => exact ⟨0, rfl, Nat.zero_le _, rfl, Q.refl _⟩
        case round =>
          obtain ⟨j, rfl, hj, rfl, hq2⟩ := hrel
          by_cases hlt2 : j < m.length
          · have hks := knownB_succ m X j hlt2
            have j1 : (j : Int) < (m.length : Int) := by omega
            have j0 : (0 : Int) ≤ (j : Int) := by omega
            cases hkn : knownB m X j with
            | true =>
              rw [hkn, Bool.true_or] at hks
              have HKS := Lib.hid hks
              clear hks hkn
              go_wp2_with fail
              go_quiet (fail)
              go_wp2
              exact ⟨⟨j + 1, by go_num, by omega, by rw [HKS.out], hq2.drewN _⟩, by simp only [intOf]; omega⟩
            | false =>
              rw [hkn, Bool.false_or] at hks
              have hSm := Shares.owns (hown.q hq2) rfl
              obtain ⟨bm, om, rfl, hbm, m0, -⟩ := shares_in hSm j hlt2
              have HKS := Lib.hid hks
              clear hks hkn
              have x0 := (hq2.cell (p := ⟨b, o + v.toNat * 2, none⟩) hb).trans c0
              have y0 := (hq2.cell (p := ⟨bo, oo + k, none⟩) hbo).trans hco
              generalize (pt m j).1 = U at *
              go_wp2_with fail
              go_region_held3 (fun w' => w'.cell? ⟨bm, om + j * 2, none⟩ = some (.int .i64 U) ∧ w'.cell? ⟨b, o + v.toNat * 2, none⟩ = some (.int .i64 X) ∧ w'.cell? ⟨bo, oo + k, none⟩ = some (.int .i64 v)) (first | exact ⟨m0, x0, y0⟩ | (with_reducible assumption)) (fail)
              go_wp2
              exact ⟨⟨j + 1, by go_num, by omega, by rw [HKS.out], hq2.drew⟩, by simp only [intOf]; omega⟩
          · obtain rfl : j = m.length := by omega
            have hown2 := hown.q hq2
            have hq3 := Q.trans hq hq2
            have x0 := (hq2.cell (p := ⟨b, o + v.toNat * 2, none⟩) hb).trans c0
            have x1 := (hq2.cell (p := ⟨b, o + v.toNat * 2 + 1, none⟩) hb).trans c1
            have y0 := (hq2.cell (p := ⟨bo, oo + k, none⟩) hbo).trans hco
            cases hkn : knownB m X m.length with
            | true =>
              clear hkn
              go_wp2
              exact ⟨⟨C, cap, k + 1, m, rfl, by go_num, by omega, by omega, by omega, hmc, hcm, hown2, hp, hq3⟩, by simp only [intOf]; omega⟩
            | false =>
              have hp2 := hp.snoc (X, Y) hpm hkn
              clear hkn
              obtain ⟨w2, rfl⟩ : ∃ w2 : World, w2 = wr := ⟨_, rfl⟩
              go_wp2_with (at_builtin; go_loud (refine wpList_append_shares rfl (.tmp 58) (.tmp 66) rfl w.heap.size _ m.length m rfl (hown2.alloc _) (some ⟨w2.heap.size, 0, none⟩) 1 1 [(X, Y)] rfl (Shares.new w2 61 [(X, Y)]) rfl (by omega) ?_ ?_))
              · have := hq3.size
                simp
                omega
              intro A5 cap5 w5 hc5 hm5 hown5 hg5
              have hq5 := q_append hq3 hown2 hg5
              go_wp2
              exact ⟨⟨A5, cap5, k + 1, m ++ [(X, Y)], by simp, by go_num, by omega, by omega, by simp; omega, by simpa using hc5, hm5, by simpa using hown5, hp2, hq5⟩, by simp only [intOf]; omega⟩
      · have hd : (decide (0 ≤ v) && decide (v < (l.length : Int))) = false := by simp; omega
        go_wp2
        all_goals exact ⟨⟨C, cap, k + 1, m, rfl, by go_num, by omega, by omega, by omega, hmc, hcm, hown, hp, hq⟩, by simp only [intOf]; omega⟩
    · have hd : (decide ((k : Int) < (os.length : Int)) && decide ((k : Int) < 24)) = false := by simp; omega
      go_wp2
      all_goals
        go_ret
        exact ⟨C, cap, m, rfl, hmc, hcm, Shares.owns hown rfl, hp, by omega, hq⟩
end Go.Proofs.YtppbplchdfhnkaaDoor.Share
