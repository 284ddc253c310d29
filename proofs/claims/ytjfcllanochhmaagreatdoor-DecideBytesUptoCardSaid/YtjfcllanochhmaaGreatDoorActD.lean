/-
  The contract of act.Right.
-/
import Derived.Test.YtjfcllanochhmaaGreatDoorActC
import Derived.Deep.RegionHeld3
set_option linter.unusedVariables false
set_option linter.unusedSimpArgs false
namespace Go.Proofs.YtjfcllanochhmaaGreatDoor.Item
open Go.RowKit Grp Mem _root_.Go.Proofs.YtjfcllanochhmaaGreatDoor.Code Sha Sign

def ruleId (k : Nat) : FuncId :=
  match k with
  | 0 => 127
  | 1 => 123
  | 2 => 121
  | 3 => 121
  | 4 => 122
  | 5 => 122
  | 6 => 122
  | 7 => 124
  | 8 => 124
  | 9 => 124
  | 10 => 124
  | 11 => 124
  | 12 => 125
  | 13 => 122
  | 14 => 121
  | 15 => 130
  | 16 => 132
  | 17 => 133
  | 18 => 129
  | 19 => 134
  | 20 => 122
  | 21 => 125
  | 22 => 135
  | 23 => 136
  | _ => 0
theorem rule_calls (a : ActR) (w : World) (hI : ActIn w a) : ∀ k, k < 24 → Calls Tryz.prog (ruleId k) #[.agg (actA a)] w fun e w' => e = .returned (.bool (ruleB k a)) ∧ Q w w' := by
  intro k hk
  match k, hk with
  | 0, _ => exact rule3_any a w
  | 1, _ => exact audience_any a w hI
  | 2, _ => exact rule1_any a w hI
  | 3, _ => exact rule1_any a w hI
  | 4, _ => exact object_any a w
  | 5, _ => exact object_any a w
  | 6, _ => exact object_any a w
  | 7, _ => exact target_any a w
  | 8, _ => exact target_any a w
  | 9, _ => exact target_any a w
  | 10, _ => exact target_any a w
  | 11, _ => exact target_any a w
  | 12, _ => exact rule2_any a w
  | 13, _ => exact object_any a w
  | 14, _ => exact rule1_any a w hI
  | 15, _ => exact rule4_any a w hI
  | 16, _ => exact grant_any a w hI
  | 17, _ => exact label_any a w
  | 18, _ => exact home_any a w
  | 19, _ => exact setup_any a w hI
  | 20, _ => exact object_any a w
  | 21, _ => exact rule2_any a w
  | 22, _ => exact rule5_any a w
  | 23, _ => exact rule6_any a w
  | k + 24, hk => exact absurd hk (by omega)
theorem rule_assoc : ∀ k, k < 24 → assoc (kI (k : Nat)) rulesL = some (ruleV (ruleF k) (ruleId k)) := by
  intro k hk
  match k, hk with
  | 0, _ => rfl
  | 1, _ => rfl
  | 2, _ => rfl
  | 3, _ => rfl
  | 4, _ => rfl
  | 5, _ => rfl
  | 6, _ => rfl
  | 7, _ => rfl
  | 8, _ => rfl
  | 9, _ => rfl
  | 10, _ => rfl
  | 11, _ => rfl
  | 12, _ => rfl
  | 13, _ => rfl
  | 14, _ => rfl
  | 15, _ => rfl
  | 16, _ => rfl
  | 17, _ => rfl
  | 18, _ => rfl
  | 19, _ => rfl
  | 20, _ => rfl
  | 21, _ => rfl
  | 22, _ => rfl
  | 23, _ => rfl
  | k + 24, hk => exact absurd hk (by omega)
theorem enter_run {P : Program} {f : FuncId} {fn : Func} {c : Code} (hf : P.funcs[f]? = some fn) (hname : (fn.name == "runtime.NumGoroutine") = false) (hb : fn.body = some c) (args : Array Value) (w : World) : (callFunc f args).run P w = .ok (.enter f args) w := by
  have h1 : fn.name ≠ "runtime.NumGoroutine" := by simpa using hname
  simp [callFunc, hf, h1, hb]
theorem rule_enter : ∀ k, k < 24 → ∀ (args : Array Value) (w : World), (callFunc (ruleId k) args).run Tryz.prog w = .ok (.enter (ruleId k) args) w := by
  intro k hk args w
  match k, hk with
  | 0, _ => exact enter_run (fn := Tryz.f127) Tryz.func127 (by kernel_rfl) rfl args w
  | 1, _ => exact enter_run (fn := Tryz.f123) Tryz.func123 (by kernel_rfl) rfl args w
  | 2, _ => exact enter_run (fn := Tryz.f121) Tryz.func121 (by kernel_rfl) rfl args w
  | 3, _ => exact enter_run (fn := Tryz.f121) Tryz.func121 (by kernel_rfl) rfl args w
  | 4, _ => exact enter_run (fn := Tryz.f122) Tryz.func122 (by kernel_rfl) rfl args w
  | 5, _ => exact enter_run (fn := Tryz.f122) Tryz.func122 (by kernel_rfl) rfl args w
  | 6, _ => exact enter_run (fn := Tryz.f122) Tryz.func122 (by kernel_rfl) rfl args w
  | 7, _ => exact enter_run (fn := Tryz.f124) Tryz.func124 (by kernel_rfl) rfl args w
  | 8, _ => exact enter_run (fn := Tryz.f124) Tryz.func124 (by kernel_rfl) rfl args w
  | 9, _ => exact enter_run (fn := Tryz.f124) Tryz.func124 (by kernel_rfl) rfl args w
  | 10, _ => exact enter_run (fn := Tryz.f124) Tryz.func124 (by kernel_rfl) rfl args w
  | 11, _ => exact enter_run (fn := Tryz.f124) Tryz.func124 (by kernel_rfl) rfl args w
  | 12, _ => exact enter_run (fn := Tryz.f125) Tryz.func125 (by kernel_rfl) rfl args w
  | 13, _ => exact enter_run (fn := Tryz.f122) Tryz.func122 (by kernel_rfl) rfl args w
  | 14, _ => exact enter_run (fn := Tryz.f121) Tryz.func121 (by kernel_rfl) rfl args w
  | 15, _ => exact enter_run (fn := Tryz.f130) Tryz.func130 (by kernel_rfl) rfl args w
  | 16, _ => exact enter_run (fn := Tryz.f132) Tryz.func132 (by kernel_rfl) rfl args w
  | 17, _ => exact enter_run (fn := Tryz.f133) Tryz.func133 (by kernel_rfl) rfl args w
  | 18, _ => exact enter_run (fn := Tryz.f129) Tryz.func129 (by kernel_rfl) rfl args w
  | 19, _ => exact enter_run (fn := Tryz.f134) Tryz.func134 (by kernel_rfl) rfl args w
  | 20, _ => exact enter_run (fn := Tryz.f122) Tryz.func122 (by kernel_rfl) rfl args w
  | 21, _ => exact enter_run (fn := Tryz.f125) Tryz.func125 (by kernel_rfl) rfl args w
  | 22, _ => exact enter_run (fn := Tryz.f135) Tryz.func135 (by kernel_rfl) rfl args w
  | 23, _ => exact enter_run (fn := Tryz.f136) Tryz.func136 (by kernel_rfl) rfl args w
  | k + 24, hk => exact absurd hk (by omega)
theorem rule_none (n : Int) (h : n < 0 ∨ 24 ≤ n) : assoc (kI n) rulesL = none := by
  unfold assoc
  rw [Option.map_eq_none_iff, List.find?_eq_none]
  intro p hp
  simp only [rulesL, List.mem_cons, List.not_mem_nil, or_false] at hp
  rcases hp with rfl | rfl | rfl | rfl | rfl | rfl | rfl | rfl | rfl | rfl | rfl | rfl | rfl | rfl | rfl | rfl | rfl | rfl | rfl | rfl | rfl | rfl | rfl | rfl
  all_goals
    simp [Mem.keyEq]
    omega
theorem zero_rule : ∀ w, (zeroValue 134).run Tryz.prog w = .ok (.agg #[.int .i64 0, .nilFunc]) w := fun w => by kernel_rfl

/-- The rule of an activity's kind, as the lookup yields it. -/
def looked (k : Int) : Value := .tuple (if 0 ≤ k ∧ k < 24 then #[ruleV (ruleF k.toNat) (ruleId k.toNat), .bool true] else #[.agg #[.int .i64 0, .nilFunc], .bool false])
theorem looks {w : World} {b : Nat} (h : AMap (.int .i64) w b rulesL) (k : Int) : (Instr.lookup 136 (.map (some b)) (.int .i64 k) true).run Tryz.prog w = .ok (looked k) w := by
  unfold looked
  by_cases hk : 0 ≤ k ∧ k < 24
  · have ha := rule_assoc k.toNat (by omega)
    rw [show ((k.toNat : Nat) : Int) = k by omega] at ha
    rw [if_pos hk]
    exact h.lookup (P := Tryz.prog) Tryz.underlying136 Tryz.underlying3 (.inl ⟨rfl, k, rfl⟩) ha true
  · rw [if_neg hk]
    exact h.miss (P := Tryz.prog) Tryz.underlying136 Tryz.underlying3 (.inl ⟨rfl, k, rfl⟩) (rule_none k (by omega)) zero_rule true

set_option maxRecDepth 100000 in
set_option maxHeartbeats 4000000 in
theorem actRight_out (a : ActR) (w : World) (h : idB a.author = false ∨ (idB a.author = true ∧ placedB a = false) ∨ (idB a.author = true ∧ placedB a = true ∧ withinB a.time 0 1099511627776 = false) ∨ (idB a.author = true ∧ placedB a = true ∧ withinB a.time 0 1099511627776 = true ∧ inOrd a.e = false) ∨
      (idB a.author = true ∧ placedB a = true ∧ withinB a.time 0 1099511627776 = true ∧ inOrd a.e = true ∧ inOrd a.s = false)) :
    Calls Tryz.prog 57 #[.agg (actA a)] w fun e w' => e = .returned (.bool false) ∧ Q w w' := by
  obtain ⟨w1, x, hx, hq1, hA⟩ := ActAt.box w a 39
  have c0 := hA.get 0 rfl
  have c4 := hA.get 4 rfl
  have c18 := hA.get 18 rfl
  have c19 := hA.get 19 rfl
  have hL := hA.load
  clear hA
  unfold inOrd at h
  rcases h with g1 | ⟨g1, g2⟩ | ⟨g1, g2, g3⟩ | ⟨g1, g2, g3, g4⟩ | ⟨g1, g2, g3, g4, g5⟩
  all_goals
    go_enter Tryz.func57, Tryz.ntmps57
    go_wp2_with (first
      | (refine wpList_load_run 39 (.tmp 1) (.pointer (some ⟨w.heap.size, 0, none⟩)) (.agg (actA a)) ?_ ?_ ?_ ?_ ?_; rfl; rfl; rfl; exact hL _)
      | (go_at_call 86; refine (idRight_any _ _).mono ?_; rintro e w' ⟨rfl, hq2⟩; obtain ⟨y, rfl⟩ := Wd.next _ hq2; clear hq2)
      | (go_at_call 87; refine (placed_any _ _).mono ?_; rintro e w' ⟨rfl, hq2⟩; obtain ⟨y, rfl⟩ := Wd.next _ hq2; clear hq2)
      | (go_at_call 88; refine (within_at _ _ _ _ _ rfl).mono ?_; rintro e w' ⟨rfl, rfl⟩))
    go_ret
    exact ⟨rfl, Q.trans hq1 (Wd.q _)⟩

theorem q_alloc {w0 w : World} (hq : Q w0 w) (o : Obj) : Q w0 (w.alloc o) := Below.alloc hq hq.size o
theorem kind_q {w1 : World} {y : Wd w1} {g : Nat} {v : Value} (c : ∀ x : Wd w1, x.w.cell? ⟨g, 3, none⟩ = some v) {w : World} (h : Q y.w w) : w.cell? ⟨g, 3, none⟩ = some v ∧ Q y.w w := ⟨c ⟨w, Q.trans y.q h⟩, h⟩
theorem q_set2 {w0 w : World} (hq : Q w0 w) (u v : Value) : Q w0 ((w.setCell ⟨w0.heap.size, 0, none⟩ u).setCell ⟨w0.heap.size, 1, none⟩ v) := Below.setCell (Below.setCell hq (Nat.le_refl _) _) (Nat.le_refl _) _
theorem fits_of (a : ActR) (hk : 0 ≤ a.kind ∧ a.kind < 24) (b : Bool) (hu : (bits .andNot .i64 (usedI a) (ruleF a.kind.toNat) == 0) = b) : fitsB a = (b && ruleB a.kind.toNat a) := by
  unfold fitsB
  have h1 : decide (bits .andNot .i64 (usedI a) (ruleF a.kind.toNat) = 0) = b := by
    rw [← hu]
    by_cases h : bits .andNot .i64 (usedI a) (ruleF a.kind.toNat) = 0 <;> simp [h]
  rw [h1, decide_eq_true hk.1, decide_eq_true hk.2]
  rfl
theorem tail_facts {w w1 W : World} {y : Wd w1} {a : ActR} {g gA : Nat} {u v : Value} (hL : ∀ x : Wd w1, (Instr.loadAt 39 (.pointer (some ⟨gA, 0, none⟩))).run Tryz.prog x.w = .ok (.agg (actA a)) x.w) (hI : ActIn w a) (hq1 : Q w w1) (hQ : Q y.w W) (hb : Blk W g 134 #[u, v]) :
    (∀ z : Wd W, (Instr.loadAt 39 (.pointer (some ⟨gA, 0, none⟩))).run Tryz.prog z.w = .ok (.agg (actA a)) z.w) ∧ (∀ z : Wd W, z.w.cell? ⟨g, 0, none⟩ = some u) ∧ (∀ z : Wd W, z.w.cell? ⟨g, 1, none⟩ = some v) ∧ (∀ z : Wd W, ActIn z.w a) ∧ ∀ z : Wd W, Q w z.w :=
  ⟨fun z => hL ⟨z.w, Q.trans y.q (Q.trans hQ z.q)⟩, fun z => (z.blk hb).cell 0, fun z => (z.blk hb).cell 1, fun z => hI.q (Q.trans hq1 (Q.trans y.q (Q.trans hQ z.q))), fun z => Q.trans hq1 (Q.trans y.q (Q.trans hQ z.q))⟩
theorem kind_step {w1 : World} {y : Wd w1} {g : Nat} {v : Value} (c : ∀ x : Wd w1, x.w.cell? ⟨g, 3, none⟩ = some v) {w w' : World} (h : w.cell? ⟨g, 3, none⟩ = some v ∧ Q y.w w) (hq : Q w w') : w'.cell? ⟨g, 3, none⟩ = some v ∧ Q y.w w' :=
  ⟨c ⟨w', Q.trans y.q (Q.trans h.2 hq)⟩, Q.trans h.2 hq⟩
theorem kind_alloc {w1 : World} {y : Wd w1} {g : Nat} {v : Value} (c : ∀ x : Wd w1, x.w.cell? ⟨g, 3, none⟩ = some v) {w : World} {o : Obj} (h : w.cell? ⟨g, 3, none⟩ = some v ∧ Q y.w w) : (w.alloc o).cell? ⟨g, 3, none⟩ = some v ∧ Q y.w (w.alloc o) :=
  kind_step c h (q_alloc (Q.refl _) o)

set_option maxRecDepth 100000 in
set_option maxHeartbeats 8000000 in
theorem actRight_in (a : ActR) (w : World) (hI : ActIn w a) (g1 : idB a.author = true) (g2 : placedB a = true) (g3 : withinB a.time 0 1099511627776 = true) (g4 : inOrd a.e = true) (g5 : inOrd a.s = true) (hk : 0 ≤ a.kind ∧ a.kind < 24) :
    Calls Tryz.prog 57 #[.agg (actA a)] w fun e w' => e = .returned (.bool (fitsB a)) ∧ Q w w' := by
  obtain ⟨w1, x, hx, hq1, hA⟩ := ActAt.box w a 39
  have c0 := hA.get 0 rfl
  have c3 := hA.get 3 rfl
  have c4 := hA.get 4 rfl
  have c18 := hA.get 18 rfl
  have c19 := hA.get 19 rfl
  have hL := hA.load
  unfold inOrd at g4 g5
  go_enter Tryz.func57, Tryz.ntmps57
  go_wp2_with (first
    | (refine wpList_load_run 39 (.tmp 1) (.pointer (some ⟨w.heap.size, 0, none⟩)) (.agg (actA a)) ?_ ?_ ?_ ?_ ?_; rfl; rfl; rfl; exact hL _)
    | (go_at_call 86; refine (idRight_any _ _).mono ?_; rintro e w' ⟨rfl, hq2⟩; obtain ⟨y, rfl⟩ := Wd.next _ hq2; clear hq2)
    | (go_at_call 87; refine (placed_any _ _).mono ?_; rintro e w' ⟨rfl, hq2⟩; obtain ⟨y, rfl⟩ := Wd.next _ hq2; clear hq2)
    | (go_at_call 88; refine (within_at _ _ _ _ _ rfl).mono ?_; rintro e w' ⟨rfl, rfl⟩))
  have hkd : looked a.kind = .tuple #[.agg #[.int .i64 (ruleF a.kind.toNat), .func (.func (ruleId a.kind.toNat)) #[] #[]], .bool true] := by
    unfold looked
    rw [if_pos hk]
  clear c0 c4 c18 c19 hx
  go_region_held3 (fun w' => w'.cell? ⟨w.heap.size, 3, none⟩ = some (.int .i64 a.kind) ∧ Q y.w w')
    ((refine kind_q c3 ?_; first | exact hqA | exact (Q.refl _).drew | exact q_alloc hqA _ | exact q_alloc (Q.refl _).drew _ | exact q_set2 hqA _ _))
    (first
      | (go_at_call 89; refine (rules_any (y.w.drew.alloc (.cells #[.int .i64 0, .nilFunc] 134))).mono ?_; rintro e w' ⟨b, rfl, hM, hq3⟩; have hqA := Q.trans (q_alloc (Q.refl y.w).drew _) hq3; have hl1 := looks hM a.kind; rw [hkd] at hl1; have hb3 : Blk w' y.w.heap.size 134 #[.int .i64 0, .nilFunc] := (Blk.new y.w.drew _ _).q hq3; have k0 := hb3.cell 0; have k1 := hb3.cell 1; have z0 := hb3.frozen 0; have z1 := hb3.frozen 1; simp only [List.getElem?_toArray, List.getElem?_cons_zero, List.getElem?_cons_succ] at k0 k1)
      | (go_at_call 89; refine (rules_any y.w.drew).mono ?_; rintro e w' ⟨b, rfl, hM, hq3⟩; have hqA := Q.trans (Q.refl y.w).drew hq3; have hl1 := looks hM a.kind; have hl2 := fun o => looks (hM.q (q_alloc (Q.refl _) o)) a.kind; rw [hkd] at hl1; simp only [hkd] at hl2))
  all_goals go_wp2
  · have hF := tail_facts hL hI hq1 (q_alloc hqA (.cells #[.int .i64 (ruleF a.kind.toNat), .func (.func (ruleId a.kind.toNat)) #[] #[]] 134)) (Blk.new w' 134 #[.int .i64 (ruleF a.kind.toNat), .func (.func (ruleId a.kind.toNat)) #[] #[]])
    obtain ⟨f1, f2, f3, f4, f5⟩ := hF
    refine wp_region_wd (⟨_, Q.refl _⟩ : Wd _) (by kernel_rfl) (by kernel_rfl) ?_
    clear hkd hl1 hM c3 hA hL
    have hce := rule_enter a.kind.toNat (by omega)
    cases hu : (bits .andNot .i64 (usedI a) (ruleF a.kind.toNat) == 0)
    all_goals
      repeat (first | (refine wpQuiet_load_run 39 (.tmp 1) (.pointer (some ⟨w.heap.size, 0, none⟩)) (.agg (actA a)) ?_ ?_ ?_ ?_ ?_; rfl; rfl; rfl; exact f1; dsimp only [Act.put]; simp only [List.setIfInBounds_toArray, List.set_cons_succ, List.set_cons_zero]) | go_big_quiet_step (first | exact Wd.call _ (used_any _ _) | exact Wd.call _ (rule_calls a _ (f4 _) _ (by omega))))
      refine wpQuiet_nil ?_
      rintro w'' ⟨z, rfl⟩
      go_wp2
      go_ret
      exact ⟨by rw [fits_of a hk _ hu]; rfl, f5 z⟩
  · have hF := tail_facts hL hI hq1 (q_alloc hqA (.cells #[.int .i64 (ruleF a.kind.toNat), .func (.func (ruleId a.kind.toNat)) #[] #[]] 134)) (Blk.new w' 134 #[.int .i64 (ruleF a.kind.toNat), .func (.func (ruleId a.kind.toNat)) #[] #[]])
    obtain ⟨f1, f2, f3, f4, f5⟩ := hF
    refine wp_region_wd (⟨_, Q.refl _⟩ : Wd _) (by kernel_rfl) (by kernel_rfl) ?_
    clear hkd hl1 hM c3 hA hL
    have hce := rule_enter a.kind.toNat (by omega)
    cases hu : (bits .andNot .i64 (usedI a) (ruleF a.kind.toNat) == 0)
    all_goals
      repeat (first | (refine wpQuiet_load_run 39 (.tmp 1) (.pointer (some ⟨w.heap.size, 0, none⟩)) (.agg (actA a)) ?_ ?_ ?_ ?_ ?_; rfl; rfl; rfl; exact f1; dsimp only [Act.put]; simp only [List.setIfInBounds_toArray, List.set_cons_succ, List.set_cons_zero]) | go_big_quiet_step (first | exact Wd.call _ (used_any _ _) | exact Wd.call _ (rule_calls a _ (f4 _) _ (by omega))))
      refine wpQuiet_nil ?_
      rintro w'' ⟨z, rfl⟩
      go_wp2
      go_ret
      exact ⟨by rw [fits_of a hk _ hu]; rfl, f5 z⟩
  · have hF := tail_facts hL hI hq1 (q_set2 hqA (.int .i64 (ruleF a.kind.toNat)) (.func (.func (ruleId a.kind.toNat)) #[] #[])) (show Blk ((w'.setCell ⟨y.w.heap.size, 0, none⟩ (.int .i64 (ruleF a.kind.toNat))).setCell ⟨y.w.heap.size, 1, none⟩ (.func (.func (ruleId a.kind.toNat)) #[] #[])) y.w.heap.size 134 #[.int .i64 (ruleF a.kind.toNat), .func (.func (ruleId a.kind.toNat)) #[] #[]] from (hb3.set_ 0 _).set_ 1 _)
    clear hb3 k0 k1 z0 z1
    generalize ((w'.setCell ⟨y.w.heap.size, 0, none⟩ (.int .i64 (ruleF a.kind.toNat))).setCell ⟨y.w.heap.size, 1, none⟩ (.func (.func (ruleId a.kind.toNat)) #[] #[])) = W at hF ⊢
    obtain ⟨f1, f2, f3, f4, f5⟩ := hF
    refine wp_region_wd (⟨_, Q.refl _⟩ : Wd _) (by kernel_rfl) (by kernel_rfl) ?_
    clear hkd hl1 hM c3 hA hL
    have hce := rule_enter a.kind.toNat (by omega)
    cases hu : (bits .andNot .i64 (usedI a) (ruleF a.kind.toNat) == 0)
    all_goals
      repeat (first | (refine wpQuiet_load_run 39 (.tmp 1) (.pointer (some ⟨w.heap.size, 0, none⟩)) (.agg (actA a)) ?_ ?_ ?_ ?_ ?_; rfl; rfl; rfl; exact f1; dsimp only [Act.put]; simp only [List.setIfInBounds_toArray, List.set_cons_succ, List.set_cons_zero]) | go_big_quiet_step (first | exact Wd.call _ (used_any _ _) | exact Wd.call _ (rule_calls a _ (f4 _) _ (by omega))))
      refine wpQuiet_nil ?_
      rintro w'' ⟨z, rfl⟩
      go_wp2
      go_ret
      exact ⟨by rw [fits_of a hk _ hu]; rfl, f5 z⟩
theorem fits_no (a : ActR) (hk : ¬ (0 ≤ a.kind ∧ a.kind < 24)) : fitsB a = false := by
  unfold fitsB
  by_cases h1 : 0 ≤ a.kind
  · have h2 : ¬ a.kind < 24 := fun h => hk ⟨h1, h⟩
    rw [decide_eq_false h2]
    simp
  · rw [decide_eq_false h1]
    rfl
set_option maxRecDepth 100000 in
set_option maxHeartbeats 8000000 in
theorem actRight_kind (a : ActR) (w : World) (hI : ActIn w a) (g1 : idB a.author = true) (g2 : placedB a = true) (g3 : withinB a.time 0 1099511627776 = true) (g4 : inOrd a.e = true) (g5 : inOrd a.s = true) (hk : ¬ (0 ≤ a.kind ∧ a.kind < 24)) :
    Calls Tryz.prog 57 #[.agg (actA a)] w fun e w' => e = .returned (.bool (fitsB a)) ∧ Q w w' := by
  obtain ⟨w1, x, hx, hq1, hA⟩ := ActAt.box w a 39
  have c0 := hA.get 0 rfl
  have c3 := hA.get 3 rfl
  have c4 := hA.get 4 rfl
  have c18 := hA.get 18 rfl
  have c19 := hA.get 19 rfl
  have hL := hA.load
  unfold inOrd at g4 g5
  go_enter Tryz.func57, Tryz.ntmps57
  go_wp2_with (first
    | (refine wpList_load_run 39 (.tmp 1) (.pointer (some ⟨w.heap.size, 0, none⟩)) (.agg (actA a)) ?_ ?_ ?_ ?_ ?_; rfl; rfl; rfl; exact hL _)
    | (go_at_call 86; refine (idRight_any _ _).mono ?_; rintro e w' ⟨rfl, hq2⟩; obtain ⟨y, rfl⟩ := Wd.next _ hq2; clear hq2)
    | (go_at_call 87; refine (placed_any _ _).mono ?_; rintro e w' ⟨rfl, hq2⟩; obtain ⟨y, rfl⟩ := Wd.next _ hq2; clear hq2)
    | (go_at_call 88; refine (within_at _ _ _ _ _ rfl).mono ?_; rintro e w' ⟨rfl, rfl⟩))
  have hkd : looked a.kind = .tuple #[.agg #[.int .i64 0, .nilFunc], .bool false] := by
    unfold looked
    rw [if_neg hk]
  clear c0 c4 c18 c19 hx
  go_region_held3 (fun w' => w'.cell? ⟨w.heap.size, 3, none⟩ = some (.int .i64 a.kind) ∧ Q y.w w')
    ((refine kind_q c3 ?_; first | exact hqA | exact (Q.refl _).drew | exact q_alloc hqA _ | exact q_alloc (Q.refl _).drew _ | exact q_set2 hqA _ _))
    (first
      | (go_at_call 89; refine (rules_any (y.w.drew.alloc (.cells #[.int .i64 0, .nilFunc] 134))).mono ?_; rintro e w' ⟨b, rfl, hM, hq3⟩; have hqA := Q.trans (q_alloc (Q.refl y.w).drew _) hq3; have hl1 := looks hM a.kind; rw [hkd] at hl1; have hb3 : Blk w' y.w.heap.size 134 #[.int .i64 0, .nilFunc] := (Blk.new y.w.drew _ _).q hq3; have k0 := hb3.cell 0; have k1 := hb3.cell 1; have z0 := hb3.frozen 0; have z1 := hb3.frozen 1; simp only [List.getElem?_toArray, List.getElem?_cons_zero, List.getElem?_cons_succ] at k0 k1)
      | (go_at_call 89; refine (rules_any y.w.drew).mono ?_; rintro e w' ⟨b, rfl, hM, hq3⟩; have hqA := Q.trans (Q.refl y.w).drew hq3; have hl1 := looks hM a.kind; have hl2 := fun o => looks (hM.q (q_alloc (Q.refl _) o)) a.kind; rw [hkd] at hl1; simp only [hkd] at hl2))
  all_goals go_wp2
  · have hF := tail_facts hL hI hq1 (q_alloc hqA (.cells #[.int .i64 0, .nilFunc] 134)) (Blk.new w' 134 #[.int .i64 0, .nilFunc])
    obtain ⟨f1, f2, f3, f4, f5⟩ := hF
    refine wp_region_wd (⟨_, Q.refl _⟩ : Wd _) (by kernel_rfl) (by kernel_rfl) ?_
    clear hkd hl1 hM c3 hA hL
    all_goals
      repeat (go_big_quiet_step (fail))
      refine wpQuiet_nil ?_
      rintro w'' ⟨z, rfl⟩
      go_wp2
      go_ret
      exact ⟨by rw [fits_no a hk]; rfl, f5 z⟩
  · have hF := tail_facts hL hI hq1 (q_alloc hqA (.cells #[.int .i64 0, .nilFunc] 134)) (Blk.new w' 134 #[.int .i64 0, .nilFunc])
    obtain ⟨f1, f2, f3, f4, f5⟩ := hF
    refine wp_region_wd (⟨_, Q.refl _⟩ : Wd _) (by kernel_rfl) (by kernel_rfl) ?_
    clear hkd hl1 hM c3 hA hL
    all_goals
      repeat (go_big_quiet_step (fail))
      refine wpQuiet_nil ?_
      rintro w'' ⟨z, rfl⟩
      go_wp2
      go_ret
      exact ⟨by rw [fits_no a hk]; rfl, f5 z⟩
  · have hF := tail_facts hL hI hq1 (q_set2 hqA (.int .i64 0) .nilFunc) (show Blk ((w'.setCell ⟨y.w.heap.size, 0, none⟩ (.int .i64 0)).setCell ⟨y.w.heap.size, 1, none⟩ .nilFunc) y.w.heap.size 134 #[.int .i64 0, .nilFunc] from (hb3.set_ 0 _).set_ 1 _)
    clear hb3 k0 k1 z0 z1
    generalize ((w'.setCell ⟨y.w.heap.size, 0, none⟩ (.int .i64 0)).setCell ⟨y.w.heap.size, 1, none⟩ .nilFunc) = W at hF ⊢
    obtain ⟨f1, f2, f3, f4, f5⟩ := hF
    refine wp_region_wd (⟨_, Q.refl _⟩ : Wd _) (by kernel_rfl) (by kernel_rfl) ?_
    clear hkd hl1 hM c3 hA hL
    all_goals
      repeat (go_big_quiet_step (fail))
      refine wpQuiet_nil ?_
      rintro w'' ⟨z, rfl⟩
      go_wp2
      go_ret
      exact ⟨by rw [fits_no a hk]; rfl, f5 z⟩

theorem actRight_any (a : ActR) (w : World) (hI : ActIn w a) : Calls Tryz.prog 57 #[.agg (actA a)] w fun e w' => e = .returned (.bool (actRight a)) ∧ Q w w' := by
  unfold actRight
  cases g1 : idB a.author
  · exact actRight_out a w (.inl g1)
  cases g2 : placedB a
  · exact actRight_out a w (.inr (.inl ⟨g1, g2⟩))
  cases g3 : withinB a.time 0 1099511627776
  · exact actRight_out a w (.inr (.inr (.inl ⟨g1, g2, g3⟩)))
  cases g4 : inOrd a.e
  · exact actRight_out a w (.inr (.inr (.inr (.inl ⟨g1, g2, g3, g4⟩))))
  cases g5 : inOrd a.s
  · exact actRight_out a w (.inr (.inr (.inr (.inr ⟨g1, g2, g3, g4, g5⟩))))
  by_cases hk : 0 ≤ a.kind ∧ a.kind < 24
  · exact actRight_in a w hI g1 g2 g3 g4 g5 hk
  · exact actRight_kind a w hI g1 g2 g3 g4 g5 hk
end Go.Proofs.YtjfcllanochhmaaGreatDoor.Item
