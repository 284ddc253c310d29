/-
  The contract of package sign's challenge.
-/
import Derived.Test.YtjfcllanochhmaaGreatDoorSignHash
import Derived.Test.YtjfcllanochhmaaGreatDoorGrpLaw
import Derived.Deep.RegionHeld3
import Derived.Laws.StructEq
set_option linter.unusedVariables false
set_option linter.unusedSimpArgs false
namespace Go.Proofs.YtjfcllanochhmaaGreatDoor.Sign
open Go.RowKit Grp Mem _root_.Go.Proofs.YtjfcllanochhmaaGreatDoor.Code Sha

/-- A string of the text, in the dump's own bytes. -/
def lit (l : List UInt8) : ByteArray := ⟨l.toArray⟩
def signT : ByteArray := textB (lit [115, 105, 103, 110])
def chalB (r y : Int) (m : ByteArray) : ByteArray := cat [signT, numB r, numB y, textB m]
def chalI (r y : Int) (m : ByteArray) : Int := hashI (chalB r y m) % 2305843009213693950

theorem textB_size (s : ByteArray) : (textB s).size ≤ s.size + 10 := by unfold textB; rw [ba_size]; exact textL_length s
theorem chalB_size (r y : Int) (m : ByteArray) : (chalB r y m).size ≤ m.size + 44 := by
  unfold chalB
  rw [cat_size]
  have h1 := numB_size r
  have h2 := numB_size y
  have h3 := textB_size m
  have h4 : signT.size ≤ 14 := textB_size (lit [115, 105, 103, 110])
  simp only [List.map_cons, List.map_nil, List.sum_cons, List.sum_nil]
  omega
theorem Strs.of {w : World} {g : Nat} {t : TypeId} {l : List ByteArray} (h : Blk w g t ((l.map Value.string).toArray)) : Strs w (some ⟨g, 0, none⟩) l := fun h0 =>
  ⟨g, 0, rfl, h.lt, fun j hj => by
    rw [Nat.zero_add, h.cell]
    simp [hj]⟩

theorem hash_new (l : List ByteArray) (n : Nat) (cs : Array Value) (t : TypeId) (w : World) (hT : Tab w) (hn : l.length = n) (hcs : (l.map Value.string).toArray = cs) (h1 : n ≤ 100) (hs : (cat l).size ≤ 140737488355327) :
    Calls Tryz.prog 83 #[.slice (some ⟨w.heap.size, 0, none⟩) n n] (w.alloc (.cells cs t)) fun e w' => e = .returned (.int .i64 (hashI (cat l))) ∧ Q w w' := by
  subst hn hcs
  have hq : Q w (w.alloc (.cells (l.map Value.string).toArray t)) := Below.alloc (Q.refl w) (Nat.le_refl _) _
  exact (hash_any _ l _ _ (hT.q hq) (Strs.of (Blk.new w t _)) (Nat.le_refl _) (by omega) hs).mono fun e w' ⟨h1, h2⟩ => ⟨h1, Q.trans hq h2⟩

set_option maxRecDepth 100000 in
set_option maxHeartbeats 1000000 in
theorem challenge_any (r y : Int) (m : ByteArray) (w : World) (hT : Tab w) (hr : r ≤ 9223372036854775807) (hy : y ≤ 9223372036854775807) (hm : m.size ≤ 140737488355200) :
    Calls Tryz.prog 104 #[.int .i64 r, .int .i64 y, .string m] w fun e w' => e = .returned (.int .i64 (chalI r y m)) ∧ Q w w' := by
  have hz : (chalB r y m).size ≤ 140737488355327 := by have := chalB_size r y m; omega
  have HZ := Lib.hid hz
  clear hz
  go_enter Tryz.func104, Tryz.ntmps104
  go_wp2_with fail
  refine (Text_any _ _ (by decide)).mono ?_
  rintro e w1 ⟨rfl, hq1⟩
  go_wp2_with fail
  refine (Num_any _ _ hr).mono ?_
  rintro e w2 ⟨rfl, hq2⟩
  go_wp2_with fail
  refine (Num_any _ _ hy).mono ?_
  rintro e w3 ⟨rfl, hq3⟩
  go_wp2_with fail
  refine (Text_any _ _ (by omega)).mono ?_
  rintro e w4 ⟨rfl, hq4⟩
  have hq := Q.trans hq1 (Q.trans hq2 (Q.trans hq3 hq4))
  clear hq1 hq2 hq3 hq4
  go_wp2_with fail
  refine (hash_new [signT, numB r, numB y, textB m] 4 _ _ _ (hT.q hq) rfl rfl (by decide) HZ.out).mono ?_
  rintro e w5 ⟨rfl, hq5⟩
  have hb := hashI_bd (chalB r y m)
  change 0 ≤ hashI (cat [signT, numB r, numB y, textB m]) ∧ hashI (cat [signT, numB r, numB y, textB m]) < _ at hb
  go_wp2
  go_ret
  exact ⟨rfl, Q.trans hq hq5⟩

/-- A key: its secret and its public number. -/
def keyOf (x : Int) : Int × Int := if x < 1 ∨ x > 2305843009213693949 then (0, 0) else (x, gexp 37 x)
def keyV (k : Int × Int) : Value := .agg #[.int .i64 k.1, .int .i64 k.2]

def keyCs (k : Int × Int) : Array Value := #[.int .i64 k.1, .int .i64 k.2]
theorem key_all (k : Int × Int) : (keyCs k).all (·.oneCell') = true := by simp [keyCs, Value.oneCell']
theorem q_new (w : World) (cs : Array Value) (t : TypeId) : Q w (w.alloc (.cells cs t)) := Below.alloc (Q.refl w) (Nat.le_refl _) _

theorem Of_no (x : Int) (w : World) (h : (decide (x < 1) || decide (2305843009213693949 < x)) = true) :
    Calls Tryz.prog 81 #[.int .i64 x] w fun e w' => e = .returned (keyV (0, 0)) ∧ Q w w' := by
  go_enter Tryz.func81, Tryz.ntmps81
  go_wp2
  all_goals exact bodyPost_ret (results_cell_row rfl _ _ w.heap.size 63 (keyCs (0, 0)) (0, 0) _ rfl (Blk.new w _ _) Tryz.underlying63 rfl (by kernel_rfl)) rfl ⟨rfl, q_new _ _ _⟩

set_option maxHeartbeats 400000 in
theorem Of_yes (x : Int) (w : World) (h0 : 1 ≤ x) (h1 : x ≤ 2305843009213693949) :
    Calls Tryz.prog 81 #[.int .i64 x] w fun e w' => e = .returned (keyV (x, gexp 37 x)) ∧ Q w w' := by
  have hk := Lib.hid (key_all (x, gexp 37 x))
  go_enter Tryz.func81, Tryz.ntmps81
  go_wp2_with fail
  refine (Exp_any 37 x _ (by omega) (by omega)).mono ?_
  rintro e w1 ⟨rfl, hq⟩
  have hb := (Blk.new w 63 (keyCs (0, 0))).q hq
  have hq0 := Q.trans (q_new w (keyCs (0, 0)) 63) hq
  go_wp2_with (refine wpList_store_row rfl 63 _ _ rfl w.heap.size (keyCs (x, gexp 37 x)) rfl rfl 63 (keyCs (0, 0)) hb (by kernel_rfl) (by kernel_rfl) hk.out ?_)
  exact bodyPost_ret (results_cell_row rfl _ _ w.heap.size 63 (keyCs (x, gexp 37 x)) (0, 0) _ rfl (Blk.setRow hb _) Tryz.underlying63 rfl (by kernel_rfl)) rfl ⟨rfl, below_setRow hq0 (Nat.le_refl _) _⟩

theorem Of_any (x : Int) (w : World) : Calls Tryz.prog 81 #[.int .i64 x] w fun e w' => e = .returned (keyV (keyOf x)) ∧ Q w w' := by
  unfold keyOf
  by_cases h : x < 1 ∨ x > 2305843009213693949
  · rw [if_pos h]
    exact Of_no x w (by simp; omega)
  · rw [if_neg h]
    exact Of_yes x w (by omega) (by omega)

theorem Of_agg (x : Int) (w : World) : Calls Tryz.prog 81 #[.int .i64 x] w fun e w' => e = .returned (.agg #[.int .i64 (keyOf x).1, .int .i64 (keyOf x).2]) ∧ Q w w' := Of_any x w

def keyT : ByteArray := textB (lit [107, 101, 121])
def keyB (s : ByteArray) : ByteArray := cat [keyT, textB s]
def seedKey (s : ByteArray) : Int := redI (hashI (keyB s))
theorem keyB_size (s : ByteArray) : (keyB s).size ≤ s.size + 24 := by
  unfold keyB
  rw [cat_size]
  have h3 := textB_size s
  have h4 : keyT.size ≤ 13 := textB_size (lit [107, 101, 121])
  simp only [List.map_cons, List.map_nil, List.sum_cons, List.sum_nil]
  omega

set_option maxHeartbeats 400000 in
theorem Key_any (s : ByteArray) (w : World) (hT : Tab w) (hm : s.size ≤ 140737488355200) :
    Calls Tryz.prog 50 #[.string s] w fun e w' => e = .returned (keyV (keyOf (seedKey s))) ∧ Q w w' := by
  have hz : (keyB s).size ≤ 140737488355327 := by have := keyB_size s; omega
  have HZ := Lib.hid hz
  have hk := Lib.hid (key_all (keyOf (seedKey s)))
  have hb0 := Blk.new w 63 (keyCs (0, 0))
  have hq0 := q_new w (keyCs (0, 0)) 63
  clear hz
  go_enter Tryz.func50, Tryz.ntmps50
  go_wp2_with fail
  refine (Text_any _ _ (by decide)).mono ?_
  rintro e w1 ⟨rfl, hq1⟩
  go_wp2_with fail
  refine (Text_any _ _ (by omega)).mono ?_
  rintro e w2 ⟨rfl, hq2⟩
  have hb := (hb0.q hq1).q hq2
  have hq := Q.trans hq0 (Q.trans hq1 hq2)
  clear hb0 hq0 hq1 hq2
  go_wp2_with fail
  refine (hash_new [keyT, textB s] 2 _ _ _ (hT.q hq) rfl rfl (by decide) HZ.out).mono ?_
  rintro e w3 ⟨rfl, hq3⟩
  have hh := hashI_bd (keyB s)
  change 0 ≤ hashI (cat [keyT, textB s]) ∧ hashI (cat [keyT, textB s]) < _ at hh
  go_wp2_with fail
  refine (reduce_any _ _ hh.1 (by omega)).mono ?_
  rintro e w4 ⟨rfl, hq4⟩
  go_wp2_with fail
  refine (Of_any _ _).mono ?_
  rintro e w5 ⟨rfl, hq5⟩
  have hb := ((hb.q hq3).q hq4).q hq5
  have hq := Q.trans hq (Q.trans hq3 (Q.trans hq4 hq5))
  clear hq3 hq4 hq5
  go_wp2_with (refine wpList_store_row rfl 63 _ _ rfl w.heap.size (keyCs (keyOf (seedKey s))) rfl rfl 63 (keyCs (0, 0)) hb (by kernel_rfl) (by kernel_rfl) hk.out ?_)
  exact bodyPost_ret (results_cell_row rfl _ _ w.heap.size 63 (keyCs (keyOf (seedKey s))) (0, 0) _ rfl (Blk.setRow hb _) Tryz.underlying63 rfl (by kernel_rfl)) rfl ⟨rfl, below_setRow hq (Nat.le_refl _) _⟩

theorem held2 {w w1 w2 : World} {g i j : Nat} {u v : Option Value} (h : w1.cell? ⟨g, i, none⟩ = u ∧ w1.cell? ⟨g, j, none⟩ = v ∧ g < w1.heap.size ∧ Q w w1) (hq : Q w1 w2) :
    w2.cell? ⟨g, i, none⟩ = u ∧ w2.cell? ⟨g, j, none⟩ = v ∧ g < w2.heap.size ∧ Q w w2 :=
  ⟨(hq.cell (p := ⟨g, i, none⟩) h.2.2.1).trans h.1, (hq.cell (p := ⟨g, j, none⟩) h.2.2.1).trans h.2.1, Nat.lt_of_lt_of_le h.2.2.1 hq.size, Q.trans h.2.2.2 hq⟩

open Go.Op Go.Instr in
theorem keyEq (x y x' y' : Int) (w : World) : (binOp .eql 63 (.agg #[.int .i64 x, .int .i64 y]) (.agg #[.int .i64 x', .int .i64 y'])).run Tryz.prog w = .ok (.bool (decide (x = x') && decide (y = y'))) w := by
  have u3 := Tryz.underlying3
  have a3 := Tryz.isAgg3
  have z3 := Tryz.sizeOf3
  have hS : Tryz.prog.underlying 63 = some (.struct (Tryz.prog.fieldsOf 63)) := by kernel_rfl
  have hp : Tryz.prog.stoodInHeld 63 = false := by kernel_rfl
  rw [run_eql_struct, show (10000 : Nat) = 9999 + 1 from rfl, run_equalIn_agg w 9999 63 _ _ hS hp]
  simp only [Program.fieldsOf, Tryz.underlying63]
  go_simp
  by_cases h1 : x = x' <;> by_cases h2 : y = y' <;> simp [h1, h2]
theorem keyGuard (op : BinOp) (a b : Operand) (xs ys : Array Value) (w : World) : (eqGuard op 63 a b (.agg xs) (.agg ys)).run Tryz.prog w = .ok () w := run_eqGuard_agg w op _ _ _ _ _ (by kernel_rfl)

def rightI (k : Int × Int) : Bool := decide (1 ≤ k.1) && (decide (k.1 = (keyOf k.1).1) && decide (k.2 = (keyOf k.1).2))
theorem Right_any (k : Int × Int) (w : World) : Calls Tryz.prog 103 #[keyV k] w fun e w' => e = .returned (.bool (rightI k)) ∧ Q w w' := by
  obtain ⟨x, y⟩ := k
  unfold rightI
  dsimp only
  by_cases h : 1 ≤ x
  · have h0 : decide (1 ≤ x) = true := by simp [h]
    have hE := keyEq
    have hG := keyGuard
    change Calls _ _ #[.agg #[.int .i64 x, .int .i64 y]] _ _
    rw [h0, Bool.true_and]
    go_enter Tryz.func103, Tryz.ntmps103
    go_wp2_with fail
    have hb := Blk.new w 63 #[.int .i64 x, .int .i64 y]
    have hq0 := q_new w #[.int .i64 x, .int .i64 y] 63
    have hc0 := hb.cell 0
    have hc1 := hb.cell 1
    simp only [List.getElem?_toArray, List.getElem?_cons_zero, List.getElem?_cons_succ] at hc0 hc1
    have hlt := hb.lt
    generalize hW : w.alloc (.cells #[.int .i64 x, .int .i64 y] 63) = W at *
    clear hb
    go_region_held3 (fun w' => w'.cell? ⟨w.heap.size, 0, none⟩ = some (.int .i64 x) ∧ w'.cell? ⟨w.heap.size, 1, none⟩ = some (.int .i64 y) ∧ w.heap.size < w'.heap.size ∧ Q w w') (first | exact ⟨hc0, hc1, hlt, hq0.drew⟩ | exact held2 (by assumption) hq) (first | (go_at_call 81; refine (Of_agg _ _).mono ?_; rintro e w' ⟨rfl, hq⟩))
    go_wp2
    go_ret
    exact ⟨rfl, by rename_i hh; exact hh.2.2.2⟩
  · have h0 : decide (1 ≤ x) = false := by simp [h]
    change Calls _ _ #[.agg #[.int .i64 x, .int .i64 y]] _ _
    rw [h0, Bool.false_and]
    go_enter Tryz.func103, Tryz.ntmps103
    go_wp2_with fail
    have hb := Blk.new w 63 #[.int .i64 x, .int .i64 y]
    have hq0 := q_new w #[.int .i64 x, .int .i64 y] 63
    have hc0 := hb.cell 0
    have hc1 := hb.cell 1
    simp only [List.getElem?_toArray, List.getElem?_cons_zero, List.getElem?_cons_succ] at hc0 hc1
    have hlt := hb.lt
    generalize hW : w.alloc (.cells #[.int .i64 x, .int .i64 y] 63) = W at *
    clear hb
    go_quiet (fail)
    go_wp2
    go_ret
    exact ⟨rfl, hq0.drewN _⟩
end Go.Proofs.YtjfcllanochhmaaGreatDoor.Sign
