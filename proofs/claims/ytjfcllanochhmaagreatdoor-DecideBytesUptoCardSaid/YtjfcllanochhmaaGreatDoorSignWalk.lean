/-
  The contracts of package sign's Sign and Verify.
-/
import Derived.Test.YtjfcllanochhmaaGreatDoorSignChal
set_option linter.unusedVariables false
set_option linter.unusedSimpArgs false
namespace Go.Proofs.YtjfcllanochhmaaGreatDoor.Sign
open Go.RowKit Grp Mem _root_.Go.Proofs.YtjfcllanochhmaaGreatDoor.Code Sha

def inI (n : Int) : Bool := decide (0 ≤ n) && decide (n < 2305843009213693950)
theorem inOrder_any (n : Int) (w : World) : Calls Tryz.prog 141 #[.int .i64 n] w fun e w' => e = .returned (.bool (inI n)) ∧ w = w' := by
  unfold inI
  by_cases h : 0 ≤ n
  · have h0 : decide (0 ≤ n) = true := by simp [h]
    rw [h0, Bool.true_and]
    go_enter Tryz.func141, Tryz.ntmps141
    go_wp2
    go_ret
    exact ⟨rfl, rfl⟩
  · have h0 : decide (0 ≤ n) = false := by simp [h]
    rw [h0, Bool.false_and]
    go_enter Tryz.func141, Tryz.ntmps141
    go_wp2
    go_ret
    exact ⟨rfl, rfl⟩


/-- What is kept while Sign runs: the table, what lay below, the result's block. -/
def Ctx (w0 w : World) (g : Nat) (t : TypeId) (cs : Array Value) : Prop := Q w0 w ∧ Tab w ∧ Blk w g t cs
theorem Ctx.q {w0 w1 w2 : World} {g : Nat} {t : TypeId} {cs : Array Value} (h : Ctx w0 w1 g t cs) (hq : Q w1 w2) : Ctx w0 w2 g t cs := ⟨Q.trans h.1 hq, h.2.1.q hq, h.2.2.q hq⟩
theorem held4 {w w1 w2 : World} {g g' : Nat} {t : TypeId} {cs : Array Value} {u v : Option Value} (h : w1.cell? ⟨g, 0, none⟩ = u ∧ w1.cell? ⟨g, 1, none⟩ = v ∧ g < w1.heap.size ∧ Ctx w w1 g' t cs) (hq : Q w1 w2) :
    w2.cell? ⟨g, 0, none⟩ = u ∧ w2.cell? ⟨g, 1, none⟩ = v ∧ g < w2.heap.size ∧ Ctx w w2 g' t cs :=
  ⟨(hq.cell (p := ⟨g, 0, none⟩) h.2.2.1).trans h.1, (hq.cell (p := ⟨g, 1, none⟩) h.2.2.1).trans h.2.1, Nat.lt_of_lt_of_le h.2.2.1 hq.size, h.2.2.2.q hq⟩
theorem held4_alloc {w w1 : World} {g g' : Nat} {t : TypeId} {cs : Array Value} {u v : Option Value} (h : w1.cell? ⟨g, 0, none⟩ = u ∧ w1.cell? ⟨g, 1, none⟩ = v ∧ g < w1.heap.size ∧ Ctx w w1 g' t cs) (cs' : Array Value) (t' : TypeId) :
    (w1.alloc (.cells cs' t')).cell? ⟨g, 0, none⟩ = u ∧ (w1.alloc (.cells cs' t')).cell? ⟨g, 1, none⟩ = v ∧ g < (w1.alloc (.cells cs' t')).heap.size ∧ Ctx w (w1.alloc (.cells cs' t')) g' t cs := held4 h (q_new _ _ _)
theorem hash_at {w w1 : World} {g g' : Nat} {t : TypeId} {cs : Array Value} {u v : Option Value} (l : List ByteArray) (n : Nat) (cs' : Array Value) (t' : TypeId) (h : (w1.alloc (.cells cs' t')).cell? ⟨g, 0, none⟩ = u ∧ (w1.alloc (.cells cs' t')).cell? ⟨g, 1, none⟩ = v ∧ g < (w1.alloc (.cells cs' t')).heap.size ∧ Ctx w (w1.alloc (.cells cs' t')) g' t cs)
    (hn : l.length = n) (hcs : (l.map Value.string).toArray = cs') (h1 : n ≤ 100) (hs : (cat l).size ≤ 140737488355327) :
    Calls Tryz.prog 83 #[.slice (some ⟨w1.heap.size, 0, none⟩) n n] (w1.alloc (.cells cs' t')) fun e w' => e = .returned (.int .i64 (hashI (cat l))) ∧ Q (w1.alloc (.cells cs' t')) w' := by
  subst hn hcs
  exact hash_any _ l _ _ h.2.2.2.2.1 (Strs.of (Blk.new w1 t' _)) (Nat.le_refl _) (by omega) hs
theorem reduce_hash (s : ByteArray) (w : World) : Calls Tryz.prog 82 #[.int .i64 (hashI s)] w fun e w' => e = .returned (.int .i64 (redI (hashI s))) ∧ Q w w' := by
  have h := hashI_bd s
  exact reduce_any _ _ h.1 (by omega)
theorem challenge_at {w w1 : World} {g g' : Nat} {t : TypeId} {cs : Array Value} {u v : Option Value} (r y : Int) (m : ByteArray) (h : w1.cell? ⟨g, 0, none⟩ = u ∧ w1.cell? ⟨g, 1, none⟩ = v ∧ g < w1.heap.size ∧ Ctx w w1 g' t cs) (hr : r ≤ 9223372036854775807) (hy : y ≤ 9223372036854775807) (hm : m.size ≤ 140737488355200) :
    Calls Tryz.prog 104 #[.int .i64 r, .int .i64 y, .string m] w1 fun e w' => e = .returned (.int .i64 (chalI r y m)) ∧ Q w1 w' := challenge_any r y m w1 h.2.2.2.2.1 hr hy hm
def nonceT : ByteArray := textB (lit [110, 111, 110, 99, 101])
def nonceB (x : Int) (m : ByteArray) : ByteArray := cat [nonceT, numB x, textB m]
def nonceI (x : Int) (m : ByteArray) : Int := redI (hashI (nonceB x m))
theorem nonceB_size (x : Int) (m : ByteArray) : (nonceB x m).size ≤ m.size + 35 := by
  unfold nonceB
  rw [cat_size]
  have h1 := numB_size x
  have h3 := textB_size m
  have h4 : nonceT.size ≤ 15 := textB_size (lit [110, 111, 110, 99, 101])
  simp only [List.map_cons, List.map_nil, List.sum_cons, List.sum_nil]
  omega
theorem nonce_at {w w1 : World} {g g' : Nat} {t : TypeId} {cs : Array Value} {u v : Option Value} (x : Int) (m : ByteArray) (cs' : Array Value) (t' : TypeId) (h : (w1.alloc (.cells cs' t')).cell? ⟨g, 0, none⟩ = u ∧ (w1.alloc (.cells cs' t')).cell? ⟨g, 1, none⟩ = v ∧ g < (w1.alloc (.cells cs' t')).heap.size ∧ Ctx w (w1.alloc (.cells cs' t')) g' t cs)
    (hcs : ([nonceT, numB x, textB m].map Value.string).toArray = cs') (hs : (nonceB x m).size ≤ 140737488355327) :
    Calls Tryz.prog 83 #[.slice (some ⟨w1.heap.size, 0, none⟩) 3 3] (w1.alloc (.cells cs' t')) fun e w' => e = .returned (.int .i64 (hashI (nonceB x m))) ∧ Q (w1.alloc (.cells cs' t')) w' := hash_at [nonceT, numB x, textB m] 3 cs' t' h rfl hcs (by decide) hs
theorem reduce_nonce (x : Int) (m : ByteArray) (w : World) : Calls Tryz.prog 82 #[.int .i64 (hashI (nonceB x m))] w fun e w' => e = .returned (.int .i64 (nonceI x m)) ∧ Q w w' := reduce_hash _ _
/-- The signature of a right key. -/
def sigE (x y : Int) (m : ByteArray) : Int := chalI (gexp 37 (nonceI x m)) y m
def sigS (x y : Int) (m : ByteArray) : Int := gaddN (nonceI x m) (gmulN (sigE x y m) x)
def sigOf (k : Int × Int) (m : ByteArray) : Int × Int := if rightI k then (sigE k.1 k.2 m, sigS k.1 k.2 m) else (0, 0)

theorem Sign_no (k : Int × Int) (m : ByteArray) (w : World) (h : rightI k = false) : Calls Tryz.prog 72 #[keyV k, .string m] w fun e w' => e = .returned (keyV (0, 0)) ∧ Q w w' := by
  obtain ⟨x, y⟩ := k
  have hR := Right_any (x, y)
  rw [h] at hR
  have hk := Lib.hid (key_all (0, 0))
  have hb0 := (Blk.new w 63 #[.int .i64 x, .int .i64 y]).alloc (.cells (keyCs (0, 0)) 37)
  have hb1 := Blk.new' (w.alloc (.cells #[.int .i64 x, .int .i64 y] 63)) 37 (keyCs (0, 0)) rfl
  have hq0 := Q.trans (q_new w #[.int .i64 x, .int .i64 y] 63) (q_new _ (keyCs (0, 0)) 37)
  have hs : (w.alloc (.cells #[.int .i64 x, .int .i64 y] 63)).heap.size = w.heap.size + 1 := by simp
  rw [hs] at hb1
  change Calls _ _ #[.agg #[.int .i64 x, .int .i64 y], .string m] _ _
  change ∀ w, Calls _ _ #[.agg #[.int .i64 x, .int .i64 y]] _ _ at hR
  have HR := Lib.hid hR
  clear hR
  go_enter Tryz.func72, Tryz.ntmps72
  go_wp2_with fail
  refine (HR.out _).mono ?_
  rintro e w1 ⟨rfl, hq1⟩
  have hb := hb1.q hq1
  have hq := Q.trans hq0 hq1
  clear hb0 hb1 hq0 hq1
  go_wp2_with (refine wpList_store_row rfl 37 _ _ rfl (w.heap.size + 1) (keyCs (0, 0)) rfl rfl 37 (keyCs (0, 0)) hb (by kernel_rfl) (by kernel_rfl) hk.out ?_)
  exact bodyPost_ret (results_cell_row rfl _ _ (w.heap.size + 1) 37 (keyCs (0, 0)) (0, 0) _ rfl (Blk.setRow hb _) Tryz.underlying37 rfl (by kernel_rfl)) rfl ⟨rfl, below_setRow hq (by omega) _⟩

set_option maxHeartbeats 1000000 in
theorem Sign_yes (x y : Int) (m : ByteArray) (w : World) (hT : Tab w) (h : rightI (x, y) = true) (hx : x ≤ 9223372036854775807) (hy : y ≤ 9223372036854775807) (hm : m.size ≤ 140737488355200) :
    Calls Tryz.prog 72 #[keyV (x, y), .string m] w fun e w' => e = .returned (keyV (sigE x y m, sigS x y m)) ∧ Q w w' := by
  have hR := Right_any (x, y)
  rw [h] at hR
  have hz : (nonceB x m).size ≤ 140737488355327 := by have := nonceB_size x m; omega
  have HZ := Lib.hid hz
  clear hz
  have hk := Lib.hid (key_all (sigE x y m, sigS x y m))
  have hb0 := (Blk.new w 63 #[.int .i64 x, .int .i64 y]).alloc (.cells (keyCs (0, 0)) 37)
  have hb1 := Blk.new' (w.alloc (.cells #[.int .i64 x, .int .i64 y] 63)) 37 (keyCs (0, 0)) rfl
  have hq0 := Q.trans (q_new w #[.int .i64 x, .int .i64 y] 63) (q_new _ (keyCs (0, 0)) 37)
  have hs : (w.alloc (.cells #[.int .i64 x, .int .i64 y] 63)).heap.size = w.heap.size + 1 := by simp
  rw [hs] at hb1
  have hnb : 1 ≤ nonceI x m ∧ nonceI x m ≤ 2305843009213693949 := redI_bd _
  have hgb := gexp_bd 37 (nonceI x m)
  have HNB := Lib.hid hnb
  have HGB := Lib.hid hgb
  clear hnb hgb
  change Calls _ _ #[.agg #[.int .i64 x, .int .i64 y], .string m] _ _
  change ∀ w, Calls _ _ #[.agg #[.int .i64 x, .int .i64 y]] _ _ at hR
  have HR := Lib.hid hR
  clear hR
  go_enter Tryz.func72, Tryz.ntmps72
  go_wp2_with fail
  refine (HR.out _).mono ?_
  rintro e w1 ⟨rfl, hq1⟩
  have hb := hb1.q hq1
  have hc0 := (hb0.q hq1).cell 0
  have hc1 := (hb0.q hq1).cell 1
  simp only [List.getElem?_toArray, List.getElem?_cons_zero, List.getElem?_cons_succ] at hc0 hc1
  have hlt := (hb0.q hq1).lt
  have hq := Q.trans hq0 hq1
  have hX : Ctx w w1 (w.heap.size + 1) 37 (keyCs (0, 0)) := ⟨hq, hT.q hq, hb⟩
  clear hb0 hb1 hq0 hq1 hq hb
  go_wp2_with fail
  go_region_held3 (fun w' => w'.cell? ⟨w.heap.size, 0, none⟩ = some (.int .i64 x) ∧ w'.cell? ⟨w.heap.size, 1, none⟩ = some (.int .i64 y) ∧ w.heap.size < w'.heap.size ∧ Ctx w w' (w.heap.size + 1) 37 (keyCs (0, 0))) (first | exact ⟨hc0, hc1, hlt, hX.q (Q.refl _).drew⟩ | exact held4 (by assumption) hq | exact held4_alloc (by assumption) _ _) (first | (go_at_call 84; refine (Text_any _ _ (by first | decide | omega)).mono ?_; rintro e w' ⟨rfl, hq⟩) | (go_at_call 62; refine (Num_any _ _ (by omega)).mono ?_; rintro e w' ⟨rfl, hq⟩) | (go_at_call 83; refine (nonce_at x m _ _ (by assumption) rfl HZ.out).mono ?_; rintro e w' ⟨rfl, hq⟩) | (go_at_call 82; refine (reduce_nonce x m _).mono ?_; rintro e w' ⟨rfl, hq⟩))
  go_wp2_with fail
  obtain ⟨hc0, hc1, hlt, hX⟩ : w'.cell? ⟨w.heap.size, 0, none⟩ = some (.int .i64 x) ∧ w'.cell? ⟨w.heap.size, 1, none⟩ = some (.int .i64 y) ∧ w.heap.size < w'.heap.size ∧ Ctx w w' (w.heap.size + 1) 37 (keyCs (0, 0)) := by assumption
  generalize w' = W at *
  go_region_held3 (fun w' => w'.cell? ⟨w.heap.size, 0, none⟩ = some (.int .i64 x) ∧ w'.cell? ⟨w.heap.size, 1, none⟩ = some (.int .i64 y) ∧ w.heap.size < w'.heap.size ∧ Ctx w w' (w.heap.size + 1) 37 (keyCs (0, 0))) (first | exact ⟨hc0, hc1, hlt, hX.q (Q.refl _).drew⟩ | exact held4 (by assumption) hq) (first | (go_at_call 105; refine (Exp_any 37 _ _ (by have := HNB.out; omega) (by have := HNB.out; omega)).mono ?_; rintro e w' ⟨rfl, hq⟩) | (go_at_call 104; refine (challenge_at _ y m (by assumption) (by have := HGB.out; omega) hy hm).mono ?_; rintro e w' ⟨rfl, hq⟩))
  obtain ⟨hc0, hc1, hlt, hX⟩ : w'.cell? ⟨w.heap.size, 0, none⟩ = some (.int .i64 x) ∧ w'.cell? ⟨w.heap.size, 1, none⟩ = some (.int .i64 y) ∧ w.heap.size < w'.heap.size ∧ Ctx w w' (w.heap.size + 1) 37 (keyCs (0, 0)) := by assumption
  generalize w' = W2 at *
  go_wp2_with fail
  refine (MulN_any _ _ _).mono ?_
  rintro e W3 ⟨rfl, hq3⟩
  go_wp2_with fail
  refine (AddN_any _ _ _).mono ?_
  rintro e W4 ⟨rfl, rfl⟩
  have hX := hX.q hq3
  go_wp2_with (refine wpList_store_row rfl 37 _ _ rfl (w.heap.size + 1) (keyCs (sigE x y m, sigS x y m)) rfl rfl 37 (keyCs (0, 0)) hX.2.2 (by kernel_rfl) (by kernel_rfl) hk.out ?_)
  exact bodyPost_ret (results_cell_row rfl _ _ (w.heap.size + 1) 37 (keyCs (sigE x y m, sigS x y m)) (0, 0) _ rfl (Blk.setRow hX.2.2 _) Tryz.underlying37 rfl (by kernel_rfl)) rfl ⟨rfl, below_setRow hX.1 (by omega) _⟩

theorem Sign_any (k : Int × Int) (m : ByteArray) (w : World) (hT : Tab w) (hx : k.1 ≤ 9223372036854775807) (hy : k.2 ≤ 9223372036854775807) (hm : m.size ≤ 140737488355200) :
    Calls Tryz.prog 72 #[keyV k, .string m] w fun e w' => e = .returned (keyV (sigOf k m)) ∧ Q w w' := by
  unfold sigOf
  cases h : rightI k with
  | false => exact Sign_no k m w h
  | true => exact Sign_yes k.1 k.2 m w hT h hx hy hm

/-- What Verify computes. -/
def rangeI (p : Int) (s : Int × Int) : Bool := (decide (1 ≤ p) && decide (p < 2305843009213693951)) && (inI s.1 && inI s.2)
def commI (p : Int) (s : Int × Int) : Int := gmul (gexp 37 s.2) (gexp p (2305843009213693950 - s.1))
def verI (p : Int) (m : ByteArray) (s : Int × Int) : Bool := rangeI p s && decide (s.1 = chalI (commI p s) p m)

theorem comm_eq (p x y : Int) : gmul (gexp 37 y) (gexp p (2305843009213693950 - x)) = commI p (x, y) := rfl
theorem inOrder_at (n : Int) (b : Bool) (w : World) (h : inI n = b) : Calls Tryz.prog 141 #[.int .i64 n] w fun e w' => e = .returned (.bool b) ∧ w = w' := h ▸ inOrder_any n w

theorem Verify_no (p : Int) (m : ByteArray) (s : Int × Int) (w : World) (h : rangeI p s = false) :
    Calls Tryz.prog 102 #[.int .i64 p, .string m, keyV s] w fun e w' => e = .returned (.bool false) ∧ Q w w' := by
  obtain ⟨x, y⟩ := s
  have hq0 := q_new w #[.int .i64 x, .int .i64 y] 37
  change Calls _ _ #[.int .i64 p, .string m, .agg #[.int .i64 x, .int .i64 y]] _ _
  by_cases h1 : p < 1
  · clear h
    have e1 : decide (p < 1) = true := by simp [h1]
    have e2 : decide (2305843009213693951 ≤ p) = false := by simp; omega
    go_enter Tryz.func102, Tryz.ntmps102
    go_wp2
    go_ret
    exact ⟨rfl, hq0⟩
  by_cases h2 : 2305843009213693951 ≤ p
  · clear h
    have e1 : decide (p < 1) = false := by simp; omega
    have e2 : decide (2305843009213693951 ≤ p) = true := by simp; omega
    go_enter Tryz.func102, Tryz.ntmps102
    go_wp2
    go_ret
    exact ⟨rfl, hq0⟩
  have e1 : decide (p < 1) = false := by simp; omega
  have e2 : decide (2305843009213693951 ≤ p) = false := by simp; omega
  unfold rangeI at h
  have e3 : decide (1 ≤ p) = true := by simp; omega
  have e4 : decide (p < 2305843009213693951) = true := by simp; omega
  rw [e3, e4, Bool.true_and, Bool.true_and] at h
  dsimp only at h
  clear e3 e4
  cases hE : inI x with
  | false =>
    clear h
    go_enter Tryz.func102, Tryz.ntmps102
    go_wp2_with (go_at_call 141; refine (inOrder_at x false _ hE).mono ?_; rintro e w' ⟨rfl, rfl⟩)
    go_ret
    exact ⟨rfl, hq0⟩
  | true =>
    rw [hE, Bool.true_and] at h
    go_enter Tryz.func102, Tryz.ntmps102
    go_wp2_with (go_at_call 141; refine (inOrder_at _ _ _ (by with_reducible first | exact hE | exact h)).mono ?_; rintro e w' ⟨rfl, rfl⟩)
    go_ret
    exact ⟨rfl, hq0⟩

set_option maxHeartbeats 1000000 in
theorem Verify_yes (p : Int) (m : ByteArray) (x y : Int) (w : World) (hT : Tab w) (h : rangeI p (x, y) = true) (hm : m.size ≤ 140737488355200) :
    Calls Tryz.prog 102 #[.int .i64 p, .string m, keyV (x, y)] w fun e w' => e = .returned (.bool (decide (x = chalI (commI p (x, y)) p m))) ∧ Q w w' := by
  unfold rangeI at h
  simp only [Bool.and_eq_true, decide_eq_true_eq] at h
  obtain ⟨⟨h1, h2⟩, hE, hS⟩ := h
  have e1 : decide (p < 1) = false := by simp; omega
  have e2 : decide (2305843009213693951 ≤ p) = false := by simp; omega
  obtain ⟨hx0, hx1⟩ : 0 ≤ x ∧ x < 2305843009213693950 := by unfold inI at hE; simpa using hE
  obtain ⟨hy0, hy1⟩ : 0 ≤ y ∧ y < 2305843009213693950 := by unfold inI at hS; simpa using hS
  have hwr : IntKind.i64.wrap (2305843009213693950 - x) = 2305843009213693950 - x := IntWalk.i64_in _ ⟨by omega, by omega⟩
  have hb := Blk.new w 37 #[.int .i64 x, .int .i64 y]
  have hq0 := q_new w #[.int .i64 x, .int .i64 y] 37
  have hT0 := hT.q hq0
  have hgb : 0 ≤ commI p (x, y) ∧ commI p (x, y) < 2305843009213693951 := emod_bd _ (by decide)
  have HGB := Lib.hid hgb
  clear hgb
  change Calls _ _ #[.int .i64 p, .string m, .agg #[.int .i64 x, .int .i64 y]] _ _
  go_enter Tryz.func102, Tryz.ntmps102
  go_wp2_with (go_at_call 141; refine (inOrder_at _ _ _ (by with_reducible first | exact hE | exact hS)).mono ?_; rintro e w' ⟨rfl, rfl⟩)
  have hc0 := hb.cell 0
  have hc1 := hb.cell 1
  simp only [List.getElem?_toArray, List.getElem?_cons_zero, List.getElem?_cons_succ] at hc0 hc1
  have hlt := hb.lt
  have hX : Ctx w _ w.heap.size 37 #[.int .i64 x, .int .i64 y] := ⟨hq0, hT0, hb⟩
  clear hb hT0 hq0
  generalize w.alloc (.cells #[.int .i64 x, .int .i64 y] 37) = W at *
  go_region_held3 (fun w' => w'.cell? ⟨w.heap.size, 0, none⟩ = some (.int .i64 x) ∧ w'.cell? ⟨w.heap.size, 1, none⟩ = some (.int .i64 y) ∧ w.heap.size < w'.heap.size ∧ Ctx w w' w.heap.size 37 #[.int .i64 x, .int .i64 y]) (first | exact ⟨hc0, hc1, hlt, hX.q (Q.refl _).drew⟩ | exact held4 (by assumption) hq) (first | (go_at_call 105; refine (Exp_any _ _ _ (by omega) (by omega)).mono ?_; rintro e w' ⟨rfl, hq⟩) | (go_at_call 142; refine (Mul_any _ _ _).mono ?_; rintro e w' ⟨rfl, hq⟩))
  obtain ⟨hc0, hc1, hlt, hX⟩ : w'.cell? ⟨w.heap.size, 0, none⟩ = some (.int .i64 x) ∧ w'.cell? ⟨w.heap.size, 1, none⟩ = some (.int .i64 y) ∧ w.heap.size < w'.heap.size ∧ Ctx w w' w.heap.size 37 #[.int .i64 x, .int .i64 y] := by assumption
  generalize w' = W2 at *
  rw [comm_eq]
  go_wp2_with fail
  go_region_held3 (fun w' => w'.cell? ⟨w.heap.size, 0, none⟩ = some (.int .i64 x) ∧ w'.cell? ⟨w.heap.size, 1, none⟩ = some (.int .i64 y) ∧ w.heap.size < w'.heap.size ∧ Ctx w w' w.heap.size 37 #[.int .i64 x, .int .i64 y]) (first | exact ⟨hc0, hc1, hlt, hX.q (Q.refl _).drew⟩ | exact held4 (by assumption) hq) (first | (go_at_call 104; refine (challenge_at _ p m (by assumption) (by have := HGB.out; omega) (by omega) hm).mono ?_; rintro e w' ⟨rfl, hq⟩))
  obtain ⟨hc0, hc1, hlt, hX⟩ : w'.cell? ⟨w.heap.size, 0, none⟩ = some (.int .i64 x) ∧ w'.cell? ⟨w.heap.size, 1, none⟩ = some (.int .i64 y) ∧ w.heap.size < w'.heap.size ∧ Ctx w w' w.heap.size 37 #[.int .i64 x, .int .i64 y] := by assumption
  go_wp2
  go_ret
  exact ⟨rfl, hX.1⟩

theorem Verify_any (p : Int) (m : ByteArray) (s : Int × Int) (w : World) (hT : Tab w) (hm : m.size ≤ 140737488355200) :
    Calls Tryz.prog 102 #[.int .i64 p, .string m, keyV s] w fun e w' => e = .returned (.bool (verI p m s)) ∧ Q w w' := by
  unfold verI
  cases h : rangeI p s with
  | false => exact Verify_no p m s w h
  | true => exact Verify_yes p m s.1 s.2 w hT h hm
end Go.Proofs.YtjfcllanochhmaaGreatDoor.Sign
