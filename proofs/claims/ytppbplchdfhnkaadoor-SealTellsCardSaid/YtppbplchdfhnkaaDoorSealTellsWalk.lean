/-
  The walk of agoralaw06.SealTells.
-/
import Derived.Test.YtppbplchdfhnkaaDoorSealOpensWalk
set_option linter.unusedVariables false
set_option linter.unusedSimpArgs false
namespace Go.Proofs.YtppbplchdfhnkaaDoor.Seal
open Go.RowKit Grp Mem _root_.Go.Proofs.YtppbplchdfhnkaaDoor.Code Sha
open Sign (q_new Strs.of)

open Go.Op Go.Instr in
theorem wrapEq (a b a' b' : Int) (x y z x' y' z' : ByteArray) (w : World) : (binOp .eql 25 (.agg #[.int .i64 a, .int .i64 b, .string x, .string y, .string z]) (.agg #[.int .i64 a', .int .i64 b', .string x', .string y', .string z'])).run Tryd.prog w = .ok (.bool (decide (a = a') && (decide (b = b') && (decide (x = x') && (decide (y = y') && decide (z = z')))))) w := by
  have u3 := Tryd.underlying9
  have a3 := Tryd.isAgg9
  have z3 := Tryd.sizeOf9
  have u4 := Tryd.underlying3
  have a4 := Tryd.isAgg3
  have z4 := Tryd.sizeOf3
  have a5 := Tryd.isAgg23
  have z5 := Tryd.sizeOf23
  have hS : Tryd.prog.underlying 25 = some (.struct (Tryd.prog.fieldsOf 25)) := by kernel_rfl
  have hp : Tryd.prog.stoodInHeld 25 = false := by kernel_rfl
  rw [run_eql_struct, show (10000 : Nat) = 9999 + 1 from rfl, run_equalIn_agg w 9999 25 _ _ hS hp]
  simp only [Program.fieldsOf, Tryd.underlying25]
  go_simp
  simp only [str_iff]
  by_cases h1 : a = a' <;> by_cases h2 : b = b' <;> by_cases h3 : x = x' <;> by_cases h4 : y = y' <;> by_cases h5 : z = z' <;> simp [h1, h2, h3, h4, h5]

def CsH (w0 w : World) (g : Nat) (key nonce plain n d t : ByteArray) (pub sec a b : Int) (n2 d2 t2 : ByteArray) : Prop := Q w0 w ∧ Tab w ∧ Blk w g 27 #[.string key, .string nonce, .string plain, .string n, .string d, .string t, .int .i64 pub, .int .i64 sec, .int .i64 a, .int .i64 b, .string n2, .string d2, .string t2]
theorem CsH.q {w0 w w' : World} {g : Nat} {key nonce plain n d t : ByteArray} {pub sec a b : Int} {n2 d2 t2 : ByteArray} (h : CsH w0 w g key nonce plain n d t pub sec a b n2 d2 t2) (hq : Q w w') : CsH w0 w' g key nonce plain n d t pub sec a b n2 d2 t2 := ⟨Q.trans h.1 hq, h.2.1.q hq, h.2.2.q hq⟩
theorem CsH.held {w0 w : World} {g : Nat} {key nonce plain n d t : ByteArray} {pub sec a b : Int} {n2 d2 t2 : ByteArray} (h : CsH w0 w g key nonce plain n d t pub sec a b n2 d2 t2) : w.cell? ⟨g, 0, none⟩ = some (.string key) ∧ w.cell? ⟨g, 1, none⟩ = some (.string nonce) ∧ w.cell? ⟨g, 2, none⟩ = some (.string plain) ∧ w.cell? ⟨g, 3, none⟩ = some (.string n) ∧ w.cell? ⟨g, 4, none⟩ = some (.string d) ∧ w.cell? ⟨g, 5, none⟩ = some (.string t) ∧ w.cell? ⟨g, 6, none⟩ = some (.int .i64 pub) ∧ w.cell? ⟨g, 7, none⟩ = some (.int .i64 sec) ∧ w.cell? ⟨g, 8, none⟩ = some (.int .i64 a) ∧ w.cell? ⟨g, 9, none⟩ = some (.int .i64 b) ∧ w.cell? ⟨g, 10, none⟩ = some (.string n2) ∧ w.cell? ⟨g, 11, none⟩ = some (.string d2) ∧ w.cell? ⟨g, 12, none⟩ = some (.string t2) ∧ CsH w0 w g key nonce plain n d t pub sec a b n2 d2 t2 := ⟨h.2.2.cell 0, h.2.2.cell 1, h.2.2.cell 2, h.2.2.cell 3, h.2.2.cell 4, h.2.2.cell 5, h.2.2.cell 6, h.2.2.cell 7, h.2.2.cell 8, h.2.2.cell 9, h.2.2.cell 10, h.2.2.cell 11, h.2.2.cell 12, h⟩
theorem CsH.new (w : World) (hT : Tab w) (key nonce plain n d t : ByteArray) (pub sec a b : Int) (n2 d2 t2 : ByteArray) : CsH w (w.alloc (.cells #[.string key, .string nonce, .string plain, .string n, .string d, .string t, .int .i64 pub, .int .i64 sec, .int .i64 a, .int .i64 b, .string n2, .string d2, .string t2] 27)) w.heap.size key nonce plain n d t pub sec a b n2 d2 t2 := ⟨q_new w _ _, hT.q (q_new w _ _), Blk.new w _ _⟩
theorem few9 (x0 x1 x2 x3 x4 x5 x6 x7 x8 : ByteArray) (w : World) (r : Bool) (h0 : x0.size ≤ 281474976710656) (h1 : x1.size ≤ 281474976710656) (h2 : x2.size ≤ 281474976710656) (h3 : x3.size ≤ 281474976710656) (h4 : x4.size ≤ 281474976710656) (h5 : x5.size ≤ 281474976710656) (h6 : x6.size ≤ 281474976710656) (h7 : x7.size ≤ 281474976710656) (h8 : x8.size ≤ 281474976710656) (hr : decide (x0.size + x1.size + x2.size + x3.size + x4.size + x5.size + x6.size + x7.size + x8.size ≤ 2000) = r) (t : TypeId) :
    Calls Tryd.prog 21 #[.slice (some ⟨w.heap.size, 0, none⟩) 9 9] (w.alloc (.cells #[.string x0, .string x1, .string x2, .string x3, .string x4, .string x5, .string x6, .string x7, .string x8] t)) fun e w' => e = .returned (.bool r) ∧ Q w w' :=
  few_new [x0, x1, x2, x3, x4, x5, x6, x7, x8] 9 _ t w r rfl rfl (by decide) (by simp; omega) (by rw [← hr]; simp [Nat.add_assoc])

set_option maxRecDepth 100000 in
set_option maxHeartbeats 2000000 in
theorem tells_out (key nonce plain n d t : ByteArray) (pub sec a b : Int) (n2 d2 t2 : ByteArray) (w : World) (hT : Tab w) (h0 : key.size ≤ 281474976710656) (h1 : nonce.size ≤ 281474976710656) (h2 : plain.size ≤ 281474976710656) (h3 : n.size ≤ 281474976710656) (h4 : d.size ≤ 281474976710656) (h5 : t.size ≤ 281474976710656) (h6 : n2.size ≤ 281474976710656) (h7 : d2.size ≤ 281474976710656) (h8 : t2.size ≤ 281474976710656)
    (hr : decide (key.size + nonce.size + plain.size + n.size + d.size + t.size + n2.size + d2.size + t2.size ≤ 2000) = false) :
    Calls Tryd.prog 3 #[.agg #[.string key, .string nonce, .string plain, .string n, .string d, .string t, .int .i64 pub, .int .i64 sec, .int .i64 a, .int .i64 b, .string n2, .string d2, .string t2]] w fun e w' => e = .returned (.bool true) ∧ Q w w' := by
  have hX := CsH.new w hT key nonce plain n d t pub sec a b n2 d2 t2
  go_enter Tryd.func3, Tryd.ntmps3
  go_wp2_with fail
  refine (small_any _ hX.2.1).mono ?_
  rintro e w1 ⟨rfl, hq⟩
  have hX := hX.q hq
  obtain ⟨c0, c1, c2, c3, c4, c5, c6, c7, c8, c9, c10, c11, c12, -⟩ := hX.held
  go_wp2_with fail
  refine (few9 _ _ _ _ _ _ _ _ _ _ _ h0 h1 h2 h3 h4 h5 h6 h7 h8 hr _).mono ?_
  rintro e w2 ⟨rfl, hq2⟩
  go_wp2
  go_ret
  exact ⟨rfl, Q.trans hX.1 hq2⟩

theorem RSeal_at (key nonce plain x y z : ByteArray) (w : World) (hr : sealB key nonce plain = (x, y, z)) (hz : key.size + nonce.size + plain.size ≤ 140737488354000) :
    Calls Tryd.prog 29 #[.string key, .string nonce, .string plain] w fun e w' => e = .returned (.agg #[.string x, .string y, .string z]) ∧ Q w w' := by
  have := RSeal_any key nonce plain w hz
  rw [hr] at this
  exact this

def SlH (w0 w : World) (g gx gy : Nat) (key nonce plain n d t : ByteArray) (pub sec a b : Int) (n2 d2 t2 : ByteArray) (a' b' : Int) (n' d' t' : ByteArray) : Prop := CsH w0 w g key nonce plain n d t pub sec a b n2 d2 t2 ∧ Blk w gx 25 #[.int .i64 a', .int .i64 b', .string n', .string d', .string t'] ∧ Blk w gy 25 #[.int .i64 a', .int .i64 b', .string n', .string d', .string t']
theorem SlH.q {w0 w : World} {g gx gy : Nat} {key nonce plain n d t : ByteArray} {pub sec a b : Int} {n2 d2 t2 : ByteArray} {a' b' : Int} {n' d' t' : ByteArray} {w' : World} (h : SlH w0 w g gx gy key nonce plain n d t pub sec a b n2 d2 t2 a' b' n' d' t') (hq : Q w w') : SlH w0 w' g gx gy key nonce plain n d t pub sec a b n2 d2 t2 a' b' n' d' t' := ⟨h.1.q hq, h.2.1.q hq, h.2.2.q hq⟩
theorem SlH.held {w0 w : World} {g gx gy : Nat} {key nonce plain n d t : ByteArray} {pub sec a b : Int} {n2 d2 t2 : ByteArray} {a' b' : Int} {n' d' t' : ByteArray} (h : SlH w0 w g gx gy key nonce plain n d t pub sec a b n2 d2 t2 a' b' n' d' t') : w.cell? ⟨g, 0, none⟩ = some (.string key) ∧ w.cell? ⟨g, 1, none⟩ = some (.string nonce) ∧ w.cell? ⟨g, 2, none⟩ = some (.string plain) ∧ w.cell? ⟨gx, 0, none⟩ = some (.int .i64 a') ∧ w.cell? ⟨gx, 1, none⟩ = some (.int .i64 b') ∧ w.cell? ⟨gx, 2, none⟩ = some (.string n') ∧ w.cell? ⟨gx, 3, none⟩ = some (.string d') ∧ w.cell? ⟨gx, 4, none⟩ = some (.string t') ∧ w.cell? ⟨gy, 0, none⟩ = some (.int .i64 a') ∧ w.cell? ⟨gy, 1, none⟩ = some (.int .i64 b') ∧ w.cell? ⟨gy, 2, none⟩ = some (.string n') ∧ w.cell? ⟨gy, 3, none⟩ = some (.string d') ∧ w.cell? ⟨gy, 4, none⟩ = some (.string t') ∧ SlH w0 w g gx gy key nonce plain n d t pub sec a b n2 d2 t2 a' b' n' d' t' := ⟨h.1.2.2.cell 0, h.1.2.2.cell 1, h.1.2.2.cell 2, h.2.1.cell 0, h.2.1.cell 1, h.2.1.cell 2, h.2.1.cell 3, h.2.1.cell 4, h.2.2.cell 0, h.2.2.cell 1, h.2.2.cell 2, h.2.2.cell 3, h.2.2.cell 4, h⟩
theorem SlS.step {w0 w : World} {g gx gy : Nat} {key nonce plain n d t : ByteArray} {pub sec a b : Int} {n2 d2 t2 : ByteArray} {a' b' : Int} {n' d' t' : ByteArray} {w' : World} (h : w.cell? ⟨g, 0, none⟩ = some (.string key) ∧ w.cell? ⟨g, 1, none⟩ = some (.string nonce) ∧ w.cell? ⟨g, 2, none⟩ = some (.string plain) ∧ w.cell? ⟨gx, 0, none⟩ = some (.int .i64 a') ∧ w.cell? ⟨gx, 1, none⟩ = some (.int .i64 b') ∧ w.cell? ⟨gx, 2, none⟩ = some (.string n') ∧ w.cell? ⟨gx, 3, none⟩ = some (.string d') ∧ w.cell? ⟨gx, 4, none⟩ = some (.string t') ∧ w.cell? ⟨gy, 0, none⟩ = some (.int .i64 a') ∧ w.cell? ⟨gy, 1, none⟩ = some (.int .i64 b') ∧ w.cell? ⟨gy, 2, none⟩ = some (.string n') ∧ w.cell? ⟨gy, 3, none⟩ = some (.string d') ∧ w.cell? ⟨gy, 4, none⟩ = some (.string t') ∧ SlH w0 w g gx gy key nonce plain n d t pub sec a b n2 d2 t2 a' b' n' d' t') (hq : Q w w') : w'.cell? ⟨g, 0, none⟩ = some (.string key) ∧ w'.cell? ⟨g, 1, none⟩ = some (.string nonce) ∧ w'.cell? ⟨g, 2, none⟩ = some (.string plain) ∧ w'.cell? ⟨gx, 0, none⟩ = some (.int .i64 a') ∧ w'.cell? ⟨gx, 1, none⟩ = some (.int .i64 b') ∧ w'.cell? ⟨gx, 2, none⟩ = some (.string n') ∧ w'.cell? ⟨gx, 3, none⟩ = some (.string d') ∧ w'.cell? ⟨gx, 4, none⟩ = some (.string t') ∧ w'.cell? ⟨gy, 0, none⟩ = some (.int .i64 a') ∧ w'.cell? ⟨gy, 1, none⟩ = some (.int .i64 b') ∧ w'.cell? ⟨gy, 2, none⟩ = some (.string n') ∧ w'.cell? ⟨gy, 3, none⟩ = some (.string d') ∧ w'.cell? ⟨gy, 4, none⟩ = some (.string t') ∧ SlH w0 w' g gx gy key nonce plain n d t pub sec a b n2 d2 t2 a' b' n' d' t' := (h.2.2.2.2.2.2.2.2.2.2.2.2.2.q hq).held
theorem Seal_case {w0 w : World} {g gx gy : Nat} {key nonce plain n d t : ByteArray} {pub sec a b : Int} {n2 d2 t2 : ByteArray} {a' b' : Int} {n' d' t' : ByteArray} (k1 n1 p1 x y z : ByteArray) (h : w.cell? ⟨g, 0, none⟩ = some (.string key) ∧ w.cell? ⟨g, 1, none⟩ = some (.string nonce) ∧ w.cell? ⟨g, 2, none⟩ = some (.string plain) ∧ w.cell? ⟨gx, 0, none⟩ = some (.int .i64 a') ∧ w.cell? ⟨gx, 1, none⟩ = some (.int .i64 b') ∧ w.cell? ⟨gx, 2, none⟩ = some (.string n') ∧ w.cell? ⟨gx, 3, none⟩ = some (.string d') ∧ w.cell? ⟨gx, 4, none⟩ = some (.string t') ∧ w.cell? ⟨gy, 0, none⟩ = some (.int .i64 a') ∧ w.cell? ⟨gy, 1, none⟩ = some (.int .i64 b') ∧ w.cell? ⟨gy, 2, none⟩ = some (.string n') ∧ w.cell? ⟨gy, 3, none⟩ = some (.string d') ∧ w.cell? ⟨gy, 4, none⟩ = some (.string t') ∧ SlH w0 w g gx gy key nonce plain n d t pub sec a b n2 d2 t2 a' b' n' d' t') (hr : sealB k1 n1 p1 = (x, y, z)) (hz : k1.size + n1.size + p1.size ≤ 140737488355000) :
    Calls Tryd.prog 28 #[.string k1, .string n1, .string p1] w fun e w' => e = .returned (.agg #[.string x, .string y, .string z]) ∧ Q w w' := Seal_at k1 n1 p1 x y z w hr h.2.2.2.2.2.2.2.2.2.2.2.2.2.1.2.1 hz

set_option maxRecDepth 100000 in
set_option maxHeartbeats 8000000 in
theorem tells_in (key nonce plain n d t : ByteArray) (pub sec a b : Int) (n2 d2 t2 : ByteArray) (w : World) (hT : Tab w) (hp : pub ≤ 9223372036854775807) (ha : a ≤ 9223372036854775807) (hb : b ≤ 9223372036854775807)
    (hr : decide (key.size + nonce.size + plain.size + n.size + d.size + t.size + n2.size + d2.size + t2.size ≤ 2000) = true)
    (X Y Z p1 p2 : ByteArray) (o1 o2 o3 : Bool) (a' b' : Int) (n' d' t' : ByteArray) (hS : sealB key nonce plain = (X, Y, Z)) (hO : openB key (n, d, t) = (p1, o1)) (hW : wrapI pub nonce plain = ((a', b', n', d', t'), o2)) (hU : unwrapI sec (a, b, n2, d2, t2) = (p2, o3)) :
    Calls Tryd.prog 3 #[.agg #[.string key, .string nonce, .string plain, .string n, .string d, .string t, .int .i64 pub, .int .i64 sec, .int .i64 a, .int .i64 b, .string n2, .string d2, .string t2]] w fun e w' => e = .returned (.bool true) ∧ Q w w' := by
  have hr' : key.size + nonce.size + plain.size + n.size + d.size + t.size + n2.size + d2.size + t2.size ≤ 2000 := by simpa using hr
  have hEq := boxEq
  have hWEq := wrapEq
  have hX := CsH.new w hT key nonce plain n d t pub sec a b n2 d2 t2
  go_enter Tryd.func3, Tryd.ntmps3
  go_wp2_with fail
  refine (small_any _ hX.2.1).mono ?_
  rintro e w1 ⟨rfl, hq⟩
  have hX := hX.q hq
  obtain ⟨c0, c1, c2, c3, c4, c5, c6, c7, c8, c9, c10, c11, c12, -⟩ := hX.held
  go_wp2_with fail
  refine (few9 _ _ _ _ _ _ _ _ _ _ _ (by omega) (by omega) (by omega) (by omega) (by omega) (by omega) (by omega) (by omega) (by omega) hr _).mono ?_
  rintro e w2 ⟨rfl, hq2⟩
  have hX := hX.q hq2
  clear c0 c1 c2 c3 c4 c5 c6 c7 c8 c9 c10 c11 c12 hq hq2
  obtain ⟨c0, c1, c2, c3, c4, c5, c6, c7, c8, c9, c10, c11, c12, -⟩ := hX.held
  go_wp2_with fail
  refine (Open_at _ _ _ _ _ _ _ hO hX.2.1 (by omega)).mono ?_
  rintro e w3 ⟨rfl, hq⟩
  have hX := hX.q hq
  clear c0 c1 c2 c3 c4 c5 c6 c7 c8 c9 c10 c11 c12 hq
  obtain ⟨c0, c1, c2, c3, c4, c5, c6, c7, c8, c9, c10, c11, c12, -⟩ := hX.held
  go_wp2_with fail
  refine (ROpen_at _ _ _ _ _ _ _ hX.2.1 hO (by omega)).mono ?_
  rintro e w4 ⟨rfl, hq⟩
  have hX := hX.q hq
  clear c0 c1 c2 c3 c4 c5 c6 c7 c8 c9 c10 c11 c12 hq
  obtain ⟨c0, c1, c2, c3, c4, c5, c6, c7, c8, c9, c10, c11, c12, -⟩ := hX.held
  go_wp2_with fail
  refine (Wrap_at _ _ _ _ _ _ _ _ _ _ hW hX.2.1 hp (by omega) (by omega)).mono ?_
  rintro e w5 ⟨rfl, hq⟩
  have hX := hX.q hq
  have hbx := Blk.new w5 25 #[.int .i64 a', .int .i64 b', .string n', .string d', .string t']
  obtain ⟨gx, hgx⟩ : ∃ gx, w5.heap.size = gx := ⟨_, rfl⟩
  rw [hgx] at hbx
  have hX := hX.q (q_new w5 #[.int .i64 a', .int .i64 b', .string n', .string d', .string t'] 25)
  clear c0 c1 c2 c3 c4 c5 c6 c7 c8 c9 c10 c11 c12 hq
  obtain ⟨c0, c1, c2, c3, c4, c5, c6, c7, c8, c9, c10, c11, c12, -⟩ := hX.held
  go_wp2_with fail
  refine (RWrap_at _ _ _ _ _ _ _ _ _ _ hW (by omega) (by omega)).mono ?_
  rintro e w6 ⟨rfl, hq⟩
  have hX := hX.q hq
  have hbx := (hbx.q hq).q (q_new w6 #[.int .i64 a', .int .i64 b', .string n', .string d', .string t'] 25)
  have hby := Blk.new w6 25 #[.int .i64 a', .int .i64 b', .string n', .string d', .string t']
  obtain ⟨gy, hgy⟩ : ∃ gy, w6.heap.size = gy := ⟨_, rfl⟩
  rw [hgy] at hby
  have hX := hX.q (q_new w6 #[.int .i64 a', .int .i64 b', .string n', .string d', .string t'] 25)
  clear c0 c1 c2 c3 c4 c5 c6 c7 c8 c9 c10 c11 c12 hq
  obtain ⟨c0, c1, c2, c3, c4, c5, c6, c7, c8, c9, c10, c11, c12, -⟩ := hX.held
  go_wp2_with fail
  refine (Unwrap_any _ _ _ _ _ _ _ _ _ hX.2.1 ha hb (by omega) hU).mono ?_
  rintro e w7 ⟨rfl, hq⟩
  have hX := hX.q hq
  have hbx := hbx.q hq
  have hby := hby.q hq
  clear c0 c1 c2 c3 c4 c5 c6 c7 c8 c9 c10 c11 c12 hq
  obtain ⟨c0, c1, c2, c3, c4, c5, c6, c7, c8, c9, c10, c11, c12, -⟩ := hX.held
  go_wp2_with fail
  refine (RUnwrap_any _ _ _ _ _ _ _ _ _ hX.2.1 ha hb (by omega) hU).mono ?_
  rintro e w8 ⟨rfl, hq⟩
  have hX := hX.q hq
  have hbx := hbx.q hq
  have hby := hby.q hq
  clear c0 c1 c2 c3 c4 c5 c6 c7 c8 c9 c10 c11 c12 hq
  obtain ⟨c0, c1, c2, c3, c4, c5, c6, c7, c8, c9, c10, c11, c12, -⟩ := hX.held
  have hB : ∀ b : Bool, (b == b) = true := by decide
  have hZ : SlH w w8 w.heap.size gx gy key nonce plain n d t pub sec a b n2 d2 t2 a' b' n' d' t' := ⟨hX, hbx, hby⟩
  clear c0 c1 c2 c3 c4 c5 c6 c7 c8 c9 c10 c11 c12
  go_wp2_with fail
  go_region_held3 (fun w' => w'.cell? ⟨w.heap.size, 0, none⟩ = some (.string key) ∧ w'.cell? ⟨w.heap.size, 1, none⟩ = some (.string nonce) ∧ w'.cell? ⟨w.heap.size, 2, none⟩ = some (.string plain) ∧ w'.cell? ⟨gx, 0, none⟩ = some (.int .i64 a') ∧ w'.cell? ⟨gx, 1, none⟩ = some (.int .i64 b') ∧ w'.cell? ⟨gx, 2, none⟩ = some (.string n') ∧ w'.cell? ⟨gx, 3, none⟩ = some (.string d') ∧ w'.cell? ⟨gx, 4, none⟩ = some (.string t') ∧ w'.cell? ⟨gy, 0, none⟩ = some (.int .i64 a') ∧ w'.cell? ⟨gy, 1, none⟩ = some (.int .i64 b') ∧ w'.cell? ⟨gy, 2, none⟩ = some (.string n') ∧ w'.cell? ⟨gy, 3, none⟩ = some (.string d') ∧ w'.cell? ⟨gy, 4, none⟩ = some (.string t') ∧ SlH w w' w.heap.size gx gy key nonce plain n d t pub sec a b n2 d2 t2 a' b' n' d' t')
    (first | exact (hZ.q (Q.refl _).drew).held | exact SlS.step (by assumption) hq)
    (first
      | (go_at_call 28; refine (Seal_case _ _ _ _ _ _ (by assumption) hS (by omega)).mono ?_; rintro e w' ⟨rfl, hq⟩)
      | (go_at_call 29; refine (RSeal_at _ _ _ _ _ _ _ hS (by omega)).mono ?_; rintro e w' ⟨rfl, hq⟩))
  all_goals
    have hF : Q w w' := by rename_i hh; exact hh.2.2.2.2.2.2.2.2.2.2.2.2.2.1.1
    go_wp2
    go_ret
    exact ⟨by first | rfl | simp, hF⟩

theorem tells_any (key nonce plain n d t : ByteArray) (pub sec a b : Int) (n2 d2 t2 : ByteArray) (w : World) (hT : Tab w) (hp : pub ≤ 9223372036854775807) (ha : a ≤ 9223372036854775807) (hb : b ≤ 9223372036854775807)
    (h0 : key.size ≤ 281474976710656) (h1 : nonce.size ≤ 281474976710656) (h2 : plain.size ≤ 281474976710656) (h3 : n.size ≤ 281474976710656) (h4 : d.size ≤ 281474976710656) (h5 : t.size ≤ 281474976710656) (h6 : n2.size ≤ 281474976710656) (h7 : d2.size ≤ 281474976710656) (h8 : t2.size ≤ 281474976710656) :
    Calls Tryd.prog 3 #[.agg #[.string key, .string nonce, .string plain, .string n, .string d, .string t, .int .i64 pub, .int .i64 sec, .int .i64 a, .int .i64 b, .string n2, .string d2, .string t2]] w fun e w' => e = .returned (.bool true) ∧ Q w w' := by
  by_cases h : key.size + nonce.size + plain.size + n.size + d.size + t.size + n2.size + d2.size + t2.size ≤ 2000
  · obtain ⟨⟨X, Y, Z⟩, hS⟩ : ∃ r, sealB key nonce plain = r := ⟨_, rfl⟩
    obtain ⟨⟨p1, o1⟩, hO⟩ : ∃ r, openB key (n, d, t) = r := ⟨_, rfl⟩
    obtain ⟨⟨⟨a', b', n', d', t'⟩, o2⟩, hW⟩ : ∃ r, wrapI pub nonce plain = r := ⟨_, rfl⟩
    obtain ⟨⟨p2, o3⟩, hU⟩ : ∃ r, unwrapI sec (a, b, n2, d2, t2) = r := ⟨_, rfl⟩
    exact tells_in key nonce plain n d t pub sec a b n2 d2 t2 w hT hp ha hb (by simpa using h) X Y Z p1 p2 o1 o2 o3 a' b' n' d' t' hS hO hW hU
  · exact tells_out key nonce plain n d t pub sec a b n2 d2 t2 w hT h0 h1 h2 h3 h4 h5 h6 h7 h8 (by simpa using h)
end Go.Proofs.YtppbplchdfhnkaaDoor.Seal
