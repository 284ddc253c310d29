/-
  The contract of agoralaw05.small.
-/
import Derived.Test.YtppbplchdfhnkaaDoorSignWalk
set_option linter.unusedVariables false
set_option linter.unusedSimpArgs false
namespace Go.Proofs.YtppbplchdfhnkaaDoor.Sign
open Go.RowKit Grp Mem _root_.Go.Proofs.YtppbplchdfhnkaaDoor.Code Sha

theorem Key_at (s : ByteArray) (x y : Int) (w : World) (h : keyOf (seedKey s) = (x, y)) (hT : Tab w) (hm : s.size ≤ 140737488355200) :
    Calls Tryd.prog 51 #[.string s] w fun e w' => e = .returned (.agg #[.int .i64 x, .int .i64 y]) ∧ Q w w' :=
  (Key_any s w hT hm).mono fun e w' ⟨h1, h2⟩ => ⟨by rw [h1, h]; rfl, h2⟩
theorem Of_at (n x y : Int) (w : World) (h : keyOf n = (x, y)) :
    Calls Tryd.prog 52 #[.int .i64 n] w fun e w' => e = .returned (.agg #[.int .i64 x, .int .i64 y]) ∧ Q w w' :=
  (Of_any n w).mono fun e w' ⟨h1, h2⟩ => ⟨by rw [h1, h]; rfl, h2⟩
theorem Right_at (x y : Int) (b : Bool) (w : World) (h : rightI (x, y) = b) :
    Calls Tryd.prog 55 #[.agg #[.int .i64 x, .int .i64 y]] w fun e w' => e = .returned (.bool b) ∧ Q w w' :=
  h ▸ Right_any (x, y) w
theorem Sign_at (x y a b : Int) (m : ByteArray) (w : World) (h : sigOf (x, y) m = (a, b)) (hT : Tab w) (hx : x ≤ 9223372036854775807) (hy : y ≤ 9223372036854775807) (hm : m.size ≤ 140737488355200) :
    Calls Tryd.prog 57 #[.agg #[.int .i64 x, .int .i64 y], .string m] w fun e w' => e = .returned (.agg #[.int .i64 a, .int .i64 b]) ∧ Q w w' :=
  (Sign_any (x, y) m w hT hx hy hm).mono fun e w' ⟨h1, h2⟩ => ⟨by rw [h1, h]; rfl, h2⟩
theorem Verify_at (p x y : Int) (m : ByteArray) (b : Bool) (w : World) (h : verI p m (x, y) = b) (hT : Tab w) (hm : m.size ≤ 140737488355200) :
    Calls Tryd.prog 59 #[.int .i64 p, .string m, .agg #[.int .i64 x, .int .i64 y]] w fun e w' => e = .returned (.bool b) ∧ Q w w' :=
  h ▸ Verify_any p m (x, y) w hT hm

abbrev aT : ByteArray := ⟨#[97]⟩
abbrev bT : ByteArray := ⟨#[98]⟩
abbrev helloT : ByteArray := ⟨#[104, 101, 108, 108, 111]⟩
abbrev halloT : ByteArray := ⟨#[104, 97, 108, 108, 111]⟩
set_option maxRecDepth 100000
theorem f1 : seedKey aT = 361080046605472372 := by decide +kernel
theorem f2 : keyOf 361080046605472372 = (361080046605472372, 2287805972299522828) := by decide +kernel
theorem f3 : seedKey bT = 1665904801392939367 := by decide +kernel
theorem f4 : keyOf 1665904801392939367 = (1665904801392939367, 1434973371253446507) := by decide +kernel
theorem f5 : nonceI 361080046605472372 helloT = 231426264826419728 := by decide +kernel
theorem f6 : gexp 37 231426264826419728 = 945913668753777992 := by decide +kernel
theorem f7 : chalI 945913668753777992 2287805972299522828 helloT = 1639541138904410090 := by decide +kernel
theorem f8 : gaddN 231426264826419728 (gmulN 1639541138904410090 361080046605472372) = 82534835673623458 := by decide +kernel
theorem f9 : rightI (361080046605472372, 2287805972299522828) = true := by decide +kernel
theorem fa : sigOf (361080046605472372, 2287805972299522828) helloT = (1639541138904410090, 82534835673623458) := by
  unfold sigOf
  rw [f9, if_pos rfl]
  unfold sigS sigE
  rw [f5, f6, f7, f8]
theorem fb : commI 2287805972299522828 (1639541138904410090, 82534835673623458) = 945913668753777992 := by decide +kernel
theorem fc : commI 1434973371253446507 (1639541138904410090, 82534835673623458) = 2103513941146206428 := by decide +kernel
theorem fd : verI 2287805972299522828 helloT (1639541138904410090, 82534835673623458) = true := by
  unfold verI
  rw [fb, f7]
  decide +kernel
theorem fe : verI 2287805972299522828 halloT (1639541138904410090, 82534835673623458) = false := by
  unfold verI
  rw [fb]
  decide +kernel
theorem ff : verI 1434973371253446507 helloT (1639541138904410090, 82534835673623458) = false := by
  unfold verI
  rw [fc]
  decide +kernel
theorem fg : keyOf (seedKey aT) = (361080046605472372, 2287805972299522828) := by rw [f1, f2]
theorem fh : keyOf (seedKey bT) = (1665904801392939367, 1434973371253446507) := by rw [f3, f4]
theorem fi : keyOf 1 = (1, 37) := by decide +kernel
theorem fj : keyOf 0 = (0, 0) := by decide +kernel

/-- Two blocks of two integers are kept. -/
def Two (w0 w : World) (g1 g2 : Nat) (a b c d : Int) : Prop := Q w0 w ∧ Tab w ∧ Blk w g1 65 #[.int .i64 a, .int .i64 b] ∧ Blk w g2 71 #[.int .i64 c, .int .i64 d]
theorem Two.q {w0 w w' : World} {g1 g2 : Nat} {a b c d : Int} (h : Two w0 w g1 g2 a b c d) (hq : Q w w') : Two w0 w' g1 g2 a b c d := ⟨Q.trans h.1 hq, h.2.1.q hq, h.2.2.1.q hq, h.2.2.2.q hq⟩
theorem Two.held {w0 w : World} {g1 g2 : Nat} {a b c d : Int} (h : Two w0 w g1 g2 a b c d) :
    w.cell? ⟨g1, 0, none⟩ = some (.int .i64 a) ∧ w.cell? ⟨g1, 1, none⟩ = some (.int .i64 b) ∧ w.cell? ⟨g2, 0, none⟩ = some (.int .i64 c) ∧ w.cell? ⟨g2, 1, none⟩ = some (.int .i64 d) ∧ Two w0 w g1 g2 a b c d :=
  ⟨h.2.2.1.cell 0, h.2.2.1.cell 1, h.2.2.2.cell 0, h.2.2.2.cell 1, h⟩
theorem Two.step {w0 w w' : World} {g1 g2 : Nat} {a b c d : Int} (h : w.cell? ⟨g1, 0, none⟩ = some (.int .i64 a) ∧ w.cell? ⟨g1, 1, none⟩ = some (.int .i64 b) ∧ w.cell? ⟨g2, 0, none⟩ = some (.int .i64 c) ∧ w.cell? ⟨g2, 1, none⟩ = some (.int .i64 d) ∧ Two w0 w g1 g2 a b c d) (hq : Q w w') :
    w'.cell? ⟨g1, 0, none⟩ = some (.int .i64 a) ∧ w'.cell? ⟨g1, 1, none⟩ = some (.int .i64 b) ∧ w'.cell? ⟨g2, 0, none⟩ = some (.int .i64 c) ∧ w'.cell? ⟨g2, 1, none⟩ = some (.int .i64 d) ∧ Two w0 w' g1 g2 a b c d := (h.2.2.2.2.q hq).held
theorem Verify_two {w0 w : World} {g1 g2 : Nat} {a b c d : Int} (p : Int) (m : ByteArray) (r : Bool) (hh : w.cell? ⟨g1, 0, none⟩ = some (.int .i64 a) ∧ w.cell? ⟨g1, 1, none⟩ = some (.int .i64 b) ∧ w.cell? ⟨g2, 0, none⟩ = some (.int .i64 c) ∧ w.cell? ⟨g2, 1, none⟩ = some (.int .i64 d) ∧ Two w0 w g1 g2 a b c d) (h : verI p m (c, d) = r) (hm : m.size ≤ 140737488355200) :
    Calls Tryd.prog 59 #[.int .i64 p, .string m, .agg #[.int .i64 c, .int .i64 d]] w fun e w' => e = .returned (.bool r) ∧ Q w w' := Verify_at p c d m r w h hh.2.2.2.2.2.1 hm
theorem Key_two {w0 w : World} {g1 g2 : Nat} {a b c d : Int} (s : ByteArray) (x y : Int) (hh : w.cell? ⟨g1, 0, none⟩ = some (.int .i64 a) ∧ w.cell? ⟨g1, 1, none⟩ = some (.int .i64 b) ∧ w.cell? ⟨g2, 0, none⟩ = some (.int .i64 c) ∧ w.cell? ⟨g2, 1, none⟩ = some (.int .i64 d) ∧ Two w0 w g1 g2 a b c d) (h : keyOf (seedKey s) = (x, y)) (hm : s.size ≤ 140737488355200) :
    Calls Tryd.prog 51 #[.string s] w fun e w' => e = .returned (.agg #[.int .i64 x, .int .i64 y]) ∧ Q w w' := Key_at s x y w h hh.2.2.2.2.2.1 hm

theorem keyField (x y : Int) (w : World) : (Instr.field 65 (.agg #[.int .i64 x, .int .i64 y]) 1).run Tryd.prog w = .ok (.int .i64 y) w := by
  have hS : Tryd.prog.underlying 65 = some (.struct (Tryd.prog.fieldsOf 65)) := by kernel_rfl
  have a3 := Tryd.isAgg3
  have z3 := Tryd.sizeOf3
  simp only [Instr.field]
  simp only [Sem.run_bind, run_underlying hS, Result.andThen_ok]
  simp only [Program.fieldsOf, Tryd.underlying65]
  go_simp
  rfl

set_option maxHeartbeats 2000000 in
theorem small_any (w : World) (hT : Tab w) : Calls Tryd.prog 50 #[] w fun e w' => e = .returned (.bool true) ∧ Q w w' := by
  have hE := keyEq
  have hG := keyGuard
  have hF := keyField
  go_enter Tryd.func50, Tryd.ntmps50
  go_wp2_with fail
  refine (Key_at _ _ _ _ fg hT (by decide)).mono ?_
  rintro e w1 ⟨rfl, hq1⟩
  have hT1 := hT.q hq1
  have hb1 := Blk.new w1 65 #[.int .i64 361080046605472372, .int .i64 2287805972299522828]
  have hq1 := Q.trans hq1 (q_new w1 #[.int .i64 361080046605472372, .int .i64 2287805972299522828] 65)
  go_wp2_with fail
  refine (Sign_at _ _ _ _ _ _ fa (hT1.q (q_new _ _ _)) (by decide) (by decide) (by decide)).mono ?_
  rintro e w2 ⟨rfl, hq2⟩
  have hT2 := (hT1.q (q_new w1 #[.int .i64 361080046605472372, .int .i64 2287805972299522828] 65)).q hq2
  have hb1 := hb1.q hq2
  have hq2 := Q.trans hq1 hq2
  have hb2 := Blk.new w2 71 #[.int .i64 1639541138904410090, .int .i64 82534835673623458]
  have hX : Two w _ w1.heap.size w2.heap.size 361080046605472372 2287805972299522828 1639541138904410090 82534835673623458 := ⟨Q.trans hq2 (q_new _ _ _), hT2.q (q_new _ _ _), hb1.q (q_new _ _ _), hb2⟩
  clear hb1 hb2 hT2 hq2 hT1 hq1
  go_wp2_with fail
  generalize w2.alloc (.cells #[.int .i64 1639541138904410090, .int .i64 82534835673623458] 71) = W at *
  go_region_held3 (fun w' => w'.cell? ⟨w1.heap.size, 0, none⟩ = some (.int .i64 361080046605472372) ∧ w'.cell? ⟨w1.heap.size, 1, none⟩ = some (.int .i64 2287805972299522828) ∧ w'.cell? ⟨w2.heap.size, 0, none⟩ = some (.int .i64 1639541138904410090) ∧ w'.cell? ⟨w2.heap.size, 1, none⟩ = some (.int .i64 82534835673623458) ∧ Two w w' w1.heap.size w2.heap.size 361080046605472372 2287805972299522828 1639541138904410090 82534835673623458)
    (first | exact (hX.q (Q.refl _).drew).held | exact Two.step (by assumption) hq)
    (first
      | (go_at_call 52; refine (Of_at _ _ _ _ (by with_reducible first | exact fi | exact fj)).mono ?_; rintro e w' ⟨rfl, hq⟩)
      | (go_at_call 55; refine (Right_at _ _ _ _ (by with_reducible exact f9)).mono ?_; rintro e w' ⟨rfl, hq⟩)
      | (go_at_call 51; refine (Key_two _ _ _ (by with_reducible assumption) (by with_reducible exact fh) (by decide)).mono ?_; rintro e w' ⟨rfl, hq⟩)
      | (go_at_call 59; refine (Verify_two _ _ _ (by with_reducible assumption) (by with_reducible first | exact fd | exact fe | exact ff) (by decide)).mono ?_; rintro e w' ⟨rfl, hq⟩))
  go_wp2
  go_ret
  exact ⟨rfl, by rename_i hh; exact hh.2.2.2.2.1⟩
end Go.Proofs.YtppbplchdfhnkaaDoor.Sign
