/-
  What an argument's type gives: wraps, activities, claims, ballots, decisions and items (printed by gen_openitem.py).
-/
import Derived.Test.YtjfcllanochhmaaGreatDoorBld2
import Derived.Test.YtjfcllanochhmaaGreatDoorItemE
import Derived.Test.YtjfcllanochhmaaGreatDoorOks
set_option linter.unusedVariables false
set_option linter.unusedSimpArgs false
namespace Go.Proofs.YtjfcllanochhmaaGreatDoor.Item
open Go.RowKit Go.ChangeShapes Go.WideShapes Go.Deep Grp Mem _root_.Go.Proofs.YtjfcllanochhmaaGreatDoor.Code Sha Sign

theorem strs_of {w : World} {A : Option Addr} {l : List ByteArray} (h : RowsAt w A 1 (fun s : ByteArray => [.string s]) l) : Strs w A l := fun h0 => by
  obtain ⟨b, o, e, hb, hc⟩ := h h0
  exact ⟨b, o, e, hb, fun j hj => by have := hc j hj 0 _ rfl; simpa using this⟩
theorem wrs_of {w : World} {A : Option Addr} {l : List WrapV} (h : RowsAt w A 5 WrapV.cells l) : Wrs w A l := fun h0 => by
  obtain ⟨b, o, e, hb, hc⟩ := h h0
  exact ⟨b, o, e, hb, fun j hj => hc j hj⟩

instance : Inhabited ItemR := ⟨item0⟩
instance : Inhabited WrapV := ⟨⟨0, 0, emptyT, emptyT, emptyT⟩⟩
theorem drop_step {cs p : List Value} {o k : Nat} (h : (cs.drop o).take k = p) : cs.drop o = p ++ cs.drop (o + k) := by
  rw [← h, ← List.drop_drop, List.take_append_drop]
theorem nok {l : List Int} : NOk l ↔ ∀ n ∈ l, I64 n := Iff.rfl

section
variable {H : Type} {enc : TypeId × Value → H} {W : World} {base : Nat} {spare : Nat → Bool} {held : Bool}
theorem field_opens {α : Type} {n : Nat} {xs : List (DataW H × List MemPlace)} {cs : List Value} {i off k : Nat} {t : TypeId} {f : α → List Value} {G : α → Prop}
    (hf : DataW.trod enc Tryz.prog W base spare held n t ((cs.drop off).take (Tryz.prog.cellsOf t)) = xs[i]?) (hi : i < xs.length) (hk : Tryz.prog.cellsOf t = k) (hO : Opens enc Tryz.prog W base spare held t f G) : ∃ a, (cs.drop off).take k = f a ∧ G a := by
  rw [hk, List.getElem?_eq_getElem hi] at hf
  exact hO _ _ _ hf
theorem k_int : Tryz.prog.cellsOf 3 = 1 := by kernel_rfl
theorem k_str : Tryz.prog.cellsOf 9 = 1 := by kernel_rfl
theorem o_int : Opens enc Tryz.prog W base spare held 3 (fun n : Int => [.int .i64 n]) I64 := opens_int Tryz.underlying3
theorem o_str : Opens enc Tryz.prog W base spare held 9 (fun s : ByteArray => [.string s]) fun s => s.size ≤ maxLen := opens_str Tryz.underlying9
theorem k_strs : Tryz.prog.cellsOf 32 = 1 := by kernel_rfl
theorem o_strs : Opens enc Tryz.prog W base spare held 32 SliceR.cells (SliceR.Good W 1 (fun s : ByteArray => [.string s]) fun s => s.size ≤ maxLen) := opens_slice Tryz.underlying32 k_str (by decide) o_str

theorem k_box : Tryz.prog.cellsOf 34 = 3 := by kernel_rfl
set_option maxHeartbeats 1000000 in
theorem o_box : Opens enc Tryz.prog W base spare held 34 (fun b : ByteArray × ByteArray × ByteArray => [.string b.1, .string b.2.1, .string b.2.2]) (fun b => SOk [b.1, b.2.1, b.2.2]) := fun fuel cs x h => by
  obtain ⟨xs, n, -, -, hcl, hxl, hf⟩ := DataW.trod_struct Tryz.underlying34 h
  rw [k_box] at hcl
  have hxl : xs.length = 3 := hxl
  obtain ⟨n1, e0, g0⟩ := field_opens (off := 0) (show DataW.trod enc Tryz.prog W base spare held n 9 ((cs.drop 0).take (Tryz.prog.cellsOf 9)) = xs[0]? from hf 0 _ rfl) (by omega) k_str o_str
  obtain ⟨n2, e1, g1⟩ := field_opens (off := 1) (show DataW.trod enc Tryz.prog W base spare held n 9 ((cs.drop 1).take (Tryz.prog.cellsOf 9)) = xs[1]? from hf 1 _ rfl) (by omega) k_str o_str
  obtain ⟨n3, e2, g2⟩ := field_opens (off := 2) (show DataW.trod enc Tryz.prog W base spare held n 9 ((cs.drop 2).take (Tryz.prog.cellsOf 9)) = xs[2]? from hf 2 _ rfl) (by omega) k_str o_str
  have t3 : cs.drop 3 = [] := List.drop_eq_nil_of_le (by omega)
  have t2 := drop_step e2
  simp only [Nat.reduceAdd] at t2
  rw [t3] at t2
  have t1 := drop_step e1
  simp only [Nat.reduceAdd] at t1
  rw [t2] at t1
  have t0 := drop_step e0
  simp only [Nat.reduceAdd] at t0
  rw [t1] at t0
  rw [List.drop_zero] at t0
  refine ⟨(n1, n2, n3), by rw [t0]; rfl, ?_⟩
  simp only [SOk, List.mem_cons, List.not_mem_nil, or_false]
  rintro s (rfl | rfl | rfl) <;> assumption
theorem k_sig : Tryz.prog.cellsOf 37 = 2 := by kernel_rfl
set_option maxHeartbeats 1000000 in
theorem o_sig : Opens enc Tryz.prog W base spare held 37 (fun b : Int × Int => [.int .i64 b.1, .int .i64 b.2]) (fun b => NOk [b.1, b.2]) := fun fuel cs x h => by
  obtain ⟨xs, n, -, -, hcl, hxl, hf⟩ := DataW.trod_struct Tryz.underlying37 h
  rw [k_sig] at hcl
  have hxl : xs.length = 2 := hxl
  obtain ⟨n1, e0, g0⟩ := field_opens (off := 0) (show DataW.trod enc Tryz.prog W base spare held n 3 ((cs.drop 0).take (Tryz.prog.cellsOf 3)) = xs[0]? from hf 0 _ rfl) (by omega) k_int o_int
  obtain ⟨n2, e1, g1⟩ := field_opens (off := 1) (show DataW.trod enc Tryz.prog W base spare held n 3 ((cs.drop 1).take (Tryz.prog.cellsOf 3)) = xs[1]? from hf 1 _ rfl) (by omega) k_int o_int
  have t2 : cs.drop 2 = [] := List.drop_eq_nil_of_le (by omega)
  have t1 := drop_step e1
  simp only [Nat.reduceAdd] at t1
  rw [t2] at t1
  have t0 := drop_step e0
  simp only [Nat.reduceAdd] at t0
  rw [t1] at t0
  rw [List.drop_zero] at t0
  refine ⟨(n1, n2), by rw [t0]; rfl, ?_⟩
  simp only [NOk, List.mem_cons, List.not_mem_nil, or_false]
  rintro s (rfl | rfl) <;> assumption
theorem k_wrap : Tryz.prog.cellsOf 130 = 5 := by kernel_rfl
set_option maxHeartbeats 1000000 in
theorem o_wrap : Opens enc Tryz.prog W base spare held 130 WrapV.cells WrapOk := fun fuel cs x h => by
  obtain ⟨xs, n, -, -, hcl, hxl, hf⟩ := DataW.trod_struct Tryz.underlying130 h
  rw [k_wrap] at hcl
  have hxl : xs.length = 3 := hxl
  obtain ⟨n1, e0, g0⟩ := field_opens (off := 0) (show DataW.trod enc Tryz.prog W base spare held n 3 ((cs.drop 0).take (Tryz.prog.cellsOf 3)) = xs[0]? from hf 0 _ rfl) (by omega) k_int o_int
  obtain ⟨n2, e1, g1⟩ := field_opens (off := 1) (show DataW.trod enc Tryz.prog W base spare held n 3 ((cs.drop 1).take (Tryz.prog.cellsOf 3)) = xs[1]? from hf 1 _ rfl) (by omega) k_int o_int
  obtain ⟨b, e2, g2⟩ := field_opens (off := 2) (show DataW.trod enc Tryz.prog W base spare held n 34 ((cs.drop 2).take (Tryz.prog.cellsOf 34)) = xs[2]? from hf 2 _ rfl) (by omega) k_box o_box
  have t3 : cs.drop 5 = [] := List.drop_eq_nil_of_le (by omega)
  have t2 := drop_step e2
  simp only [Nat.reduceAdd] at t2
  rw [t3] at t2
  have t1 := drop_step e1
  simp only [Nat.reduceAdd] at t1
  rw [t2] at t1
  have t0 := drop_step e0
  simp only [Nat.reduceAdd] at t0
  rw [t1] at t0
  rw [List.drop_zero] at t0
  refine ⟨⟨n1, n2, b.1, b.2.1, b.2.2⟩, by rw [t0]; rfl, ?_⟩
  refine ⟨?_, g2⟩
  simp only [NOk, List.mem_cons, List.not_mem_nil, or_false]
  rintro s (rfl | rfl) <;> assumption
theorem k_wraps : Tryz.prog.cellsOf 35 = 1 := by kernel_rfl
theorem o_wraps : Opens enc Tryz.prog W base spare held 35 SliceR.cells (SliceR.Good W 5 WrapV.cells WrapOk) := opens_slice Tryz.underlying35 k_wrap (by decide) o_wrap

theorem k_act : Tryz.prog.cellsOf 39 = 20 := by kernel_rfl
set_option maxHeartbeats 1000000 in
theorem o_act : Opens enc Tryz.prog W base spare held 39 ActR.cells (fun a => ActIn W a ∧ ActOk a) := fun fuel cs x h => by
  obtain ⟨xs, n, -, -, hcl, hxl, hf⟩ := DataW.trod_struct Tryz.underlying39 h
  rw [k_act] at hcl
  have hxl : xs.length = 17 := hxl
  obtain ⟨author, e0, g0⟩ := field_opens (off := 0) (show DataW.trod enc Tryz.prog W base spare held n 9 ((cs.drop 0).take (Tryz.prog.cellsOf 9)) = xs[0]? from hf 0 _ rfl) (by omega) k_str o_str
  obtain ⟨seq, e1, g1⟩ := field_opens (off := 1) (show DataW.trod enc Tryz.prog W base spare held n 3 ((cs.drop 1).take (Tryz.prog.cellsOf 3)) = xs[1]? from hf 1 _ rfl) (by omega) k_int o_int
  obtain ⟨prev, e2, g2⟩ := field_opens (off := 2) (show DataW.trod enc Tryz.prog W base spare held n 9 ((cs.drop 2).take (Tryz.prog.cellsOf 9)) = xs[2]? from hf 2 _ rfl) (by omega) k_str o_str
  obtain ⟨kind, e3, g3⟩ := field_opens (off := 3) (show DataW.trod enc Tryz.prog W base spare held n 3 ((cs.drop 3).take (Tryz.prog.cellsOf 3)) = xs[3]? from hf 3 _ rfl) (by omega) k_int o_int
  obtain ⟨time, e4, g4⟩ := field_opens (off := 4) (show DataW.trod enc Tryz.prog W base spare held n 3 ((cs.drop 4).take (Tryz.prog.cellsOf 3)) = xs[4]? from hf 4 _ rfl) (by omega) k_int o_int
  obtain ⟨object, e5, g5⟩ := field_opens (off := 5) (show DataW.trod enc Tryz.prog W base spare held n 9 ((cs.drop 5).take (Tryz.prog.cellsOf 9)) = xs[5]? from hf 5 _ rfl) (by omega) k_str o_str
  obtain ⟨target, e6, g6⟩ := field_opens (off := 6) (show DataW.trod enc Tryz.prog W base spare held n 9 ((cs.drop 6).take (Tryz.prog.cellsOf 9)) = xs[6]? from hf 6 _ rfl) (by omega) k_str o_str
  obtain ⟨scope, e7, g7⟩ := field_opens (off := 7) (show DataW.trod enc Tryz.prog W base spare held n 3 ((cs.drop 7).take (Tryz.prog.cellsOf 3)) = xs[7]? from hf 7 _ rfl) (by omega) k_int o_int
  obtain ⟨group, e8, g8⟩ := field_opens (off := 8) (show DataW.trod enc Tryz.prog W base spare held n 9 ((cs.drop 8).take (Tryz.prog.cellsOf 9)) = xs[8]? from hf 8 _ rfl) (by omega) k_str o_str
  obtain ⟨to, e9, g9⟩ := field_opens (off := 9) (show DataW.trod enc Tryz.prog W base spare held n 32 ((cs.drop 9).take (Tryz.prog.cellsOf 32)) = xs[9]? from hf 9 _ rfl) (by omega) k_strs o_strs
  obtain ⟨text, e10, g10⟩ := field_opens (off := 10) (show DataW.trod enc Tryz.prog W base spare held n 9 ((cs.drop 10).take (Tryz.prog.cellsOf 9)) = xs[10]? from hf 10 _ rfl) (by omega) k_str o_str
  obtain ⟨b, e11, g11⟩ := field_opens (off := 11) (show DataW.trod enc Tryz.prog W base spare held n 34 ((cs.drop 11).take (Tryz.prog.cellsOf 34)) = xs[11]? from hf 11 _ rfl) (by omega) k_box o_box
  obtain ⟨epoch, e12, g12⟩ := field_opens (off := 14) (show DataW.trod enc Tryz.prog W base spare held n 3 ((cs.drop 14).take (Tryz.prog.cellsOf 3)) = xs[12]? from hf 12 _ rfl) (by omega) k_int o_int
  obtain ⟨wr, e13, g13⟩ := field_opens (off := 15) (show DataW.trod enc Tryz.prog W base spare held n 35 ((cs.drop 15).take (Tryz.prog.cellsOf 35)) = xs[13]? from hf 13 _ rfl) (by omega) k_wraps o_wraps
  obtain ⟨n1, e14, g14⟩ := field_opens (off := 16) (show DataW.trod enc Tryz.prog W base spare held n 3 ((cs.drop 16).take (Tryz.prog.cellsOf 3)) = xs[14]? from hf 14 _ rfl) (by omega) k_int o_int
  obtain ⟨m1, e15, g15⟩ := field_opens (off := 17) (show DataW.trod enc Tryz.prog W base spare held n 3 ((cs.drop 17).take (Tryz.prog.cellsOf 3)) = xs[15]? from hf 15 _ rfl) (by omega) k_int o_int
  obtain ⟨sg, e16, g16⟩ := field_opens (off := 18) (show DataW.trod enc Tryz.prog W base spare held n 37 ((cs.drop 18).take (Tryz.prog.cellsOf 37)) = xs[16]? from hf 16 _ rfl) (by omega) k_sig o_sig
  have t17 : cs.drop 20 = [] := List.drop_eq_nil_of_le (by omega)
  have t16 := drop_step e16
  simp only [Nat.reduceAdd] at t16
  rw [t17] at t16
  have t15 := drop_step e15
  simp only [Nat.reduceAdd] at t15
  rw [t16] at t15
  have t14 := drop_step e14
  simp only [Nat.reduceAdd] at t14
  rw [t15] at t14
  have t13 := drop_step e13
  simp only [Nat.reduceAdd] at t13
  rw [t14] at t13
  have t12 := drop_step e12
  simp only [Nat.reduceAdd] at t12
  rw [t13] at t12
  have t11 := drop_step e11
  simp only [Nat.reduceAdd] at t11
  rw [t12] at t11
  have t10 := drop_step e10
  simp only [Nat.reduceAdd] at t10
  rw [t11] at t10
  have t9 := drop_step e9
  simp only [Nat.reduceAdd] at t9
  rw [t10] at t9
  have t8 := drop_step e8
  simp only [Nat.reduceAdd] at t8
  rw [t9] at t8
  have t7 := drop_step e7
  simp only [Nat.reduceAdd] at t7
  rw [t8] at t7
  have t6 := drop_step e6
  simp only [Nat.reduceAdd] at t6
  rw [t7] at t6
  have t5 := drop_step e5
  simp only [Nat.reduceAdd] at t5
  rw [t6] at t5
  have t4 := drop_step e4
  simp only [Nat.reduceAdd] at t4
  rw [t5] at t4
  have t3 := drop_step e3
  simp only [Nat.reduceAdd] at t3
  rw [t4] at t3
  have t2 := drop_step e2
  simp only [Nat.reduceAdd] at t2
  rw [t3] at t2
  have t1 := drop_step e1
  simp only [Nat.reduceAdd] at t1
  rw [t2] at t1
  have t0 := drop_step e0
  simp only [Nat.reduceAdd] at t0
  rw [t1] at t0
  rw [List.drop_zero] at t0
  refine ⟨⟨author, seq, prev, kind, time, object, target, scope, group, to.l, to.A, to.c, text, b.1, b.2.1, b.2.2, epoch, wr.l, wr.A, wr.c, n1, m1, sg.1, sg.2⟩, by rw [t0]; rfl, ?_⟩
  refine ⟨⟨strs_of g9.rows, wrs_of g13.rows, ⟨g9.le, g9.cap⟩, g13.le, g13.cap⟩, ?_, ?_, g9.all, g13.all⟩
  · have s1 := g16 sg.1 (by simp)
    have s2 := g16 sg.2 (by simp)
    simp only [NOk, List.mem_cons, List.not_mem_nil, or_false]
    rintro s (rfl | rfl | rfl | rfl | rfl | rfl | rfl | rfl | rfl) <;> assumption
  · have s1 := g11 b.1 (by simp)
    have s2 := g11 b.2.1 (by simp)
    have s3 := g11 b.2.2 (by simp)
    simp only [SOk, List.mem_cons, List.not_mem_nil, or_false]
    rintro s (rfl | rfl | rfl | rfl | rfl | rfl | rfl | rfl | rfl) <;> assumption
theorem k_claim : Tryz.prog.cellsOf 41 = 9 := by kernel_rfl
set_option maxHeartbeats 1000000 in
theorem o_claim : Opens enc Tryz.prog W base spare held 41 ClaimV.cells ClaimOk := fun fuel cs x h => by
  obtain ⟨xs, n, -, -, hcl, hxl, hf⟩ := DataW.trod_struct Tryz.underlying41 h
  rw [k_claim] at hcl
  have hxl : xs.length = 8 := hxl
  obtain ⟨actor, e0, g0⟩ := field_opens (off := 0) (show DataW.trod enc Tryz.prog W base spare held n 9 ((cs.drop 0).take (Tryz.prog.cellsOf 9)) = xs[0]? from hf 0 _ rfl) (by omega) k_str o_str
  obtain ⟨base1, e1, g1⟩ := field_opens (off := 1) (show DataW.trod enc Tryz.prog W base spare held n 3 ((cs.drop 1).take (Tryz.prog.cellsOf 3)) = xs[1]? from hf 1 _ rfl) (by omega) k_int o_int
  obtain ⟨prev, e2, g2⟩ := field_opens (off := 2) (show DataW.trod enc Tryz.prog W base spare held n 9 ((cs.drop 2).take (Tryz.prog.cellsOf 9)) = xs[2]? from hf 2 _ rfl) (by omega) k_str o_str
  obtain ⟨gen, e3, g3⟩ := field_opens (off := 3) (show DataW.trod enc Tryz.prog W base spare held n 3 ((cs.drop 3).take (Tryz.prog.cellsOf 3)) = xs[3]? from hf 3 _ rfl) (by omega) k_int o_int
  obtain ⟨home, e4, g4⟩ := field_opens (off := 4) (show DataW.trod enc Tryz.prog W base spare held n 3 ((cs.drop 4).take (Tryz.prog.cellsOf 3)) = xs[4]? from hf 4 _ rfl) (by omega) k_int o_int
  obtain ⟨pub, e5, g5⟩ := field_opens (off := 5) (show DataW.trod enc Tryz.prog W base spare held n 3 ((cs.drop 5).take (Tryz.prog.cellsOf 3)) = xs[5]? from hf 5 _ rfl) (by omega) k_int o_int
  obtain ⟨time, e6, g6⟩ := field_opens (off := 6) (show DataW.trod enc Tryz.prog W base spare held n 3 ((cs.drop 6).take (Tryz.prog.cellsOf 3)) = xs[6]? from hf 6 _ rfl) (by omega) k_int o_int
  obtain ⟨sg, e7, g7⟩ := field_opens (off := 7) (show DataW.trod enc Tryz.prog W base spare held n 37 ((cs.drop 7).take (Tryz.prog.cellsOf 37)) = xs[7]? from hf 7 _ rfl) (by omega) k_sig o_sig
  have t8 : cs.drop 9 = [] := List.drop_eq_nil_of_le (by omega)
  have t7 := drop_step e7
  simp only [Nat.reduceAdd] at t7
  rw [t8] at t7
  have t6 := drop_step e6
  simp only [Nat.reduceAdd] at t6
  rw [t7] at t6
  have t5 := drop_step e5
  simp only [Nat.reduceAdd] at t5
  rw [t6] at t5
  have t4 := drop_step e4
  simp only [Nat.reduceAdd] at t4
  rw [t5] at t4
  have t3 := drop_step e3
  simp only [Nat.reduceAdd] at t3
  rw [t4] at t3
  have t2 := drop_step e2
  simp only [Nat.reduceAdd] at t2
  rw [t3] at t2
  have t1 := drop_step e1
  simp only [Nat.reduceAdd] at t1
  rw [t2] at t1
  have t0 := drop_step e0
  simp only [Nat.reduceAdd] at t0
  rw [t1] at t0
  rw [List.drop_zero] at t0
  refine ⟨⟨actor, base1, prev, gen, home, pub, time, sg.1, sg.2⟩, by rw [t0]; rfl, ?_⟩
  refine ⟨?_, ?_⟩
  · have s1 := g7 sg.1 (by simp)
    have s2 := g7 sg.2 (by simp)
    simp only [NOk, List.mem_cons, List.not_mem_nil, or_false]
    rintro s (rfl | rfl | rfl | rfl | rfl | rfl | rfl) <;> assumption
  · simp only [SOk, List.mem_cons, List.not_mem_nil, or_false]
    rintro s (rfl | rfl) <;> assumption
theorem k_ballot : Tryz.prog.cellsOf 43 = 7 := by kernel_rfl
set_option maxHeartbeats 1000000 in
theorem o_ballot : Opens enc Tryz.prog W base spare held 43 BallotV.cells BallotOk := fun fuel cs x h => by
  obtain ⟨xs, n, -, -, hcl, hxl, hf⟩ := DataW.trod_struct Tryz.underlying43 h
  rw [k_ballot] at hcl
  have hxl : xs.length = 6 := hxl
  obtain ⟨server, e0, g0⟩ := field_opens (off := 0) (show DataW.trod enc Tryz.prog W base spare held n 3 ((cs.drop 0).take (Tryz.prog.cellsOf 3)) = xs[0]? from hf 0 _ rfl) (by omega) k_int o_int
  obtain ⟨actor, e1, g1⟩ := field_opens (off := 1) (show DataW.trod enc Tryz.prog W base spare held n 9 ((cs.drop 1).take (Tryz.prog.cellsOf 9)) = xs[1]? from hf 1 _ rfl) (by omega) k_str o_str
  obtain ⟨gen, e2, g2⟩ := field_opens (off := 2) (show DataW.trod enc Tryz.prog W base spare held n 3 ((cs.drop 2).take (Tryz.prog.cellsOf 3)) = xs[2]? from hf 2 _ rfl) (by omega) k_int o_int
  obtain ⟨claim, e3, g3⟩ := field_opens (off := 3) (show DataW.trod enc Tryz.prog W base spare held n 9 ((cs.drop 3).take (Tryz.prog.cellsOf 9)) = xs[3]? from hf 3 _ rfl) (by omega) k_str o_str
  obtain ⟨time, e4, g4⟩ := field_opens (off := 4) (show DataW.trod enc Tryz.prog W base spare held n 3 ((cs.drop 4).take (Tryz.prog.cellsOf 3)) = xs[4]? from hf 4 _ rfl) (by omega) k_int o_int
  obtain ⟨sg, e5, g5⟩ := field_opens (off := 5) (show DataW.trod enc Tryz.prog W base spare held n 37 ((cs.drop 5).take (Tryz.prog.cellsOf 37)) = xs[5]? from hf 5 _ rfl) (by omega) k_sig o_sig
  have t6 : cs.drop 7 = [] := List.drop_eq_nil_of_le (by omega)
  have t5 := drop_step e5
  simp only [Nat.reduceAdd] at t5
  rw [t6] at t5
  have t4 := drop_step e4
  simp only [Nat.reduceAdd] at t4
  rw [t5] at t4
  have t3 := drop_step e3
  simp only [Nat.reduceAdd] at t3
  rw [t4] at t3
  have t2 := drop_step e2
  simp only [Nat.reduceAdd] at t2
  rw [t3] at t2
  have t1 := drop_step e1
  simp only [Nat.reduceAdd] at t1
  rw [t2] at t1
  have t0 := drop_step e0
  simp only [Nat.reduceAdd] at t0
  rw [t1] at t0
  rw [List.drop_zero] at t0
  refine ⟨⟨server, actor, gen, claim, time, sg.1, sg.2⟩, by rw [t0]; rfl, ?_⟩
  refine ⟨?_, ?_⟩
  · have s1 := g5 sg.1 (by simp)
    have s2 := g5 sg.2 (by simp)
    simp only [NOk, List.mem_cons, List.not_mem_nil, or_false]
    rintro s (rfl | rfl | rfl | rfl | rfl) <;> assumption
  · simp only [SOk, List.mem_cons, List.not_mem_nil, or_false]
    rintro s (rfl | rfl) <;> assumption
theorem k_dec : Tryz.prog.cellsOf 45 = 12 := by kernel_rfl
set_option maxHeartbeats 1000000 in
theorem o_dec : Opens enc Tryz.prog W base spare held 45 DecR.cells (fun d => DecIn W d ∧ DecOk d) := fun fuel cs x h => by
  obtain ⟨xs, n, -, -, hcl, hxl, hf⟩ := DataW.trod_struct Tryz.underlying45 h
  rw [k_dec] at hcl
  have hxl : xs.length = 11 := hxl
  obtain ⟨server, e0, g0⟩ := field_opens (off := 0) (show DataW.trod enc Tryz.prog W base spare held n 3 ((cs.drop 0).take (Tryz.prog.cellsOf 3)) = xs[0]? from hf 0 _ rfl) (by omega) k_int o_int
  obtain ⟨number, e1, g1⟩ := field_opens (off := 1) (show DataW.trod enc Tryz.prog W base spare held n 3 ((cs.drop 1).take (Tryz.prog.cellsOf 3)) = xs[1]? from hf 1 _ rfl) (by omega) k_int o_int
  obtain ⟨kind, e2, g2⟩ := field_opens (off := 2) (show DataW.trod enc Tryz.prog W base spare held n 3 ((cs.drop 2).take (Tryz.prog.cellsOf 3)) = xs[2]? from hf 2 _ rfl) (by omega) k_int o_int
  obtain ⟨actor, e3, g3⟩ := field_opens (off := 3) (show DataW.trod enc Tryz.prog W base spare held n 9 ((cs.drop 3).take (Tryz.prog.cellsOf 9)) = xs[3]? from hf 3 _ rfl) (by omega) k_str o_str
  obtain ⟨object, e4, g4⟩ := field_opens (off := 4) (show DataW.trod enc Tryz.prog W base spare held n 9 ((cs.drop 4).take (Tryz.prog.cellsOf 9)) = xs[4]? from hf 4 _ rfl) (by omega) k_str o_str
  obtain ⟨text, e5, g5⟩ := field_opens (off := 5) (show DataW.trod enc Tryz.prog W base spare held n 9 ((cs.drop 5).take (Tryz.prog.cellsOf 9)) = xs[5]? from hf 5 _ rfl) (by omega) k_str o_str
  obtain ⟨to, e6, g6⟩ := field_opens (off := 6) (show DataW.trod enc Tryz.prog W base spare held n 32 ((cs.drop 6).take (Tryz.prog.cellsOf 32)) = xs[6]? from hf 6 _ rfl) (by omega) k_strs o_strs
  obtain ⟨n1, e7, g7⟩ := field_opens (off := 7) (show DataW.trod enc Tryz.prog W base spare held n 3 ((cs.drop 7).take (Tryz.prog.cellsOf 3)) = xs[7]? from hf 7 _ rfl) (by omega) k_int o_int
  obtain ⟨start, e8, g8⟩ := field_opens (off := 8) (show DataW.trod enc Tryz.prog W base spare held n 3 ((cs.drop 8).take (Tryz.prog.cellsOf 3)) = xs[8]? from hf 8 _ rfl) (by omega) k_int o_int
  obtain ⟨stop, e9, g9⟩ := field_opens (off := 9) (show DataW.trod enc Tryz.prog W base spare held n 3 ((cs.drop 9).take (Tryz.prog.cellsOf 3)) = xs[9]? from hf 9 _ rfl) (by omega) k_int o_int
  obtain ⟨sg, e10, g10⟩ := field_opens (off := 10) (show DataW.trod enc Tryz.prog W base spare held n 37 ((cs.drop 10).take (Tryz.prog.cellsOf 37)) = xs[10]? from hf 10 _ rfl) (by omega) k_sig o_sig
  have t11 : cs.drop 12 = [] := List.drop_eq_nil_of_le (by omega)
  have t10 := drop_step e10
  simp only [Nat.reduceAdd] at t10
  rw [t11] at t10
  have t9 := drop_step e9
  simp only [Nat.reduceAdd] at t9
  rw [t10] at t9
  have t8 := drop_step e8
  simp only [Nat.reduceAdd] at t8
  rw [t9] at t8
  have t7 := drop_step e7
  simp only [Nat.reduceAdd] at t7
  rw [t8] at t7
  have t6 := drop_step e6
  simp only [Nat.reduceAdd] at t6
  rw [t7] at t6
  have t5 := drop_step e5
  simp only [Nat.reduceAdd] at t5
  rw [t6] at t5
  have t4 := drop_step e4
  simp only [Nat.reduceAdd] at t4
  rw [t5] at t4
  have t3 := drop_step e3
  simp only [Nat.reduceAdd] at t3
  rw [t4] at t3
  have t2 := drop_step e2
  simp only [Nat.reduceAdd] at t2
  rw [t3] at t2
  have t1 := drop_step e1
  simp only [Nat.reduceAdd] at t1
  rw [t2] at t1
  have t0 := drop_step e0
  simp only [Nat.reduceAdd] at t0
  rw [t1] at t0
  rw [List.drop_zero] at t0
  refine ⟨⟨server, number, kind, actor, object, text, to.l, to.A, to.c, n1, start, stop, sg.1, sg.2⟩, by rw [t0]; rfl, ?_⟩
  refine ⟨⟨strs_of g6.rows, g6.le, g6.cap⟩, ?_, ?_, g6.all⟩
  · have s1 := g10 sg.1 (by simp)
    have s2 := g10 sg.2 (by simp)
    simp only [NOk, List.mem_cons, List.not_mem_nil, or_false]
    rintro s (rfl | rfl | rfl | rfl | rfl | rfl | rfl | rfl) <;> assumption
  · simp only [SOk, List.mem_cons, List.not_mem_nil, or_false]
    rintro s (rfl | rfl | rfl) <;> assumption
theorem k_item : Tryz.prog.cellsOf 47 = 49 := by kernel_rfl
set_option maxHeartbeats 1000000 in
theorem o_item : Opens enc Tryz.prog W base spare held 47 ItemR.cells (fun i => ItemIn W i ∧ ItemOk i) := fun fuel cs x h => by
  obtain ⟨xs, n, -, -, hcl, hxl, hf⟩ := DataW.trod_struct Tryz.underlying47 h
  rw [k_item] at hcl
  have hxl : xs.length = 5 := hxl
  obtain ⟨kind, e0, g0⟩ := field_opens (off := 0) (show DataW.trod enc Tryz.prog W base spare held n 3 ((cs.drop 0).take (Tryz.prog.cellsOf 3)) = xs[0]? from hf 0 _ rfl) (by omega) k_int o_int
  obtain ⟨a, e1, g1⟩ := field_opens (off := 1) (show DataW.trod enc Tryz.prog W base spare held n 39 ((cs.drop 1).take (Tryz.prog.cellsOf 39)) = xs[1]? from hf 1 _ rfl) (by omega) k_act o_act
  obtain ⟨c, e2, g2⟩ := field_opens (off := 21) (show DataW.trod enc Tryz.prog W base spare held n 41 ((cs.drop 21).take (Tryz.prog.cellsOf 41)) = xs[2]? from hf 2 _ rfl) (by omega) k_claim o_claim
  obtain ⟨b, e3, g3⟩ := field_opens (off := 30) (show DataW.trod enc Tryz.prog W base spare held n 43 ((cs.drop 30).take (Tryz.prog.cellsOf 43)) = xs[3]? from hf 3 _ rfl) (by omega) k_ballot o_ballot
  obtain ⟨d, e4, g4⟩ := field_opens (off := 37) (show DataW.trod enc Tryz.prog W base spare held n 45 ((cs.drop 37).take (Tryz.prog.cellsOf 45)) = xs[4]? from hf 4 _ rfl) (by omega) k_dec o_dec
  have t5 : cs.drop 49 = [] := List.drop_eq_nil_of_le (by omega)
  have t4 := drop_step e4
  simp only [Nat.reduceAdd] at t4
  rw [t5] at t4
  have t3 := drop_step e3
  simp only [Nat.reduceAdd] at t3
  rw [t4] at t3
  have t2 := drop_step e2
  simp only [Nat.reduceAdd] at t2
  rw [t3] at t2
  have t1 := drop_step e1
  simp only [Nat.reduceAdd] at t1
  rw [t2] at t1
  have t0 := drop_step e0
  simp only [Nat.reduceAdd] at t0
  rw [t1] at t0
  rw [List.drop_zero] at t0
  refine ⟨⟨kind, a, c, b, d⟩, by rw [t0]; rfl, ?_⟩
  exact ⟨⟨g1.1, g4.1⟩, g0, g1.2, g2, g3, g4.2⟩
theorem k_items : Tryz.prog.cellsOf 26 = 1 := by kernel_rfl
theorem o_items : Opens enc Tryz.prog W base spare held 26 SliceR.cells (SliceR.Good W 49 ItemR.cells fun i => ItemIn W i ∧ ItemOk i) := opens_slice Tryz.underlying26 k_item (by decide) o_item
theorem k_ints : Tryz.prog.cellsOf 25 = 1 := by kernel_rfl
theorem o_ints : Opens enc Tryz.prog W base spare held 25 SliceR.cells (SliceR.Good W 1 (fun n : Int => [.int .i64 n]) I64) := opens_slice Tryz.underlying25 k_int (by decide) o_int
end
end Go.Proofs.YtjfcllanochhmaaGreatDoor.Item
