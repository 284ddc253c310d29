/-
  The contract of package agoraref03's next.
-/
import Derived.Test.YtppbplchdfhnkaaDoorRefShaWalk
import Derived.BigQuiet
set_option linter.unusedVariables false
set_option linter.unusedSimpArgs false
namespace Go.Proofs.YtppbplchdfhnkaaDoor.Sha
open Go.RowKit Grp Mem _root_.Go.Proofs.YtppbplchdfhnkaaDoor.Code

/-- A quiet call. -/
theorem rquiet0 {P : Program} {f : FuncId} {args : Array Value} {w : World} {n : Nat} {v : Value}
    (h : Calls P f args (w.drewN n) fun e w' => e = .returned v ∧ ∃ q, w' = (w.drewN n).drewN q) :
    Calls P f args (w.drewN n) fun e w'' => e = .returned v ∧ ∃ m, w'' = w.drewN m :=
  h.mono fun e w' ⟨he, q, hm⟩ => ⟨he, n + q, by rw [hm, World.drewN_drewN]⟩
theorem eight_news {w : World} {g : Nat} {v : V8} (h : Eight w g v) (j : Nat) (u : Value) (hu : (cellsW v.list)[j]? = some u) : w.cell? ((⟨g, 0, none⟩ : Addr).add j) = some u := by
  have hadd : (⟨g, 0, none⟩ : Addr).add j = ⟨g, j, none⟩ := by unfold Addr.add; split <;> simp_all
  have hj : j < 8 := by
    have := (List.getElem?_eq_some_iff.1 hu).1
    rw [cellsW_length] at this
    exact this
  rw [hadd, h.2 j hj, ← hu, cellsW_get _ _ hj]

/-- Eight words in a row of the call's own. -/
def EightO (w : World) (g : Nat) (f : Nat → Int) : Prop := ∀ j, j < 8 → w.cell? ⟨g, j, none⟩ = some (.int .u32 (f j)) ∧ w.frozen? ⟨g, j, none⟩ = false
theorem EightO.q {w w' : World} {g : Nat} {f : Nat → Int} (h : EightO w g f) (hq : Q w w') (hg : g < w.heap.size) : EightO w' g f := fun j hj =>
  ⟨(hq.cell (p := ⟨g, j, none⟩) hg).trans (h j hj).1, (World.frozen?_of_block (hq.block g hg)).trans (h j hj).2⟩
theorem EightO.of {w : World} {g : Nat} {t : TypeId} {v : V8} (h : Blk w g t v.arr) : EightO w g fun j => v.list.getD j 0 := fun j hj => ⟨by rw [h.cell, arr_cells v j hj], h.frozen j⟩

/-- What the words are while the first k are summed up. -/
def part8 (u v : V8) (k j : Nat) : Int := if j < k then (u.list.getD j 0 + v.list.getD j 0) % 4294967296 else u.list.getD j 0
theorem part8_end (u v : V8) (j : Nat) (hj : j < 8) : part8 u v 8 j = (plus v u).list.getD j 0 := by
  unfold part8
  rw [if_pos hj, Int.add_comm]
  rcases (show j = 0 ∨ j = 1 ∨ j = 2 ∨ j = 3 ∨ j = 4 ∨ j = 5 ∨ j = 6 ∨ j = 7 by omega) with rfl | rfl | rfl | rfl | rfl | rfl | rfl | rfl <;> rfl

/-- Eight words are kept. -/
def Kept8 (w0 w : World) (g : Nat) (v : V8) : Prop := g < w.heap.size ∧ Q w0 w ∧ w.cell? ⟨g, 0, none⟩ = some (.int .u32 v.a) ∧ w.cell? ⟨g, 1, none⟩ = some (.int .u32 v.b) ∧ w.cell? ⟨g, 2, none⟩ = some (.int .u32 v.c) ∧ w.cell? ⟨g, 3, none⟩ = some (.int .u32 v.d) ∧ w.cell? ⟨g, 4, none⟩ = some (.int .u32 v.e) ∧ w.cell? ⟨g, 5, none⟩ = some (.int .u32 v.f) ∧ w.cell? ⟨g, 6, none⟩ = some (.int .u32 v.g)
theorem Kept8.q {w0 w w' : World} {g : Nat} {v : V8} (h : Kept8 w0 w g v) (hq : Q w w') : Kept8 w0 w' g v :=
  ⟨Nat.lt_of_lt_of_le h.1 hq.size, Q.trans h.2.1 hq, (hq.cell (p := ⟨g, 0, none⟩) h.1).trans h.2.2.1, (hq.cell (p := ⟨g, 1, none⟩) h.1).trans h.2.2.2.1, (hq.cell (p := ⟨g, 2, none⟩) h.1).trans h.2.2.2.2.1, (hq.cell (p := ⟨g, 3, none⟩) h.1).trans h.2.2.2.2.2.1, (hq.cell (p := ⟨g, 4, none⟩) h.1).trans h.2.2.2.2.2.2.1, (hq.cell (p := ⟨g, 5, none⟩) h.1).trans h.2.2.2.2.2.2.2.1, (hq.cell (p := ⟨g, 6, none⟩) h.1).trans h.2.2.2.2.2.2.2.2⟩
theorem Kept8.held {w0 w : World} {g : Nat} {v : V8} (h : Kept8 w0 w g v) : w.cell? ⟨g, 0, none⟩ = some (.int .u32 v.a) ∧ w.cell? ⟨g, 1, none⟩ = some (.int .u32 v.b) ∧ w.cell? ⟨g, 2, none⟩ = some (.int .u32 v.c) ∧ w.cell? ⟨g, 3, none⟩ = some (.int .u32 v.d) ∧ w.cell? ⟨g, 4, none⟩ = some (.int .u32 v.e) ∧ w.cell? ⟨g, 5, none⟩ = some (.int .u32 v.f) ∧ w.cell? ⟨g, 6, none⟩ = some (.int .u32 v.g) ∧ Kept8 w0 w g v :=
  ⟨h.2.2.1, h.2.2.2.1, h.2.2.2.2.1, h.2.2.2.2.2.1, h.2.2.2.2.2.2.1, h.2.2.2.2.2.2.2.1, h.2.2.2.2.2.2.2.2, h⟩
theorem Kept8.step {w0 w : World} {g : Nat} {v : V8} (h : w.cell? ⟨g, 0, none⟩ = some (.int .u32 v.a) ∧ w.cell? ⟨g, 1, none⟩ = some (.int .u32 v.b) ∧ w.cell? ⟨g, 2, none⟩ = some (.int .u32 v.c) ∧ w.cell? ⟨g, 3, none⟩ = some (.int .u32 v.d) ∧ w.cell? ⟨g, 4, none⟩ = some (.int .u32 v.e) ∧ w.cell? ⟨g, 5, none⟩ = some (.int .u32 v.f) ∧ w.cell? ⟨g, 6, none⟩ = some (.int .u32 v.g) ∧ Kept8 w0 w g v) (o : Obj) :
    (w.alloc o).cell? ⟨g, 0, none⟩ = some (.int .u32 v.a) ∧ (w.alloc o).cell? ⟨g, 1, none⟩ = some (.int .u32 v.b) ∧ (w.alloc o).cell? ⟨g, 2, none⟩ = some (.int .u32 v.c) ∧ (w.alloc o).cell? ⟨g, 3, none⟩ = some (.int .u32 v.d) ∧ (w.alloc o).cell? ⟨g, 4, none⟩ = some (.int .u32 v.e) ∧ (w.alloc o).cell? ⟨g, 5, none⟩ = some (.int .u32 v.f) ∧ (w.alloc o).cell? ⟨g, 6, none⟩ = some (.int .u32 v.g) ∧ Kept8 w0 (w.alloc o) g v :=
  (h.2.2.2.2.2.2.2.q (q_alloc (Q.refl w) o)).held

theorem rnd_wrap (v : V8) (k w t1 t2 : Int) (h1 : t1 = tmp1 v k w) (h2 : t2 = tmp2 v) :
    (#[.int .u32 (IntKind.u32.wrap (t1 + t2)), .int .u32 v.a, .int .u32 v.b, .int .u32 v.c, .int .u32 (IntKind.u32.wrap (v.d + t1)), .int .u32 v.e, .int .u32 v.f, .int .u32 v.g] : Array Value) = (rnd v k w).arr := by
  subst h1 h2
  simp only [IntKind.wrap_u32]
  rfl

set_option maxRecDepth 100000 in
set_option maxHeartbeats 4000000 in
theorem next_any (gh ch g o c : Nat) (v : V8) (s : ByteArray) (w : World) (hv : V8Ok v) (hh : Eight w gh v) (hb : Bytes64 w g o s) :
    Calls Tryd.prog 120 #[.slice (some ⟨gh, 0, none⟩) 8 ch, .slice (some ⟨g, o, none⟩) 64 c] w fun e w' => ∃ g' c', e = .returned (.slice (some ⟨g', 0, none⟩) 8 c') ∧ Eight w' g' (mix v s) ∧ Q w w' := by
  obtain ⟨i0, hi, hz0, hz1, hz2⟩ := info_parts word_info
  go_enter Tryd.func120, Tryd.ntmps120
  go_wp2_with fail
  refine (words_any g o c s _ hb).mono ?_
  rintro e w1 ⟨AW, cW, rfl, hownW, hq1⟩
  go_wp2_with fail
  refine (adds_any w1).mono ?_
  rintro e w2 ⟨rfl, ⟨tK, hbK⟩, hq2⟩
  have hownW := hownW.q hq2
  have hh2 := (hh.q hq1).q hq2
  have hq2' := Q.trans hq1 hq2
  have hnil : Owns (w2.alloc (.cells #[] 89)) w2.heap.size 89 1 (.slice (some ⟨w2.heap.size, 0, none⟩) 0 0) 0 [] := owns_new w2 89 #[] 0 rfl (Nat.zero_le _)
  have hh3 := hh2.q (q_alloc (Q.refl w2) (.cells #[] 89))
  have hl8 : (cellsW v.list).length = 8 * 1 := rfl
  have h1c : ∀ u ∈ cellsW v.list, u.oneCell' = true := by
    intro u hu
    unfold cellsW at hu
    obtain ⟨x, -, rfl⟩ := List.mem_map.1 hu
    rfl
  go_wp2_with (at_builtin; refine wpList_append_owns _ rfl (.tmp 17) (.tmp 18) 117 rfl w2.heap.size 89 i0 _ 1 4 Tryd.underlying117 hi hz0 hz1 hz2 rfl (by decide) _ 0 _ rfl hnil ⟨gh, 0, none⟩ 8 ch (cellsW v.list) rfl hl8 (eight_news hh3) h1c (by simp only [maxLen]; omega) (by omega) (by simp) ?_)
  intro v3 w3 hown3 hg3
  have hq3 : Q w2 w3 := Below.trans (q_alloc (Q.refl w2) _) (below_grown hg3 (by simp) (by intro k hk; simp [Value.ownBlock] at hk; omega))
  obtain ⟨A3, c3, rfl, hn3, hm3⟩ := hown3.shape
  have hV0 : ∃ g3, A3 = some ⟨g3, 0, none⟩ ∧ w2.heap.size ≤ g3 ∧ g3 < w3.heap.size ∧ EightO w3 g3 (fun j => v.list.getD j 0) := by
    obtain ⟨g3, rfl, hle, hlt, -, -⟩ := hown3.cellAt 0 (.int .u32 v.a) rfl
    refine ⟨g3, rfl, hle, hlt, fun j hj => ?_⟩
    obtain ⟨g4, h4, -, -, hc4, hf4⟩ := hown3.cellAt j _ (cellsW_get v.list j hj)
    obtain rfl : g3 = g4 := by injection h4 with h; injection h
    exact ⟨hc4, hf4⟩
  obtain ⟨g3, rfl, hle3, hlt3, hE3⟩ := hV0
  have hKlt : w1.heap.size < w2.heap.size := hbK.lt
  have hownW := hownW.q hq3
  have hbK := hbK.q hq3
  have hh4 := hh2.q hq3
  have hq4 := Q.trans hq2' hq3
  have hw12 : w.heap.size ≤ w1.heap.size := hq1.size
  clear hnil hh3 hl8 h1c hown3 hg3 hh2 hq2' hq1
  go_wp2_with fail
  go_loopw [7, 8] (fun x i wr => ∃ (g3 c3 k : Nat), x = .slice (some ⟨g3, 0, none⟩) 8 c3 ∧ i = .int .i64 k ∧ k ≤ 64 ∧ w.heap.size ≤ g3 ∧ g3 < wr.heap.size ∧ EightO wr g3 (fun j => (rnds s v k).list.getD j 0) ∧ Q w3 wr) (fun _ i _ => 64 - (intOf i).toNat)
  case atStart => exact ⟨g3, c3, 0, rfl, rfl, by omega, by omega, hlt3, hE3, Q.refl _⟩
  case round =>
    obtain ⟨g4, c4, k, rfl, rfl, hk, hle4, hlt4, hE, hq⟩ := hrel
    have ok := rnds_ok s hv k
    by_cases hlt : k < 64
    · have he : rnds s v (k + 1) = rnd (rnds s v k) (K k) (W s k) := rfl
      have HE := Lib.hid he
      clear he
      have hkc := (hbK.q hq).cell k
      have hkk : (cellsW KL).toArray[k]? = some (.int .u32 (K k)) := by
        rw [List.getElem?_toArray]
        exact cellsW_get KL k hlt
      rw [hkk] at hkc
      clear hkk
      have hl := schedL_length s 64
      obtain ⟨gW, rfl, -, -, hwc, -⟩ := (hownW.q hq).cellAt k _ (by rw [cellsW_get _ _ (by omega), schedL_getD s 64 k hlt])
      generalize rnds s v k = V at *
      have c0 : wr.cell? ⟨g4, 0, none⟩ = some (.int .u32 V.a) := (hE 0 (by decide)).1
      have c1 : wr.cell? ⟨g4, 1, none⟩ = some (.int .u32 V.b) := (hE 1 (by decide)).1
      have c2 : wr.cell? ⟨g4, 2, none⟩ = some (.int .u32 V.c) := (hE 2 (by decide)).1
      have c3 : wr.cell? ⟨g4, 3, none⟩ = some (.int .u32 V.d) := (hE 3 (by decide)).1
      have c4 : wr.cell? ⟨g4, 4, none⟩ = some (.int .u32 V.e) := (hE 4 (by decide)).1
      have c5 : wr.cell? ⟨g4, 5, none⟩ = some (.int .u32 V.f) := (hE 5 (by decide)).1
      have c6 : wr.cell? ⟨g4, 6, none⟩ = some (.int .u32 V.g) := (hE 6 (by decide)).1
      have c7 : wr.cell? ⟨g4, 7, none⟩ = some (.int .u32 V.h) := (hE 7 (by decide)).1
      have hF : Kept8 w3 wr g4 V := ⟨hlt4, hq, c0, c1, c2, c3, c4, c5, c6⟩
      clear hE hl
      have dE := ok.e
      have dA := ok.a
      have e0 := ok.e.1
      have a0 := ok.a.1
      have hsz : w.heap.size ≤ wr.heap.size := by have := hq4.size; have := hq.size; omega
      have k0 : (0 : Int) ≤ (k : Int) := by omega
      have k1 : (k : Int) < 64 := by omega
      go_wp2_with fail
      go_quiet ((go_at_call 128; exact rquiet0 (rturn_any _ _ _ dE (by decide) (by decide))))
      go_wp2_with fail
      go_quiet (fail)
      go_wp2_with fail
      go_quiet ((go_at_call 128; exact rquiet (rturn_any _ _ _ dA (by decide) (by decide))))
      go_wp2_with fail
      go_quiet (fail)
      go_wp2_with fail
      go_region_held3 (fun w' => w'.cell? ⟨g4, 0, none⟩ = some (.int .u32 V.a) ∧ w'.cell? ⟨g4, 1, none⟩ = some (.int .u32 V.b) ∧ w'.cell? ⟨g4, 2, none⟩ = some (.int .u32 V.c) ∧ w'.cell? ⟨g4, 3, none⟩ = some (.int .u32 V.d) ∧ w'.cell? ⟨g4, 4, none⟩ = some (.int .u32 V.e) ∧ w'.cell? ⟨g4, 5, none⟩ = some (.int .u32 V.f) ∧ w'.cell? ⟨g4, 6, none⟩ = some (.int .u32 V.g) ∧ Kept8 w3 w' g4 V)
        (first | exact ((((hF.q (below_drewN (Q.refl _) _)).q (below_drewN (Q.refl _) _)).q (below_drewN (Q.refl _) _)).q (Q.refl _).drew).held | exact (hF.q (q_alloc (below_drewN (Q.refl wr) _) _)).held | exact (hF.q (q_allocd (below_drewN (Q.refl wr) _) _)).held) (fail)
      go_wp2
      refine ⟨⟨wr.heap.size, 8, k + 1, rfl, by go_num, by omega, hsz, by simp, ?_, q_alloc (below_drewN hq _) _⟩, by simp only [intOf]; omega⟩
      rw [HE.out]
      exact EightO.of (v := rnd V (K k) (W s k)) (Blk.new' (wr.drewN _) 89 _ rfl)
    · have hm : mix v s = plus v (rnds s v k) := by rw [show k = 64 by omega]; rfl
      have HM := Lib.hid hm
      clear hm
      generalize rnds s v k = V at *
      have hE0 : EightO wr g4 (part8 V v 0) := fun j hj => hE j hj
      have hh5 := hh4.q hq
      have hlt5 := hh5.1
      have hq5 := Q.trans hq4 hq
      have hgh := hh.1
      have hwg : w.heap.size ≤ g4 := hle4
      clear hE hbK hownW hh4 hq4 hq hb hh
      go_wp2_with fail
      go_loopw [13] (fun i wr' => ∃ k : Nat, k ≤ 8 ∧ i = .int .i64 k ∧ g4 < wr'.heap.size ∧ EightO wr' g4 (part8 V v k) ∧ Eight wr' gh v ∧ Q w wr') (fun i _ => 8 - (intOf i).toNat)
      case atStart => exact ⟨0, by omega, rfl, hlt4, hE0, hh5, hq5⟩
      case round =>
        obtain ⟨k, hk, rfl, hlt4, hE, hh, hq⟩ := hrel
        by_cases hlt : k < 8
        · obtain ⟨hc, hf⟩ := hE k hlt
          have hp : part8 V v k k = V.list.getD k 0 := by unfold part8; rw [if_neg (by omega)]
          rw [hp] at hc
          have hc2 := hh.2 k hlt
          go_wp2_with fail
          go_region
          go_wp2
          refine ⟨⟨k + 1, by omega, by go_num, by simpa using hlt4, fun j hj => ?_, ⟨by simpa using hh.1, fun j hj => ?_⟩, Below.drew (Below.setCell hq hwg _)⟩, by simp only [intOf]; omega⟩
          · by_cases e : j = k
            · subst e
              refine ⟨(World.cell?_setCell_same' _ _ _ (by rw [hc]; rfl)).trans ?_, (World.frozen?_setCell _ _ _ _).trans hf⟩
              unfold part8
              rw [if_pos (by omega), List.getD_eq_getElem?_getD, List.getD_eq_getElem?_getD]
            · obtain ⟨h1, h2⟩ := hE j hj
              refine ⟨(World.cell?_setCell_other _ _ _ _ ?_).trans (h1.trans ?_), (World.frozen?_setCell _ _ _ _).trans h2⟩
              · simp <;> omega
              · unfold part8
                by_cases e2 : j < k
                · rw [if_pos e2, if_pos (by omega)]
                · rw [if_neg e2, if_neg (by omega)]
          · exact (World.cell?_setCell_far _ _ _ _ (by simp; omega)).trans (hh.2 j hj)
        · obtain rfl : k = 8 := by omega
          have hE8 : Eight wr g4 (mix v s) := ⟨hlt4, fun j hj => by rw [(hE j hj).1, part8_end V v j hj, HM.out]⟩
          go_wp2
          go_ret
          exact ⟨g4, _, rfl, hE8, hq⟩

end Go.Proofs.YtppbplchdfhnkaaDoor.Sha
