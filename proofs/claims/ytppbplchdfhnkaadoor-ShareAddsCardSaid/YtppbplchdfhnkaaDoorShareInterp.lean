/-
  The contract of package share's interpolate.
-/
import Derived.Test.YtppbplchdfhnkaaDoorShareForm
import Derived.Test.YtppbplchdfhnkaaDoorSignChal
set_option linter.unusedVariables false
set_option linter.unusedSimpArgs false
namespace Go.Proofs.YtppbplchdfhnkaaDoor.Share
open Go.RowKit Grp Mem
open Sign (q_new)

theorem share_info : (Tryd.prog.info? 61).map (fun i => (i.zero, i.size, i.bytes)) = some (some (.agg #[.int .i64 0, .int .i64 0]), 2, 16) := by kernel_rfl
/-- The form's row and a share's block are kept. -/
def Frm (w0 w : World) (g gs : Nat) (cs : Array Value) (X Y : Int) : Prop := Q w0 w ∧ Blk w g 61 cs ∧ Blk w gs 61 #[.int .i64 X, .int .i64 Y]
theorem Frm.q {w0 w w' : World} {g gs : Nat} {cs : Array Value} {X Y : Int} (h : Frm w0 w g gs cs X Y) (hq : Q w w') : Frm w0 w' g gs cs X Y := ⟨Q.trans h.1 hq, h.2.1.q hq, h.2.2.q hq⟩
theorem Frm.held {w0 w : World} {g gs : Nat} {cs : Array Value} {X Y : Int} (h : Frm w0 w g gs cs X Y) : w.cell? ⟨gs, 0, none⟩ = some (.int .i64 X) ∧ w.cell? ⟨gs, 1, none⟩ = some (.int .i64 Y) := ⟨h.2.2.cell 0, h.2.2.cell 1⟩
theorem Frm.at {w0 w : World} {g gs : Nat} {cs : List Value} {X Y : Int} {i : Nat} {v : Value} (h : Frm w0 w g gs cs.toArray X Y) (hv : cs[i]? = some v) : w.cell? ⟨g, i, none⟩ = some v ∧ w.frozen? ⟨g, i, none⟩ = false := by
  refine ⟨?_, h.2.1.frozen i⟩
  rw [h.2.1.cell, List.getElem?_toArray]
  exact hv
theorem value_at (A : Option Addr) (n c : Nat) (l : List (Int × Int)) (x : Int) (w : World) (hn' : l.length = n) (hS : Shares w A l) (hn : n ≤ 140737488355328) :
    Calls Tryd.prog 90 #[.slice A n c, .int .i64 x] w fun e w' => e = .returned (.int .i64 (val l x)) ∧ Q w w' := by
  subst hn'
  exact value_any A c l x w hS hn

theorem Shares.news {w : World} {b o : Nat} {l : List (Int × Int)} (h : Shares w (some ⟨b, o, none⟩) l) (h0 : 0 < l.length) : ∀ j v, (cells2 l)[j]? = some v → w.cell? ((⟨b, o, none⟩ : Addr).add j) = some v := by
  obtain ⟨b', o', e, hb, hc⟩ := h h0
  cases e
  intro j v hv
  have hadd : (⟨b, o, none⟩ : Addr).add j = ⟨b, o + j, none⟩ := by unfold Addr.add; split <;> simp_all
  have hj : j < l.length * 2 := cells2_length l ▸ (List.getElem?_eq_some_iff.1 hv).1
  rw [hadd]
  obtain ⟨i, rfl | rfl⟩ : ∃ i, j = i * 2 ∨ j = i * 2 + 1 := ⟨j / 2, by omega⟩
  · rw [cells2_0 l i (by omega)] at hv
    rw [(hc i (by omega)).1, hv]
  · rw [cells2_1 l i (by omega)] at hv
    rw [← Nat.add_assoc, (hc i (by omega)).2, hv]
theorem wpList_copy_size {P : Program} {w : World} {ops : Array Oper} {rest : List Oper} {op : Oper} {a : Act} {Q : Exit → Act → World → Prop} (hgd : op.guard = none) (d s : Operand) (dT sT : TypeId)
    (ho : op.op = .call { callee := .builtin .copy, args := #[d, s], argTypes := #[dT, sT] }) (elem : TypeId) (size : Nat) (hu : P.underlying dT = some (.slice elem)) (hsz : (P.info? elem).map (·.size) = some size)
    (g dLen dCap : Nat) (ad : Addr) (sLen sCap : Nat) (hd : a.eval d = .slice (some ⟨g, 0, none⟩) dLen dCap) (hs : a.eval s = .slice (some ad) sLen sCap)
    (cur : Array Value) (t : TypeId) (hg : w.heap[g]? = some (.cells cur t (0, 0))) (cs : List Value) (hn : cs.length = Nat.min sLen dLen * size)
    (hsrc : ∀ j v, cs[j]? = some v → w.cell? (ad.add j) = some v) (hfit : cs.length ≤ cur.size) (h1 : ∀ v ∈ cs, v.oneCell' = true)
    (h : wpList P ops Q rest (a.put op.dst (goInt (Nat.min sLen dLen : Nat))) (w.setRow g (cs ++ cur.toList.drop cs.length).toArray)) : wpList P ops Q (op :: rest) a w := by
  refine wpList_plain hgd fun K hK => ?_
  have hrun := run_copy_size (P := P) w dT sT op.type elem size g dLen dCap ad sLen sCap cur t cs hu hsz hg hn hsrc hfit h1
  unfold Oper.wp execOp
  simp only [ho, resolve, invoke, builtin, Sem.run_bind, Sem.run_pure, Result.andThen_ok, List.map_toArray, List.map_cons, List.map_nil, hd, hs, hrun]
  exact hK _ _ h
theorem foldl_step (x : Int) (m : List (Int × Int)) (j : Nat) (h : j < m.length) : (m.take (j + 1)).foldl (fun a s => gmul a (gsub x s.1)) 1 = gmul ((m.take j).foldl (fun a s => gmul a (gsub x s.1)) 1) (gsub x (m.getD j (0, 0)).1) := by
  rw [List.take_succ_eq_append_getElem h, List.foldl_append, List.getD_eq_getElem?_getD, List.getElem?_eq_getElem h]
  rfl
theorem form_get (l : List (Int × Int)) (k j : Nat) (hk : k ≤ l.length) (h : j < k) : (formAt l k)[j]? = some ((interp (l.take k)).getD j (0, 0)) := by
  have hml : (interp (l.take k)).length = k := by rw [interp_len', List.length_take]; omega
  unfold formAt
  rw [List.getElem?_append_left (by omega), List.getD_eq_getElem?_getD, List.getElem?_eq_getElem (by omega)]
  rfl
theorem cells2_q0 (F : List (Int × Int)) (j : Nat) (u : Int × Int) (h : F[j]? = some u) : (cells2 F)[j * 2]? = some (.int .i64 u.1) ∧ (cells2 F)[j * 2 + 1]? = some (.int .i64 u.2) := by
  obtain ⟨hj, rfl⟩ := List.getElem?_eq_some_iff.1 h
  exact ⟨cells2_0 F j hj, cells2_1 F j hj⟩

set_option maxRecDepth 100000 in
set_option maxHeartbeats 4000000 in
theorem interpolate_any (b o c : Nat) (l : List (Int × Int)) (w : World) (hS : Shares w (some ⟨b, o, none⟩) l) (h0 : 0 < l.length) (hn : l.length ≤ 1000000) (hd : Dist l) :
    Calls Tryd.prog 91 #[.slice (some ⟨b, o, none⟩) l.length c] w fun e w' => ∃ g, e = .returned (.slice (some ⟨g, 0, none⟩) l.length l.length) ∧ Blk w' g 61 (cells2 (interp l)).toArray ∧ Q w w' := by
  obtain ⟨i0, hi, hz0, hz1, hz2⟩ := info_parts share_info
  obtain ⟨w1, hmk, hown, hgr⟩ := run_makeSlice_full (P := Tryd.prog) w w.heap.size 47 61 i0 _ 2 Tryd.underlying47 hi hz0 hz1 .i64 .i64 l.length (by omega) (by rw [hz2]; omega) (by simp only [maxLen]; omega) (Nat.le_refl _)
  have hq1 : Q w w1 := below_grown hgr (Nat.le_refl _) (by intro k hk; cases hk)
  have hsz : (Tryd.prog.info? 61).map (·.size) = some 2 := by rw [hi]; simp [hz1]
  rcases hown.2 with ⟨hv, _⟩ | ⟨g', cap, cur, hv, -, hg, hnc, hcm, hcs, -⟩
  · cases hv
  cases hv
  have hS1 := hS.q hq1
  have hlen := cells2_length l
  have hcp := run_copy_size (P := Tryd.prog) w1 47 47 3 61 2 w.heap.size l.length l.length ⟨b, o, none⟩ l.length c cur 61 (cells2 l) Tryd.underlying47 hsz hg (by rw [hlen]; show _ = min l.length l.length * 2; rw [Nat.min_self]) (hS1.news h0) (by omega) (cells2_one l)
  have hcut : (cells2 l ++ cur.toList.drop (cells2 l).length) = cells2 l := by
    rw [List.drop_of_length_le (by rw [Array.length_toList]; omega), List.append_nil]
  rw [hcut] at hcp
  have hblk : Blk (w1.setRow w.heap.size (cells2 l).toArray) w.heap.size 61 (cells2 (formAt l 0)).toArray := Blk.setRow (show Blk w1 w.heap.size 61 cur from hg) _
  have hq2 : Q w (w1.setRow w.heap.size (cells2 l).toArray) := Mem.below_setRow hq1 (Nat.le_refl _) _
  generalize w1.setRow w.heap.size (cells2 l).toArray = w2 at *
  clear hcut hg hcs hS1 hown hgr hq1
  go_enter Tryd.func91, Tryd.ntmps91
  go_wp2_with fail
  go_loopw [19] (fun i wr => ∃ k : Nat, i = .int .i64 k ∧ k ≤ l.length ∧ Blk wr w.heap.size 61 (cells2 (formAt l k)).toArray ∧ Q w wr) (fun i _ => l.length - (intOf i).toNat)
  case atStart => exact ⟨0, rfl, Nat.zero_le _, hblk, hq2⟩
  case round =>
    obtain ⟨k, rfl, hk, hb, hq⟩ := hrel
    by_cases hlt : k < l.length
    · obtain ⟨b', o', e, hbb, hc⟩ := (hS.q hq) (by omega)
      cases e
      obtain ⟨c0, c1⟩ := hc k hlt
      have hpn := prod_ne l hd k hlt
      have hfs := formAt_succ l k hlt
      have hfh := formAt_here l k hlt
      have hfl : (formAt l k).length = l.length := by unfold formAt; rw [List.length_append, interp_len', List.length_take, List.length_drop]; omega
      have hml : (interp (l.take k)).length = k := by rw [interp_len', List.length_take]; omega
      have hco : coeff l k hlt = gmul (gsub l[k].2 (val (interp (l.take k)) l[k].1)) (ginv (prodI (interp (l.take k)) l[k].1)) := rfl
      have hX1 : ∀ j, j < k → (cells2 (formAt l k))[j * 2]? = some (.int .i64 ((interp (l.take k)).getD j (0, 0)).1) ∧ (cells2 (formAt l k))[j * 2 + 1]? = some (.int .i64 ((interp (l.take k)).getD j (0, 0)).2) := fun j h => cells2_q0 _ j _ (form_get l k j hk h)
      have hSh : ∀ W, Blk W w.heap.size 61 (cells2 (formAt l k)).toArray → Shares W (some ⟨w.heap.size, 0, none⟩) (interp (l.take k)) := fun W hW => Shares.of hW
      have htc := cells2_1 (formAt l k) k (by omega)
      generalize (formAt l k)[k].2 = Y0 at htc
      generalize hcf : coeff l k hlt = cf at *
      generalize l[k].1 = X at *
      generalize l[k].2 = Y at *
      generalize interp (l.take k) = M at *
      generalize formAt l k = F at *
      have HFS := Lib.hid hfs
      have HCO := Lib.hid hco
      have HX1 := Lib.hid hX1
      have HSH := Lib.hid hSh
      clear hfs hco hX1 hSh hfh hc hcf
      have hF : Frm w (wr.alloc (.cells #[.int .i64 X, .int .i64 Y] 61)) w.heap.size wr.heap.size (cells2 F).toArray X Y := ⟨Below.alloc hq hq.size _, hb.alloc _, Blk.new wr _ _⟩
      go_wp2_with fail
      go_loopw [6, 28] (fun p i wr2 => ∃ j : Nat, i = .int .i64 j ∧ j ≤ k ∧ p = .int .i64 ((M.take j).foldl (fun a s => gmul a (gsub X s.1)) 1) ∧ Frm w wr2 w.heap.size wr.heap.size (cells2 F).toArray X Y) (fun _ i _ => k - (intOf i).toNat)
      case atStart => exact ⟨0, rfl, Nat.zero_le _, rfl, hF⟩
      case round =>
        obtain ⟨j, rfl, hj, rfl, hF⟩ := hrel
        by_cases hlt2 : j < k
        · obtain ⟨x1, x2⟩ := HX1.out j hlt2
          have ca := (hF.at x1).1
          have cb := (hF.at x2).1
          have hst := foldl_step X M j (by omega)
          generalize (M.getD j (0, 0)).1 = u1 at *
          generalize (M.getD j (0, 0)).2 = u2 at *
          have HST := Lib.hid hst
          clear hst x1 x2
          generalize (M.take j).foldl (fun a s => gmul a (gsub X s.1)) 1 = PP at *
          have hF2 := hF.q (q_new _ #[.int .i64 u1, .int .i64 u2] 61)
          obtain ⟨s0, s1⟩ := hF2.held
          go_wp2_with fail
          refine (Sub_any _ _ _).mono ?_
          rintro e w4 ⟨rfl, rfl⟩
          go_wp2_with fail
          refine (Mul_any _ _ _).mono ?_
          rintro e w5 ⟨rfl, hq5⟩
          go_wp2
          exact ⟨⟨j + 1, by go_num, by omega, by rw [HST.out], hF2.q hq5⟩, by simp only [intOf]; omega⟩
        · have hpr : (M.take j).foldl (fun a s => gmul a (gsub X s.1)) 1 = prodI M X := by
            rw [show j = M.length by omega, List.take_length]
            rfl
          rw [hpr]
          clear hpr
          generalize prodI M X = PP at *
          go_wp2_with fail
          refine (Inv_yes _ _ hpn).mono ?_
          rintro e w5 ⟨rfl, hq5⟩
          have hF := hF.q hq5
          have hFd := hF.q (Q.refl w5).drew
          obtain ⟨s0, s1⟩ := hF.held
          obtain ⟨t0, t1⟩ := hF.at htc
          go_wp2_with fail
          go_region_with (first
            | (go_at_call 90; refine (value_at _ _ _ M _ _ hml (HSH.out _ hFd.2.1) (by omega)).mono ?_; rintro e w' ⟨rfl, hq⟩; have hX2 := Frm.q hFd hq; obtain ⟨hcx, hcy⟩ := hX2.held; obtain ⟨hct, hft⟩ := hX2.at htc)
            | (go_at_call 47; refine (Sub_any _ _ _).mono ?_; rintro e w' ⟨rfl, rfl⟩)
            | (go_at_call 48; refine (Mul_any _ _ _).mono ?_; rintro e w' ⟨rfl, hq⟩; have hX2 := Frm.q (by with_reducible assumption) hq; obtain ⟨hcx, hcy⟩ := hX2.held; obtain ⟨hct, hft⟩ := hX2.at htc))
          all_goals
            have hfin := hX2.2.1.set_ (k * 2 + 1) (.int .i64 cf)
            rw [List.setIfInBounds_toArray, HFS.out, HCO.out] at hfin
            have hq9 := Below.setCell hX2.1 (p := ⟨w.heap.size, k * 2 + 1, none⟩) (Nat.le_refl _) (.int .i64 (gmul (gsub Y (val M X)) (ginv PP)))
            go_wp2
            exact ⟨⟨k + 1, by go_num, by omega, hfin, hq9⟩, by simp only [intOf]; omega⟩
    · obtain rfl : k = l.length := by omega
      rw [formAt_all] at hb
      go_wp2
      go_ret
      exact ⟨_, rfl, hb, hq⟩
end Go.Proofs.YtppbplchdfhnkaaDoor.Share
