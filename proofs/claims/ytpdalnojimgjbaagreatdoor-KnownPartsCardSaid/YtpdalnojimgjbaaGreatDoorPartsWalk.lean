/-
  The walk of agoralaw14.KnownParts.
-/
import Derived.Test.YtpdalnojimgjbaaGreatDoorParts
set_option linter.unusedVariables false
set_option linter.unusedSimpArgs false
namespace Go.Proofs.YtpdalnojimgjbaaGreatDoor.Known
open Go.RowKit Grp Mem _root_.Go.Proofs.YtpdalnojimgjbaaGreatDoor.Code Sha Sign _root_.Go.Proofs.YtpdalnojimgjbaaGreatDoor.Item

theorem itAct_same {a a' : ActR} (h : ∀ b : ActR, a'.same b = a.same b) (it : ItemR) : (itAct a').same it = (itAct a).same it := by
  simp only [ItemR.same, itAct, conj, List.foldr_cons, List.foldr_nil, h]
  rfl
theorem itDec_same {a a' : DecR} (h : ∀ b : DecR, a'.same b = a.same b) (it : ItemR) : (itDec a').same it = (itDec a).same it := by
  simp only [ItemR.same, itDec, conj, List.foldr_cons, List.foldr_nil, h]
  rfl

set_option maxRecDepth 100000 in
set_option maxHeartbeats 8000000 in
theorem parts_walk (SA : Option Addr) (sc : Nat) (sv : List Int) (A : Option Addr) (c : Nat) (l : List ItemR) (w : World) (hT : Tab w) (hS : Ints w SA sv) (hsc : sv.length ≤ sc) (hscm : sc ≤ maxLen) (hI : ItemsIn w A l) (hc : l.length ≤ c) (hcm : c ≤ maxLen) :
    Calls Tryz.prog 6 #[.slice SA sv.length sc, .slice A l.length c] w fun e w' => e = .returned (.bool true) ∧ Q w w' := by
  have hml : maxLen ≤ 9223372036854775807 := by decide
  have hT0 : ∀ y : Wd w, Tab y.w := fun y => hT.q y.q
  have hS0 : ∀ y : Wd w, Ints y.w SA sv := fun y => hS.q y.q
  have hI0 : ∀ y : Wd w, ItemsIn y.w A l := fun y => hI.q y.q
  by_cases hlong : 12 < l.length
  · go_enter Tryz.func6, Tryz.ntmps6
    go_wp2_with (go_at_call 14; refine (small_any w hT).mono ?_; rintro e w' ⟨rfl, hq⟩; obtain ⟨y, rfl⟩ := Wd.next (⟨w, Q.refl w⟩ : Wd w) hq; clear hq)
    go_ret
    exact ⟨rfl, y.q⟩
  have hl12 : l.length ≤ 12 := by omega
  have hpub := fun y : Wd w => publics_any SA sc sv y.w (hS0 y) (by omega)
  cases hp : pubLaw sv
  · rw [hp] at hpub
    clear hp
    go_enter Tryz.func6, Tryz.ntmps6
    go_wp2_with (first | (go_at_call 14; refine (small_any w hT).mono ?_; rintro e w' ⟨rfl, hq⟩; obtain ⟨y, rfl⟩ := Wd.next (⟨w, Q.refl w⟩ : Wd w) hq; clear hq) | (go_at_call 15; refine (hpub _).mono ?_; rintro e w' ⟨rfl, hq⟩; obtain ⟨y2, rfl⟩ := Wd.next _ hq; clear hq))
    go_ret
    exact ⟨rfl, y2.q⟩
  rw [hp] at hpub
  obtain ⟨hp1, hp2⟩ : publicsB sv = true ∧ sv.length ≤ 20 := by
    unfold pubLaw at hp
    rw [Bool.and_eq_true, decide_eq_true_eq] at hp
    exact hp
  clear hp
  have hnew := fun y : Wd w => new_any SA sc sv y.w (hS0 y) (by omega)
  have hfil := fun (k : KR) (y : Wd w) (hk : KIn y.w k) (h0 : k.l = []) (hs : k.sv = sv) => (show Calls Tryz.prog 16 #[.agg (knA k), .slice A l.length c] y.w (KnownIs sv (fillK sv [] l) y.w) by
    have := filled_any k A c l y.w (hT0 y) hk (hI0 y) (by rw [h0]; simp; omega)
    rwa [h0, hs] at this)
  go_enter Tryz.func6, Tryz.ntmps6
  go_upto_region 5 with (first | (go_at_call 14; refine (small_any w hT).mono ?_; rintro e w' ⟨rfl, hq⟩; obtain ⟨y, rfl⟩ := Wd.next (⟨w, Q.refl w⟩ : Wd w) hq; clear hq) | (go_at_call 15; refine (hpub _).mono ?_; rintro e w' ⟨rfl, hq⟩; obtain ⟨y2, rfl⟩ := Wd.next _ hq; clear hq) | (go_at_call 17; refine (hnew _).mono ?_; rintro e w' ⟨kn, rfl, hks, hkl, hkK, hq⟩; obtain ⟨y3, rfl⟩ := Wd.next _ hq; clear hq) | (go_at_call 16; refine (hfil kn y3 hkK hkl hks).mono ?_; rintro e w' ⟨ka, rfl, has, hal, haK, hq⟩; obtain ⟨y4, rfl⟩ := Wd.next _ hq; clear hq) | (refine wpList_store_blk (Blk.new y4.w 27 known0.cells.toArray) rfl 27 (.tmp 6) (.tmp 32) ka.cells rfl rfl rfl (by kernel_rfl) (kn_all _) (Nat.le_refl 2) ?_))
  intro W1 hB1 hbel1
  rw [splice_all _ _ (by rfl)] at hB1
  have hq1 : Q w W1 := hbel1 _ _ y4.q.size (Q.trans y4.q (q_new y4.w (knA known0) 27))
  have haK1 : KIn W1 ka := haK.q (hbel1 _ _ (Nat.le_refl _) (q_new y4.w (knA known0) 27))
  obtain ⟨ga, hga⟩ : ∃ ga, y4.w.heap.size = ga := ⟨_, rfl⟩
  rw [hga] at hB1
  rw [hga]
  have hFil : Filled sv (fillK sv [] l) := Filled.fill l (Filled.nil sv)
  have hLle := fillK_length sv l []
  rw [← hal] at hFil hLle
  simp only [List.length_nil, Nat.zero_add] at hLle
  have hTz : ∀ z : Wd W1, Tab z.w := fun z => hT0 ⟨z.w, Q.trans hq1 z.q⟩
  have hKz : ∀ z : Wd W1, KIn z.w ka := fun z => haK1.q z.q
  have hLa : ∀ z : Wd W1, (Instr.loadAt 27 (.pointer (some ⟨ga, 0, none⟩))).run Tryz.prog z.w = .ok (.agg (knA ka)) z.w := Wd.load hB1.lt (Blk.range hB1) Tryz.underlying27 rfl (by kernel_rfl)
  have hca : ∀ z : Wd W1, z.w.cell? ⟨ga, 1, none⟩ = some (.slice ka.iA ka.l.length ka.iC) := fun z => (z.blk hB1).cell 1
  have HQ1 := Lib.hid hq1
  clear hga hbel1 haK hkK hks hkl hnew hfil hpub hT0 hS0 hI0 hq1 haK1 hB1 has hal hp1
  obtain ⟨v1, hv1⟩ := Wd.first W1
  rw [hv1]
  clear hv1
  go_wp2_with fail
  go_loopw [7] (fun i wr => ∃ (j : Nat) (z : Wd W1), i = .int .i64 j ∧ wr = z.w ∧ j ≤ ka.l.length) (fun i _ => ka.l.length - (intOf i).toNat)
  case atStart => exact ⟨0, v1, rfl, rfl, Nat.zero_le _⟩
  case round =>
    obtain ⟨j, z, rfl, rfl, hj⟩ := hrel
    by_cases hlt : j < ka.l.length
    · obtain ⟨b, o, eA, hb, hld⟩ := (hKz z).items.load j hlt
      have hca2 : ∀ z : Wd W1, z.w.cell? ⟨ga, 1, none⟩ = some (.slice (some ⟨b, o, none⟩) ka.l.length ka.iC) := fun z => eA ▸ hca z
      have hit := List.getElem_mem hlt
      have hio := fun y : Wd W1 => (hKz y).items.each _ hit
      have hzs := z.q.size
      generalize ka.l[j] = it at *
      clear hca
      go_upto_region 9 with (first | (refine wpList_load_run 49 (.tmp 43) (.pointer (some ⟨b, o + j * 49, none⟩)) (.agg (itA it)) ?_ ?_ ?_ ?_ ?_; rfl; rfl; rfl; exact hld ⟨_, Q.refl _⟩) | (refine wpList_store_blk (Blk.new z.w 49 item0.cells.toArray) rfl 49 (.tmp 8) (.tmp 44) it.cells rfl rfl rfl (by kernel_rfl) (it_all _) (Nat.le_refl 49) ?_))
      intro W2 hB2 hbel2
      rw [splice_all _ _ (by rfl)] at hB2
      have hq12 : Q W1 W2 := hbel2 _ _ hzs (Q.trans z.q (q_new _ _ _))
      obtain ⟨gi, hgi⟩ : ∃ gi, z.w.heap.size = gi := ⟨_, rfl⟩
      rw [hgi] at hB2
      rw [hgi]
      clear hgi hbel2 hld hb
      have hRt := right_of hFil hit
      have hkd := kinds_of hRt
      have HP := Lib.hid (And.intro (partsA hFil hit) (And.intro (partsC hFil hit) (And.intro (partsB hFil hit) (partsD hFil hit))))
      have HRT := Lib.hid hRt
      have fT : ∀ z : Wd W2, Tab z.w := fun z => hTz ⟨z.w, Q.trans hq12 z.q⟩
      have fK : ∀ z : Wd W2, KIn z.w ka := fun z => hKz ⟨z.w, Q.trans hq12 z.q⟩
      have fL : ∀ z : Wd W2, (Instr.loadAt 27 (.pointer (some ⟨ga, 0, none⟩))).run Tryz.prog z.w = .ok (.agg (knA ka)) z.w := fun z => hLa ⟨z.w, Q.trans hq12 z.q⟩
      have fI : ∀ z : Wd W2, (Instr.loadAt 49 (.pointer (some ⟨gi, 0, none⟩))).run Tryz.prog z.w = .ok (.agg (itA it)) z.w := Wd.load hB2.lt (Blk.range hB2) Tryz.underlying49 rfl (by kernel_rfl)
      have fC : ∀ z : Wd W2, (Instr.loadAt 43 (.pointer (some ⟨gi, 21, none⟩))).run Tryz.prog z.w = .ok (.agg (claimA it.claim)) z.w := item_claim hB2.lt (Blk.range hB2)
      have fB : ∀ z : Wd W2, (Instr.loadAt 45 (.pointer (some ⟨gi, 30, none⟩))).run Tryz.prog z.w = .ok (.agg (ballotA it.ballot)) z.w := item_ballot hB2.lt (Blk.range hB2)
      have f0 : ∀ z : Wd W2, z.w.cell? ⟨gi, 0, none⟩ = some (.int .i64 it.kind) := fun z => (z.blk hB2).cell 0
      have f1 : ∀ z : Wd W2, z.w.cell? ⟨gi, 1, none⟩ = some (.string it.act.author) := fun z => (z.blk hB2).cell 1
      have f21 : ∀ z : Wd W2, z.w.cell? ⟨gi, 21, none⟩ = some (.string it.claim.actor) := fun z => (z.blk hB2).cell 21
      have f31 : ∀ z : Wd W2, z.w.cell? ⟨gi, 31, none⟩ = some (.string it.ballot.actor) := fun z => (z.blk hB2).cell 31
      have f32 : ∀ z : Wd W2, z.w.cell? ⟨gi, 32, none⟩ = some (.int .i64 it.ballot.gen) := fun z => (z.blk hB2).cell 32
      have f37 : ∀ z : Wd W2, z.w.cell? ⟨gi, 37, none⟩ = some (.int .i64 it.dec.server) := fun z => (z.blk hB2).cell 37
      have fO : ∀ z : Wd W2, ItemIn z.w it := fun z => hio ⟨z.w, Q.trans hq12 z.q⟩
      have HQ12 := Lib.hid hq12
      obtain ⟨v2, hv2⟩ := Wd.first W2
      rw [hv2]
      clear hv2 hB2 hq12 hio hit hRt
      have hacts := fun z : Wd W2 => allAc_any ka it.act.author z.w (fT z) (fK z) (by omega)
      have hclms := fun z : Wd W2 => allCl_any ka it.claim.actor z.w (fT z) (fK z) (by omega)
      have hblts := fun z : Wd W2 => ballots_any ka it.ballot.actor it.ballot.gen z.w (fT z) (fK z) (by omega)
      have hdecs := fun z : Wd W2 => allDe_any ka it.dec.server z.w (fT z) (fK z) (by omega)
      rcases hkd with hk | hk | hk | hk
      · obtain ⟨_, rc, rb, rd⟩ := right_act (HRT.out) hk
        rw [emptyC rc] at hclms
        rw [emptyB rb] at hblts
        clear rc rb rd
        go_upto_region 12 with (first | (refine wpList_load_run 27 (.tmp 6) (.pointer (some ⟨ga, 0, none⟩)) (.agg (knA ka)) ?_ ?_ ?_ ?_ ?_; rfl; rfl; rfl; exact fL _) | (go_at_call 29; refine (hacts _).mono ?_; rintro e W3 ⟨XA, xc, rfl, x1, x2, xR, hq⟩))
        have hq3 := Q.trans v2.q hq
        have HQ23 := Lib.hid hq3
        have fT := fun y : Wd W3 => fT ⟨y.w, Q.trans hq3 y.q⟩
        have fL := fun y : Wd W3 => fL ⟨y.w, Q.trans hq3 y.q⟩
        have fI := fun y : Wd W3 => fI ⟨y.w, Q.trans hq3 y.q⟩
        have fC := fun y : Wd W3 => fC ⟨y.w, Q.trans hq3 y.q⟩
        have fB := fun y : Wd W3 => fB ⟨y.w, Q.trans hq3 y.q⟩
        have f0 := fun y : Wd W3 => f0 ⟨y.w, Q.trans hq3 y.q⟩
        have f1 := fun y : Wd W3 => f1 ⟨y.w, Q.trans hq3 y.q⟩
        have f21 := fun y : Wd W3 => f21 ⟨y.w, Q.trans hq3 y.q⟩
        have f31 := fun y : Wd W3 => f31 ⟨y.w, Q.trans hq3 y.q⟩
        have f32 := fun y : Wd W3 => f32 ⟨y.w, Q.trans hq3 y.q⟩
        have f37 := fun y : Wd W3 => f37 ⟨y.w, Q.trans hq3 y.q⟩
        have fO := fun y : Wd W3 => fO ⟨y.w, Q.trans hq3 y.q⟩
        have hacts := fun y : Wd W3 => hacts ⟨y.w, Q.trans hq3 y.q⟩
        have hclms := fun y : Wd W3 => hclms ⟨y.w, Q.trans hq3 y.q⟩
        have hblts := fun y : Wd W3 => hblts ⟨y.w, Q.trans hq3 y.q⟩
        have hdecs := fun y : Wd W3 => hdecs ⟨y.w, Q.trans hq3 y.q⟩
        dsimp only at fT fL fI fC fB f0 f1 f21 f31 f32 f37 fO hacts hclms hblts hdecs
        have hmemX : ∀ a ∈ listAc it.act.author ka.l, a.author = it.act.author ∧ (∀ y : Wd W3, ActIn y.w a) ∧ a.to.length ≤ 1000000 ∧ a.wraps.length ≤ 1000000 := fun a ha => by
          obtain ⟨x, hx, rfl, hr, hkx, hau⟩ := memA ha
          have hsx := act_small (right_act hr hkx).1
          exact ⟨hau, fun y => ((fK ⟨y.w, Q.trans hq3 y.q⟩).items.each x hx).act, by have := hsx.to; omega, by have := hsx.wraps; omega⟩
        have hascX : ∀ (m : Nat) (hm : m < (listAc it.act.author ka.l).length), lastR ActR.seq (listAc it.act.author ka.l) m ≤ ActR.seq (listAc it.act.author ka.l)[m] := fun m hm => ascA it.act.author m hm
        have honeX := HP.out.1 hk
        have xRy : ∀ y : Wd W3, RowsAt y.w XA 20 ActR.cells (listAc it.act.author ka.l) := fun y => xR.q y.q
        have hxl : (listAc it.act.author ka.l).length ≤ 9223372036854775807 := by omega
        generalize listAc it.act.author ka.l = LX at *
        obtain ⟨z0, hz0⟩ := Wd.first W3
        rw [hz0]
        clear hz0 xR hq hq3 hacts
        go_wp2_with fail
        go_loopw [9, 10, 12] (fun n t i wr => ∃ (m : Nat) (z3 : Wd W3), n = .int .i64 (cntK (fun a => (itAct a).same it) LX m : Nat) ∧ t = .int .i64 (lastR ActR.seq LX m) ∧ i = .int .i64 m ∧ wr = z3.w ∧ m ≤ LX.length) (fun _ _ i _ => LX.length - (intOf i).toNat)
        case atStart => exact ⟨0, z0, rfl, rfl, rfl, rfl, Nat.zero_le _⟩
        case round =>
          obtain ⟨m, z3, rfl, rfl, rfl, rfl, hm⟩ := hrel
          by_cases hmt : m < LX.length
          · obtain ⟨b3, o3, eX, hb3, hc3⟩ := xRy z3 (by omega)
            have hrg := hc3 m hmt
            have hmem := hmemX LX[m] (List.getElem_mem hmt)
            have hnl : ¬ ActR.seq LX[m] < lastR ActR.seq LX m := by have := hascX m hmt; omega
            have HCS := Lib.hid (cntK_step (fun a => (itAct a).same it) LX m hmt)
            have HLS := Lib.hid (lastR_step ActR.seq LX m hmt)
            have hcle := cntK_le (fun a => (itAct a).same it) LX m
            clear hc3
            generalize LX[m] = ax at *
            generalize lastR ActR.seq LX m = T at *
            generalize cntK (fun a => (itAct a).same it) LX m = C at *
            have cS : ∀ y : Wd z3.w, y.w.cell? ⟨b3, o3 + m * 20 + 1, none⟩ = some (.int .i64 (ActR.seq ax)) := Wd.get hb3 hrg 1 rfl
            have cS : ∀ y : Wd z3.w, y.w.cell? ⟨b3, o3 + m * 20 + 1, none⟩ = some (.int .i64 ax.seq) := cS
            have cU : ∀ y : Wd z3.w, y.w.cell? ⟨b3, o3 + m * 20, none⟩ = some (.string it.act.author) := fun y => by have := Wd.get hb3 hrg 0 (v := .string ax.author) rfl y; rw [hmem.1] at this; exact this
            have hnl : ¬ ax.seq < T := hnl
            have hLd : ∀ y : Wd z3.w, (Instr.loadAt 41 (.pointer (some ⟨b3, o3 + m * 20, none⟩))).run Tryz.prog y.w = .ok (.agg (actA ax)) y.w := Wd.load hb3 hrg Tryz.underlying41 rfl (by kernel_rfl)
            have fIz := fun y : Wd z3.w => fI ⟨y.w, Q.trans z3.q y.q⟩
            have f0z := fun y : Wd z3.w => f0 ⟨y.w, Q.trans z3.q y.q⟩
            have f1z := fun y : Wd z3.w => f1 ⟨y.w, Q.trans z3.q y.q⟩
            have fOz := fun y : Wd z3.w => fO ⟨y.w, Q.trans z3.q y.q⟩
            dsimp only at fIz f0z f1z fOz
            have hin := fun y : Wd z3.w => hmem.2.1 ⟨y.w, Q.trans z3.q y.q⟩
            dsimp only at hin
            obtain ⟨v3, hv3⟩ := Wd.first z3.w
            rw [eX, hv3]
            clear hv3
            go_upto_region 15 with (fail)
            refine wp_region_reads (S := fun z => ∃ y : Wd z3.w, z = y.w) 4 (by kernel_rfl) (by kernel_rfl) (by intro c a d v w h; cases d <;> exact h) ⟨⟨_, v3.q.drew⟩, rfl⟩ ?_
            simp only [List.take_succ_cons, List.take_zero]
            go_big_quiet_step (fail)
            go_big_quiet_step (fail)
            go_big_quiet_step (fail)
            refine wpQuiet_load_S 41 (.tmp 63) (.pointer (some ⟨b3, o3 + m * 20, none⟩)) (.agg (actA ax)) rfl rfl rfl (by rintro z ⟨y, rfl⟩; exact hLd y) ?_
            dsimp only [Act.put]
            simp only [List.setIfInBounds_toArray, List.set_cons_succ, List.set_cons_zero]
            refine wpQuiet_nil ?_
            rintro w4 ⟨y3, rfl⟩
            refine held_read 5 (v := .agg (itA it)) rfl (by kernel_rfl) (by kernel_rfl) (by kernel_rfl) (by intro c a d v w h; cases d <;> exact h) rfl ⟨y3, rfl⟩ (fun z hz => exec_load 49 (.tmp 8) _ _ rfl rfl (by obtain ⟨y, rfl⟩ := hz; exact fIz y)) ?_
            try simp only [Act.put, List.setIfInBounds_toArray, List.set_cons_succ, List.set_cons_zero]
            refine held_one 4 rfl (by kernel_rfl) rfl (fun K' hK' => ?_)
            go_simp
            refine (ofAct_any ax y3.w (hin y3) hmem.2.2.1 hmem.2.2.2).mono ?_
            rintro e w' ⟨a', rfl, hsm, hin', hq⟩
            obtain ⟨y4, rfl⟩ := Wd.next y3 hq
            refine hK' _ _ ⟨y4, rfl⟩ ?_
            clear hK' K' hq
            try simp only [Act.put, List.setIfInBounds_toArray, List.set_cons_succ, List.set_cons_zero]
            refine held_one 6 rfl (by kernel_rfl) rfl (fun K' hK' => ?_)
            go_simp
            refine (itemSame_any (itAct a') it y4.w hin' (fOz y4)).mono ?_
            rintro e w' ⟨rfl, hq⟩
            rw [itAct_same hsm it]
            obtain ⟨y5, rfl⟩ := Wd.next y4 hq
            refine hK' _ _ ⟨y5, rfl⟩ ?_
            clear hK' K' hq
            try simp only [Act.put, List.setIfInBounds_toArray, List.set_cons_succ, List.set_cons_zero]
            refine wpAnyH_done (by kernel_rfl) ?_ _
            have HCS2 : Hid (cntK (fun a => (itAct a).same it) LX (m + 1) = C + if (itAct ax).same it = true then 1 else 0) := HCS
            clear HCS
            cases hs : (itAct ax).same it
            all_goals
              rw [hs] at HCS2
              go_upto_region 17 with (fail)
              refine wp_region_wd y5 (by kernel_rfl) (by kernel_rfl) ?_
              repeat (go_big_quiet_step (fail))
              refine wpQuiet_nil ?_
              rintro w6 ⟨y6, rfl⟩
              go_wp2_with fail
              exact ⟨⟨m + 1, ⟨y6.w, Q.trans z3.q y6.q⟩, by rw [HCS2.out]; first | rfl | go_num, by rw [HLS.out], by go_num, rfl, by omega⟩, by simp only [intOf]; omega⟩
          · have hmn : m = LX.length := by omega
            have HN1 := Lib.hid (show cntK (fun a => (itAct a).same it) LX m = 1 by rw [hmn, cntK_all]; exact honeX)
            rw [HN1.out]
            generalize lastR ActR.seq LX m = T at *
            have hdl : ¬ m < LX.length := hmt
            clear hmemX hascX honeX xRy
            go_upto_region 21 with (first | (refine wpList_load_run 27 (.tmp 6) (.pointer (some ⟨ga, 0, none⟩)) (.agg (knA ka)) ?_ ?_ ?_ ?_ ?_; rfl; rfl; rfl; exact fL _) | (go_at_call 31; refine (hclms _).mono ?_; rintro e w' ⟨XB, xd, rfl, -, -, -, hq⟩; obtain ⟨y5, rfl⟩ := Wd.next _ hq; clear hq))
            go_wp2_with fail
            refine wp_loop_rounds 1 ?_
            rw [rounds_succ]
            go_upto_region 27 with (first | (refine wpList_load_run 27 (.tmp 6) (.pointer (some ⟨ga, 0, none⟩)) (.agg (knA ka)) ?_ ?_ ?_ ?_ ?_; rfl; rfl; rfl; exact fL _) | (go_at_call 33; refine (hblts _).mono ?_; rintro e w' ⟨XB, xd, rfl, -, -, -, hq⟩; obtain ⟨y6, rfl⟩ := Wd.next _ hq; clear hq))
            go_wp2_with fail
            refine wp_loop_rounds 1 ?_
            rw [rounds_succ]
            have hdz : ∀ z : Wd W3, (listDe it.dec.server ka.l).length ≤ 9223372036854775807 := fun z => Nat.le_trans (show _ ≤ ka.l.length from listDe_le _ _) (by omega)
            have hdz := hdz y6
            go_upto_region 33 with (first | (refine wpList_load_run 27 (.tmp 6) (.pointer (some ⟨ga, 0, none⟩)) (.agg (knA ka)) ?_ ?_ ?_ ?_ ?_; rfl; rfl; rfl; exact fL _) | (go_at_call 35; refine (hdecs _).mono ?_; rintro e w' ⟨XD, xe, rfl, -, -, -, hq⟩; obtain ⟨yD, rfl⟩ := Wd.next _ hq; clear hq))
            clear hacts hclms hblts hdecs
            generalize (listDe it.dec.server ka.l).length = nD at *
            go_wp2_with fail
            refine wp_loop_rounds 1 ?_
            rw [rounds_succ]
            by_cases hnD : 0 < nD
            all_goals
              go_wp2_with fail
              exact ⟨⟨j + 1, ⟨yD.w, Q.trans HQ12.out (Q.trans HQ23.out yD.q)⟩, by go_num, rfl, by omega⟩, by simp only [intOf]; omega⟩
      · obtain ⟨_, ra, rb, rd⟩ := right_claim (HRT.out) hk
        rw [emptyA ra] at hacts
        rw [emptyB rb] at hblts
        clear ra rb rd
        go_upto_region 12 with (first | (refine wpList_load_run 27 (.tmp 6) (.pointer (some ⟨ga, 0, none⟩)) (.agg (knA ka)) ?_ ?_ ?_ ?_ ?_; rfl; rfl; rfl; exact fL _) | (go_at_call 29; refine (hacts _).mono ?_; rintro e w' ⟨XB, xd, rfl, -, -, -, hq⟩; obtain ⟨y3, rfl⟩ := Wd.next _ hq; clear hq))
        go_wp2_with fail
        refine wp_loop_rounds 1 ?_
        rw [rounds_succ]
        go_upto_region 21 with (first | (refine wpList_load_run 27 (.tmp 6) (.pointer (some ⟨ga, 0, none⟩)) (.agg (knA ka)) ?_ ?_ ?_ ?_ ?_; rfl; rfl; rfl; exact fL _) | (go_at_call 31; refine (hclms _).mono ?_; rintro e W3 ⟨XA, xc, rfl, x1, x2, xR, hq⟩))
        have hq3 := Q.trans y3.q hq
        have HQ23 := Lib.hid hq3
        have fT := fun y : Wd W3 => fT ⟨y.w, Q.trans hq3 y.q⟩
        have fL := fun y : Wd W3 => fL ⟨y.w, Q.trans hq3 y.q⟩
        have fI := fun y : Wd W3 => fI ⟨y.w, Q.trans hq3 y.q⟩
        have fC := fun y : Wd W3 => fC ⟨y.w, Q.trans hq3 y.q⟩
        have fB := fun y : Wd W3 => fB ⟨y.w, Q.trans hq3 y.q⟩
        have f0 := fun y : Wd W3 => f0 ⟨y.w, Q.trans hq3 y.q⟩
        have f1 := fun y : Wd W3 => f1 ⟨y.w, Q.trans hq3 y.q⟩
        have f21 := fun y : Wd W3 => f21 ⟨y.w, Q.trans hq3 y.q⟩
        have f31 := fun y : Wd W3 => f31 ⟨y.w, Q.trans hq3 y.q⟩
        have f32 := fun y : Wd W3 => f32 ⟨y.w, Q.trans hq3 y.q⟩
        have f37 := fun y : Wd W3 => f37 ⟨y.w, Q.trans hq3 y.q⟩
        have fO := fun y : Wd W3 => fO ⟨y.w, Q.trans hq3 y.q⟩
        have hacts := fun y : Wd W3 => hacts ⟨y.w, Q.trans hq3 y.q⟩
        have hclms := fun y : Wd W3 => hclms ⟨y.w, Q.trans hq3 y.q⟩
        have hblts := fun y : Wd W3 => hblts ⟨y.w, Q.trans hq3 y.q⟩
        have hdecs := fun y : Wd W3 => hdecs ⟨y.w, Q.trans hq3 y.q⟩
        dsimp only at fT fL fI fC fB f0 f1 f21 f31 f32 f37 fO hacts hclms hblts hdecs
        have honeX := HP.out.2.1 hk
        have xRy : ∀ y : Wd W3, RowsAt y.w XA 9 ClaimV.cells (listCl it.claim.actor ka.l) := fun y => xR.q y.q
        have hxl : (listCl it.claim.actor ka.l).length ≤ 9223372036854775807 := by omega
        generalize listCl it.claim.actor ka.l = LX at *
        obtain ⟨z0, hz0⟩ := Wd.first W3
        rw [hz0]
        clear hz0 xR hq hq3 hclms
        go_wp2_with fail
        go_loopw [9, 14] (fun n i wr => ∃ (m : Nat) (z3 : Wd W3), n = .int .i64 (cntK (fun a => a.same it.claim) LX m : Nat) ∧ i = .int .i64 m ∧ wr = z3.w ∧ m ≤ LX.length) (fun _ i _ => LX.length - (intOf i).toNat)
        case atStart => exact ⟨0, z0, rfl, rfl, rfl, Nat.zero_le _⟩
        case round =>
          obtain ⟨m, z3, rfl, rfl, rfl, hm⟩ := hrel
          by_cases hmt : m < LX.length
          · obtain ⟨b3, o3, eX, hb3, hc3⟩ := xRy z3 (by omega)
            have hrg := hc3 m hmt
            have HCS := Lib.hid (cntK_step (fun a => a.same it.claim) LX m hmt)
            have hcle := cntK_le (fun a => a.same it.claim) LX m
            clear hc3
            generalize LX[m] = ax at *
            generalize cntK (fun a => a.same it.claim) LX m = C at *
            have hLd : ∀ y : Wd z3.w, (Instr.loadAt 43 (.pointer (some ⟨b3, o3 + m * 9, none⟩))).run Tryz.prog y.w = .ok (.agg (claimA ax)) y.w := Wd.load hb3 hrg Tryz.underlying43 rfl (by kernel_rfl)
            have fCz := fun y : Wd z3.w => fC ⟨y.w, Q.trans z3.q y.q⟩
            have f0z := fun y : Wd z3.w => f0 ⟨y.w, Q.trans z3.q y.q⟩
            dsimp only at fCz f0z
            have heq := fun w => claimEq ax it.claim w
            obtain ⟨v3, hv3⟩ := Wd.first z3.w
            rw [eX, hv3]
            clear hv3
            go_upto_region 24 with (fail)
            refine wp_region_wd v3 (by kernel_rfl) (by kernel_rfl) ?_
            repeat (first | (refine wpQuiet_load_run 43 (.tmp 111) (.pointer (some ⟨b3, o3 + m * 9, none⟩)) (.agg (claimA ax)) ?_ ?_ ?_ ?_ ?_; rfl; rfl; rfl; exact hLd; dsimp only [Act.put]; simp only [List.setIfInBounds_toArray, List.set_cons_succ, List.set_cons_zero]) | (refine wpQuiet_load_run 43 (.tmp 113) (.pointer (some ⟨gi, 21, none⟩)) (.agg (claimA it.claim)) ?_ ?_ ?_ ?_ ?_; rfl; rfl; rfl; exact fCz; dsimp only [Act.put]; simp only [List.setIfInBounds_toArray, List.set_cons_succ, List.set_cons_zero]) | go_big_quiet_step (fail))
            refine wpQuiet_nil ?_
            rintro w5 ⟨y5, rfl⟩
            have HCS2 : Hid (cntK (fun a => a.same it.claim) LX (m + 1) = C + if ax.same it.claim = true then 1 else 0) := HCS
            clear HCS
            cases hs : ax.same it.claim
            all_goals
              rw [hs] at HCS2
              go_wp2_with fail
              exact ⟨⟨m + 1, ⟨y5.w, Q.trans z3.q y5.q⟩, by rw [HCS2.out]; first | rfl | go_num, by go_num, rfl, by omega⟩, by simp only [intOf]; omega⟩
          · have hmn : m = LX.length := by omega
            have HN1 := Lib.hid (show cntK (fun a => a.same it.claim) LX m = 1 by rw [hmn, cntK_all]; exact honeX)
            rw [HN1.out]
            have hdl : ¬ m < LX.length := hmt
            clear honeX xRy
            go_upto_region 27 with (first | (refine wpList_load_run 27 (.tmp 6) (.pointer (some ⟨ga, 0, none⟩)) (.agg (knA ka)) ?_ ?_ ?_ ?_ ?_; rfl; rfl; rfl; exact fL _) | (go_at_call 33; refine (hblts _).mono ?_; rintro e w' ⟨XB, xd, rfl, -, -, -, hq⟩; obtain ⟨y6, rfl⟩ := Wd.next _ hq; clear hq))
            go_wp2_with fail
            refine wp_loop_rounds 1 ?_
            rw [rounds_succ]
            have hdz : ∀ z : Wd W3, (listDe it.dec.server ka.l).length ≤ 9223372036854775807 := fun z => Nat.le_trans (show _ ≤ ka.l.length from listDe_le _ _) (by omega)
            have hdz := hdz y6
            go_upto_region 33 with (first | (refine wpList_load_run 27 (.tmp 6) (.pointer (some ⟨ga, 0, none⟩)) (.agg (knA ka)) ?_ ?_ ?_ ?_ ?_; rfl; rfl; rfl; exact fL _) | (go_at_call 35; refine (hdecs _).mono ?_; rintro e w' ⟨XD, xe, rfl, -, -, -, hq⟩; obtain ⟨yD, rfl⟩ := Wd.next _ hq; clear hq))
            clear hacts hclms hblts hdecs
            generalize (listDe it.dec.server ka.l).length = nD at *
            go_wp2_with fail
            refine wp_loop_rounds 1 ?_
            rw [rounds_succ]
            by_cases hnD : 0 < nD
            all_goals
              go_wp2_with fail
              exact ⟨⟨j + 1, ⟨yD.w, Q.trans HQ12.out (Q.trans HQ23.out yD.q)⟩, by go_num, rfl, by omega⟩, by simp only [intOf]; omega⟩
      · obtain ⟨_, ra, rc, rd⟩ := right_ballot (HRT.out) hk
        rw [emptyA ra] at hacts
        rw [emptyC rc] at hclms
        clear ra rc rd
        go_upto_region 12 with (first | (refine wpList_load_run 27 (.tmp 6) (.pointer (some ⟨ga, 0, none⟩)) (.agg (knA ka)) ?_ ?_ ?_ ?_ ?_; rfl; rfl; rfl; exact fL _) | (go_at_call 29; refine (hacts _).mono ?_; rintro e w' ⟨XB, xd, rfl, -, -, -, hq⟩; obtain ⟨y3, rfl⟩ := Wd.next _ hq; clear hq))
        go_wp2_with fail
        refine wp_loop_rounds 1 ?_
        rw [rounds_succ]
        go_upto_region 21 with (first | (refine wpList_load_run 27 (.tmp 6) (.pointer (some ⟨ga, 0, none⟩)) (.agg (knA ka)) ?_ ?_ ?_ ?_ ?_; rfl; rfl; rfl; exact fL _) | (go_at_call 31; refine (hclms _).mono ?_; rintro e w' ⟨XB, xd, rfl, -, -, -, hq⟩; obtain ⟨y4, rfl⟩ := Wd.next _ hq; clear hq))
        go_wp2_with fail
        refine wp_loop_rounds 1 ?_
        rw [rounds_succ]
        go_upto_region 27 with (first | (refine wpList_load_run 27 (.tmp 6) (.pointer (some ⟨ga, 0, none⟩)) (.agg (knA ka)) ?_ ?_ ?_ ?_ ?_; rfl; rfl; rfl; exact fL _) | (go_at_call 33; refine (hblts _).mono ?_; rintro e W3 ⟨XA, xc, rfl, x1, x2, xR, hq⟩))
        have hq3 := Q.trans y4.q hq
        have HQ23 := Lib.hid hq3
        have fT := fun y : Wd W3 => fT ⟨y.w, Q.trans hq3 y.q⟩
        have fL := fun y : Wd W3 => fL ⟨y.w, Q.trans hq3 y.q⟩
        have fI := fun y : Wd W3 => fI ⟨y.w, Q.trans hq3 y.q⟩
        have fC := fun y : Wd W3 => fC ⟨y.w, Q.trans hq3 y.q⟩
        have fB := fun y : Wd W3 => fB ⟨y.w, Q.trans hq3 y.q⟩
        have f0 := fun y : Wd W3 => f0 ⟨y.w, Q.trans hq3 y.q⟩
        have f1 := fun y : Wd W3 => f1 ⟨y.w, Q.trans hq3 y.q⟩
        have f21 := fun y : Wd W3 => f21 ⟨y.w, Q.trans hq3 y.q⟩
        have f31 := fun y : Wd W3 => f31 ⟨y.w, Q.trans hq3 y.q⟩
        have f32 := fun y : Wd W3 => f32 ⟨y.w, Q.trans hq3 y.q⟩
        have f37 := fun y : Wd W3 => f37 ⟨y.w, Q.trans hq3 y.q⟩
        have fO := fun y : Wd W3 => fO ⟨y.w, Q.trans hq3 y.q⟩
        have hacts := fun y : Wd W3 => hacts ⟨y.w, Q.trans hq3 y.q⟩
        have hclms := fun y : Wd W3 => hclms ⟨y.w, Q.trans hq3 y.q⟩
        have hblts := fun y : Wd W3 => hblts ⟨y.w, Q.trans hq3 y.q⟩
        have hdecs := fun y : Wd W3 => hdecs ⟨y.w, Q.trans hq3 y.q⟩
        dsimp only at fT fL fI fC fB f0 f1 f21 f31 f32 f37 fO hacts hclms hblts hdecs
        have honeX := HP.out.2.2.1 hk
        have xRy : ∀ y : Wd W3, RowsAt y.w XA 7 BallotV.cells (ballotsK it.ballot.actor it.ballot.gen ka.l) := fun y => xR.q y.q
        have hxl : (ballotsK it.ballot.actor it.ballot.gen ka.l).length ≤ 9223372036854775807 := by omega
        generalize ballotsK it.ballot.actor it.ballot.gen ka.l = LX at *
        obtain ⟨z0, hz0⟩ := Wd.first W3
        rw [hz0]
        clear hz0 xR hq hq3 hblts
        go_wp2_with fail
        go_loopw [9, 16] (fun n i wr => ∃ (m : Nat) (z3 : Wd W3), n = .int .i64 (cntK (fun a => a.same it.ballot) LX m : Nat) ∧ i = .int .i64 m ∧ wr = z3.w ∧ m ≤ LX.length) (fun _ i _ => LX.length - (intOf i).toNat)
        case atStart => exact ⟨0, z0, rfl, rfl, rfl, Nat.zero_le _⟩
        case round =>
          obtain ⟨m, z3, rfl, rfl, rfl, hm⟩ := hrel
          by_cases hmt : m < LX.length
          · obtain ⟨b3, o3, eX, hb3, hc3⟩ := xRy z3 (by omega)
            have hrg := hc3 m hmt
            have HCS := Lib.hid (cntK_step (fun a => a.same it.ballot) LX m hmt)
            have hcle := cntK_le (fun a => a.same it.ballot) LX m
            clear hc3
            generalize LX[m] = ax at *
            generalize cntK (fun a => a.same it.ballot) LX m = C at *
            have hLd : ∀ y : Wd z3.w, (Instr.loadAt 45 (.pointer (some ⟨b3, o3 + m * 7, none⟩))).run Tryz.prog y.w = .ok (.agg (ballotA ax)) y.w := Wd.load hb3 hrg Tryz.underlying45 rfl (by kernel_rfl)
            have fBz := fun y : Wd z3.w => fB ⟨y.w, Q.trans z3.q y.q⟩
            have f0z := fun y : Wd z3.w => f0 ⟨y.w, Q.trans z3.q y.q⟩
            dsimp only at fBz f0z
            have heq := fun w => ballotEq ax it.ballot w
            obtain ⟨v3, hv3⟩ := Wd.first z3.w
            rw [eX, hv3]
            clear hv3
            go_upto_region 30 with (fail)
            refine wp_region_wd v3 (by kernel_rfl) (by kernel_rfl) ?_
            repeat (first | (refine wpQuiet_load_run 45 (.tmp 139) (.pointer (some ⟨b3, o3 + m * 7, none⟩)) (.agg (ballotA ax)) ?_ ?_ ?_ ?_ ?_; rfl; rfl; rfl; exact hLd; dsimp only [Act.put]; simp only [List.setIfInBounds_toArray, List.set_cons_succ, List.set_cons_zero]) | (refine wpQuiet_load_run 45 (.tmp 141) (.pointer (some ⟨gi, 30, none⟩)) (.agg (ballotA it.ballot)) ?_ ?_ ?_ ?_ ?_; rfl; rfl; rfl; exact fBz; dsimp only [Act.put]; simp only [List.setIfInBounds_toArray, List.set_cons_succ, List.set_cons_zero]) | go_big_quiet_step (fail))
            refine wpQuiet_nil ?_
            rintro w5 ⟨y5, rfl⟩
            have HCS2 : Hid (cntK (fun a => a.same it.ballot) LX (m + 1) = C + if ax.same it.ballot = true then 1 else 0) := HCS
            clear HCS
            cases hs : ax.same it.ballot
            all_goals
              rw [hs] at HCS2
              go_wp2_with fail
              exact ⟨⟨m + 1, ⟨y5.w, Q.trans z3.q y5.q⟩, by rw [HCS2.out]; first | rfl | go_num, by go_num, rfl, by omega⟩, by simp only [intOf]; omega⟩
          · have hmn : m = LX.length := by omega
            have HN1 := Lib.hid (show cntK (fun a => a.same it.ballot) LX m = 1 by rw [hmn, cntK_all]; exact honeX)
            rw [HN1.out]
            have hdl : ¬ m < LX.length := hmt
            clear honeX xRy
            have hdz : ∀ z : Wd W3, (listDe it.dec.server ka.l).length ≤ 9223372036854775807 := fun z => Nat.le_trans (show _ ≤ ka.l.length from listDe_le _ _) (by omega)
            have hdz := hdz z3
            go_upto_region 33 with (first | (refine wpList_load_run 27 (.tmp 6) (.pointer (some ⟨ga, 0, none⟩)) (.agg (knA ka)) ?_ ?_ ?_ ?_ ?_; rfl; rfl; rfl; exact fL _) | (go_at_call 35; refine (hdecs _).mono ?_; rintro e w' ⟨XD, xe, rfl, -, -, -, hq⟩; obtain ⟨yD, rfl⟩ := Wd.next _ hq; clear hq))
            clear hacts hclms hblts hdecs
            generalize (listDe it.dec.server ka.l).length = nD at *
            go_wp2_with fail
            refine wp_loop_rounds 1 ?_
            rw [rounds_succ]
            by_cases hnD : 0 < nD
            all_goals
              go_wp2_with fail
              exact ⟨⟨j + 1, ⟨yD.w, Q.trans HQ12.out (Q.trans HQ23.out yD.q)⟩, by go_num, rfl, by omega⟩, by simp only [intOf]; omega⟩
      · obtain ⟨_, ra, rc, rb⟩ := right_dec (HRT.out) hk
        rw [emptyA ra] at hacts
        rw [emptyC rc] at hclms
        rw [emptyB rb] at hblts
        clear ra rc rb
        go_upto_region 12 with (first | (refine wpList_load_run 27 (.tmp 6) (.pointer (some ⟨ga, 0, none⟩)) (.agg (knA ka)) ?_ ?_ ?_ ?_ ?_; rfl; rfl; rfl; exact fL _) | (go_at_call 29; refine (hacts _).mono ?_; rintro e w' ⟨XB, xd, rfl, -, -, -, hq⟩; obtain ⟨y3, rfl⟩ := Wd.next _ hq; clear hq))
        go_wp2_with fail
        refine wp_loop_rounds 1 ?_
        rw [rounds_succ]
        go_upto_region 21 with (first | (refine wpList_load_run 27 (.tmp 6) (.pointer (some ⟨ga, 0, none⟩)) (.agg (knA ka)) ?_ ?_ ?_ ?_ ?_; rfl; rfl; rfl; exact fL _) | (go_at_call 31; refine (hclms _).mono ?_; rintro e w' ⟨XB, xd, rfl, -, -, -, hq⟩; obtain ⟨y4, rfl⟩ := Wd.next _ hq; clear hq))
        go_wp2_with fail
        refine wp_loop_rounds 1 ?_
        rw [rounds_succ]
        go_upto_region 27 with (first | (refine wpList_load_run 27 (.tmp 6) (.pointer (some ⟨ga, 0, none⟩)) (.agg (knA ka)) ?_ ?_ ?_ ?_ ?_; rfl; rfl; rfl; exact fL _) | (go_at_call 33; refine (hblts _).mono ?_; rintro e w' ⟨XB, xd, rfl, -, -, -, hq⟩; obtain ⟨y5, rfl⟩ := Wd.next _ hq; clear hq))
        go_wp2_with fail
        refine wp_loop_rounds 1 ?_
        rw [rounds_succ]
        go_upto_region 33 with (first | (refine wpList_load_run 27 (.tmp 6) (.pointer (some ⟨ga, 0, none⟩)) (.agg (knA ka)) ?_ ?_ ?_ ?_ ?_; rfl; rfl; rfl; exact fL _) | (go_at_call 35; refine (hdecs _).mono ?_; rintro e W3 ⟨XA, xc, rfl, x1, x2, xR, hq⟩))
        have hq3 := Q.trans y5.q hq
        have HQ23 := Lib.hid hq3
        have fT := fun y : Wd W3 => fT ⟨y.w, Q.trans hq3 y.q⟩
        have fL := fun y : Wd W3 => fL ⟨y.w, Q.trans hq3 y.q⟩
        have fI := fun y : Wd W3 => fI ⟨y.w, Q.trans hq3 y.q⟩
        have fC := fun y : Wd W3 => fC ⟨y.w, Q.trans hq3 y.q⟩
        have fB := fun y : Wd W3 => fB ⟨y.w, Q.trans hq3 y.q⟩
        have f0 := fun y : Wd W3 => f0 ⟨y.w, Q.trans hq3 y.q⟩
        have f1 := fun y : Wd W3 => f1 ⟨y.w, Q.trans hq3 y.q⟩
        have f21 := fun y : Wd W3 => f21 ⟨y.w, Q.trans hq3 y.q⟩
        have f31 := fun y : Wd W3 => f31 ⟨y.w, Q.trans hq3 y.q⟩
        have f32 := fun y : Wd W3 => f32 ⟨y.w, Q.trans hq3 y.q⟩
        have f37 := fun y : Wd W3 => f37 ⟨y.w, Q.trans hq3 y.q⟩
        have fO := fun y : Wd W3 => fO ⟨y.w, Q.trans hq3 y.q⟩
        have hacts := fun y : Wd W3 => hacts ⟨y.w, Q.trans hq3 y.q⟩
        have hclms := fun y : Wd W3 => hclms ⟨y.w, Q.trans hq3 y.q⟩
        have hblts := fun y : Wd W3 => hblts ⟨y.w, Q.trans hq3 y.q⟩
        have hdecs := fun y : Wd W3 => hdecs ⟨y.w, Q.trans hq3 y.q⟩
        dsimp only at fT fL fI fC fB f0 f1 f21 f31 f32 f37 fO hacts hclms hblts hdecs
        have honeX := HP.out.2.2.2 hk
        have hmemX : ∀ a ∈ listDe it.dec.server ka.l, True ∧ (∀ y : Wd W3, DecIn y.w a) ∧ a.to.length ≤ 1000000 := fun a ha => by
          obtain ⟨x, hx, rfl, hr, hkx⟩ := memD ha
          exact ⟨trivial, fun y => ((fK ⟨y.w, Q.trans hq3 y.q⟩).items.each x hx).dec, dec_to hr hkx⟩
        have hascX : ∀ (m : Nat) (hm : m < (listDe it.dec.server ka.l).length), lastR DecR.number (listDe it.dec.server ka.l) m ≤ DecR.number (listDe it.dec.server ka.l)[m] := fun m hm => ascD it.dec.server m hm
        have xRy : ∀ y : Wd W3, RowsAt y.w XA 12 DecR.cells (listDe it.dec.server ka.l) := fun y => xR.q y.q
        have hxl : (listDe it.dec.server ka.l).length ≤ 9223372036854775807 := by omega
        generalize listDe it.dec.server ka.l = LX at *
        obtain ⟨z0, hz0⟩ := Wd.first W3
        rw [hz0]
        clear hz0 xR hq hq3 hdecs
        go_wp2_with fail
        go_loopw [9, 10, 18] (fun n t i wr => ∃ (m : Nat) (z3 : Wd W3), n = .int .i64 (cntK (fun a => (itDec a).same it) LX m : Nat) ∧ t = .int .i64 (lastR DecR.number LX m) ∧ i = .int .i64 m ∧ wr = z3.w ∧ m ≤ LX.length) (fun _ _ i _ => LX.length - (intOf i).toNat)
        case atStart => exact ⟨0, z0, rfl, rfl, rfl, rfl, Nat.zero_le _⟩
        case round =>
          obtain ⟨m, z3, rfl, rfl, rfl, rfl, hm⟩ := hrel
          by_cases hmt : m < LX.length
          · obtain ⟨b3, o3, eX, hb3, hc3⟩ := xRy z3 (by omega)
            have hrg := hc3 m hmt
            have hmem := hmemX LX[m] (List.getElem_mem hmt)
            have hnl : ¬ DecR.number LX[m] < lastR DecR.number LX m := by have := hascX m hmt; omega
            have HCS := Lib.hid (cntK_step (fun a => (itDec a).same it) LX m hmt)
            have HLS := Lib.hid (lastR_step DecR.number LX m hmt)
            have hcle := cntK_le (fun a => (itDec a).same it) LX m
            clear hc3
            generalize LX[m] = ax at *
            generalize lastR DecR.number LX m = T at *
            generalize cntK (fun a => (itDec a).same it) LX m = C at *
            have cS : ∀ y : Wd z3.w, y.w.cell? ⟨b3, o3 + m * 12 + 1, none⟩ = some (.int .i64 (DecR.number ax)) := Wd.get hb3 hrg 1 rfl
            have cS : ∀ y : Wd z3.w, y.w.cell? ⟨b3, o3 + m * 12 + 1, none⟩ = some (.int .i64 ax.number) := cS
            have hnl : ¬ ax.number < T := hnl
            have hLd : ∀ y : Wd z3.w, (Instr.loadAt 47 (.pointer (some ⟨b3, o3 + m * 12, none⟩))).run Tryz.prog y.w = .ok (.agg (decA ax)) y.w := Wd.load hb3 hrg Tryz.underlying47 rfl (by kernel_rfl)
            have fIz := fun y : Wd z3.w => fI ⟨y.w, Q.trans z3.q y.q⟩
            have f0z := fun y : Wd z3.w => f0 ⟨y.w, Q.trans z3.q y.q⟩
            have f1z := fun y : Wd z3.w => f1 ⟨y.w, Q.trans z3.q y.q⟩
            have fOz := fun y : Wd z3.w => fO ⟨y.w, Q.trans z3.q y.q⟩
            dsimp only at fIz f0z f1z fOz
            have hin := fun y : Wd z3.w => hmem.2.1 ⟨y.w, Q.trans z3.q y.q⟩
            dsimp only at hin
            obtain ⟨v3, hv3⟩ := Wd.first z3.w
            rw [eX, hv3]
            clear hv3
            go_upto_region 36 with (fail)
            refine wp_region_reads (S := fun z => ∃ y : Wd z3.w, z = y.w) 4 (by kernel_rfl) (by kernel_rfl) (by intro c a d v w h; cases d <;> exact h) ⟨⟨_, v3.q.drew⟩, rfl⟩ ?_
            simp only [List.take_succ_cons, List.take_zero]
            go_big_quiet_step (fail)
            go_big_quiet_step (fail)
            go_big_quiet_step (fail)
            refine wpQuiet_load_S 47 (.tmp 164) (.pointer (some ⟨b3, o3 + m * 12, none⟩)) (.agg (decA ax)) rfl rfl rfl (by rintro z ⟨y, rfl⟩; exact hLd y) ?_
            dsimp only [Act.put]
            simp only [List.setIfInBounds_toArray, List.set_cons_succ, List.set_cons_zero]
            refine wpQuiet_nil ?_
            rintro w4 ⟨y3, rfl⟩
            refine held_read 5 (v := .agg (itA it)) rfl (by kernel_rfl) (by kernel_rfl) (by kernel_rfl) (by intro c a d v w h; cases d <;> exact h) rfl ⟨y3, rfl⟩ (fun z hz => exec_load 49 (.tmp 8) _ _ rfl rfl (by obtain ⟨y, rfl⟩ := hz; exact fIz y)) ?_
            try simp only [Act.put, List.setIfInBounds_toArray, List.set_cons_succ, List.set_cons_zero]
            refine held_one 4 rfl (by kernel_rfl) rfl (fun K' hK' => ?_)
            go_simp
            refine (ofDec_any ax y3.w (hin y3) hmem.2.2).mono ?_
            rintro e w' ⟨a', rfl, hsm, hin', hq⟩
            obtain ⟨y4, rfl⟩ := Wd.next y3 hq
            refine hK' _ _ ⟨y4, rfl⟩ ?_
            clear hK' K' hq
            try simp only [Act.put, List.setIfInBounds_toArray, List.set_cons_succ, List.set_cons_zero]
            refine held_one 6 rfl (by kernel_rfl) rfl (fun K' hK' => ?_)
            go_simp
            refine (itemSame_any (itDec a') it y4.w hin' (fOz y4)).mono ?_
            rintro e w' ⟨rfl, hq⟩
            rw [itDec_same hsm it]
            obtain ⟨y5, rfl⟩ := Wd.next y4 hq
            refine hK' _ _ ⟨y5, rfl⟩ ?_
            clear hK' K' hq
            try simp only [Act.put, List.setIfInBounds_toArray, List.set_cons_succ, List.set_cons_zero]
            refine wpAnyH_done (by kernel_rfl) ?_ _
            have HCS2 : Hid (cntK (fun a => (itDec a).same it) LX (m + 1) = C + if (itDec ax).same it = true then 1 else 0) := HCS
            clear HCS
            cases hs : (itDec ax).same it
            all_goals
              rw [hs] at HCS2
              go_wp2_with fail
              exact ⟨⟨m + 1, ⟨y5.w, Q.trans z3.q y5.q⟩, by rw [HCS2.out]; first | rfl | go_num, by rw [HLS.out], by go_num, rfl, by omega⟩, by simp only [intOf]; omega⟩
          · have hmn : m = LX.length := by omega
            have HN1 := Lib.hid (show cntK (fun a => (itDec a).same it) LX m = 1 by rw [hmn, cntK_all]; exact honeX)
            rw [HN1.out]
            generalize lastR DecR.number LX m = T at *
            have hdl : ¬ m < LX.length := hmt
            clear hmemX hascX honeX xRy
            go_wp2_with fail
            exact ⟨⟨j + 1, ⟨z3.w, Q.trans HQ12.out (Q.trans HQ23.out z3.q)⟩, by go_num, rfl, by omega⟩, by simp only [intOf]; omega⟩
    · go_wp2_with fail
      go_ret
      exact ⟨rfl, Q.trans HQ1.out z.q⟩
end Go.Proofs.YtpdalnojimgjbaaGreatDoor.Known
