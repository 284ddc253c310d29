/-
  The walk of agoralaw14.KnownOrder.
-/
import Derived.Test.YtpdalnojimgjbaaGreatDoorPickSm
import Derived.Test.YtpdalnojimgjbaaGreatDoorKn
set_option linter.unusedVariables false
set_option linter.unusedSimpArgs false
namespace Go.Proofs.YtpdalnojimgjbaaGreatDoor.Known
open Go.RowKit Grp Mem _root_.Go.Proofs.YtpdalnojimgjbaaGreatDoor.Code Sha Sign _root_.Go.Proofs.YtpdalnojimgjbaaGreatDoor.Item

/-- Is it signed, with this digest? -/
def sameB (sv : List Int) (d : ByteArray) (x : ItemR) : Bool := signedB sv x && decide (digOf x = d)
def someB (sv : List Int) (d : ByteArray) (l : List ItemR) (k : Nat) : Bool := (l.take k).any (sameB sv d)
def firstB (sv : List Int) (d : ByteArray) (l : List ItemR) (i k : Nat) : Bool := !((l.take (min k i)).any (sameB sv d))
theorem someB_zero (sv : List Int) (d : ByteArray) (l : List ItemR) : someB sv d l 0 = false := rfl
theorem firstB_zero (sv : List Int) (d : ByteArray) (l : List ItemR) (i : Nat) : firstB sv d l i 0 = true := by simp [firstB]
theorem someB_step (sv : List Int) (d : ByteArray) (l : List ItemR) (k : Nat) (h : k < l.length) : someB sv d l (k + 1) = (someB sv d l k || sameB sv d l[k]) := by
  unfold someB
  rw [List.take_succ_eq_append_getElem h, List.any_append]
  simp
theorem firstB_step (sv : List Int) (d : ByteArray) (l : List ItemR) (i k : Nat) (h : k < l.length) : firstB sv d l i (k + 1) = (firstB sv d l i k && !(sameB sv d l[k] && decide (k < i))) := by
  unfold firstB
  by_cases hk : k < i
  · rw [show min (k + 1) i = k + 1 by omega, show min k i = k by omega, List.take_succ_eq_append_getElem h, List.any_append, decide_eq_true hk]
    simp
  · rw [show min (k + 1) i = i by omega, show min k i = i by omega, decide_eq_false hk]
    simp
theorem someB_all (sv : List Int) (d : ByteArray) (l : List ItemR) : someB sv d l l.length = hasE (fillK sv [] l) d := by
  unfold someB
  rw [hasE_fill, List.take_length]
  rfl
theorem someB_mix (sv : List Int) (d : ByteArray) (l : List ItemR) (ord : List Int) : someB sv d l l.length = hasE (fillK sv [] (mixK l ord)) d := by
  unfold someB
  rw [hasE_fill, List.take_length, Bool.eq_iff_iff, List.any_eq_true, List.any_eq_true]
  constructor
  · rintro ⟨x, hx, h⟩
    exact ⟨x, (mem_mixK l ord x).2 hx, h⟩
  · rintro ⟨x, hx, h⟩
    exact ⟨x, (mem_mixK l ord x).1 hx, h⟩
theorem count_at (sv : List Int) (l : List ItemR) (i : Nat) (h : i < l.length) : countK sv l (i + 1) = countK sv l i + if firstB sv (digOf l[i]) l i l.length && signedB sv l[i] then 1 else 0 := by
  rw [countK_step sv l i h]
  unfold firstB
  rw [show min l.length i = i by omega, Bool.and_comm]
  rfl
theorem dig_same (sv : List Int) (l : List ItemR) (ord : List Int) : digs (fillK sv [] (mixK l ord)) = digs (fillK sv [] l) := fill_same sv _ _ (mem_mixK l ord)
theorem len_same (sv : List Int) (l : List ItemR) (ord : List Int) : (fillK sv [] (mixK l ord)).length = (fillK sv [] l).length := by
  have := congrArg List.length (dig_same sv l ord)
  unfold digs at this
  simpa using this
theorem mix_len (l : List ItemR) (ord : List Int) : (mixK l ord).length ≤ 20 + l.length := by
  unfold mixK
  rw [List.length_append]
  have := List.length_filterMap_le (fun n => l[absMod n l.length]?) (ord.take 20)
  rw [List.length_take] at this
  omega

set_option maxRecDepth 100000 in
set_option maxHeartbeats 4000000 in
theorem order_walk (SA : Option Addr) (sc : Nat) (sv : List Int) (A : Option Addr) (c : Nat) (l : List ItemR) (OA : Option Addr) (oc : Nat) (ord : List Int) (w : World) (hT : Tab w) (hS : Ints w SA sv) (hsc : sv.length ≤ sc) (hscm : sc ≤ maxLen) (hI : ItemsIn w A l) (hc : l.length ≤ c) (hcm : c ≤ maxLen) (hO : Ints w OA ord) (hoc : ord.length ≤ oc) (hocm : oc ≤ maxLen) (hb : ∀ n ∈ ord, -9223372036854775808 ≤ n ∧ n ≤ 9223372036854775807) :
    Calls Tryz.prog 3 #[.slice SA sv.length sc, .slice A l.length c, .slice OA ord.length oc] w fun e w' => e = .returned (.bool true) ∧ Q w w' := by
  have hml : maxLen ≤ 9223372036854775807 := by decide
  have hT0 : ∀ y : Wd w, Tab y.w := fun y => hT.q y.q
  have hS0 : ∀ y : Wd w, Ints y.w SA sv := fun y => hS.q y.q
  have hI0 : ∀ y : Wd w, ItemsIn y.w A l := fun y => hI.q y.q
  have hO0 : ∀ y : Wd w, Ints y.w OA ord := fun y => hO.q y.q
  by_cases hlong : 15 < l.length
  · go_enter Tryz.func3, Tryz.ntmps3
    go_wp2_with (go_at_call 14; refine (small_any w hT).mono ?_; rintro e w' ⟨rfl, hq⟩; obtain ⟨y, rfl⟩ := Wd.next (⟨w, Q.refl w⟩ : Wd w) hq; clear hq)
    go_ret
    exact ⟨rfl, y.q⟩
  have hl15 : l.length ≤ 15 := by omega
  have hpub := fun y : Wd w => publics_any SA sc sv y.w (hS0 y) (by omega)
  cases hp : pubLaw sv
  · rw [hp] at hpub
    clear hp
    go_enter Tryz.func3, Tryz.ntmps3
    go_wp2_with (first | (go_at_call 14; refine (small_any w hT).mono ?_; rintro e w' ⟨rfl, hq⟩; obtain ⟨y, rfl⟩ := Wd.next (⟨w, Q.refl w⟩ : Wd w) hq; clear hq) | (go_at_call 15; refine (hpub _).mono ?_; rintro e w' ⟨rfl, hq⟩; obtain ⟨y2, rfl⟩ := Wd.next _ hq; clear hq))
    go_ret
    exact ⟨rfl, y2.q⟩
  rw [hp] at hpub
  obtain ⟨hp1, hp2⟩ : publicsB sv = true ∧ sv.length ≤ 20 := by
    unfold pubLaw at hp
    rw [Bool.and_eq_true, decide_eq_true_eq] at hp
    exact hp
  clear hp
  have hnew := fun y : Wd w => new_any SA sc sv y.w (hS0 y) (by omega)
  have hmix := fun y : Wd w => mixed_any A c l OA oc ord y.w (hI0 y) hc hcm (by omega) (hO0 y) hoc hocm hb
  have hfil := fun (k : KR) (A' : Option Addr) (c' : Nat) (l' : List ItemR) (y : Wd w) (hk : KIn y.w k) (hi : ItemsIn y.w A' l') (h0 : k.l = []) (hs : k.sv = sv) (hl' : l'.length ≤ 35) => (show Calls Tryz.prog 16 #[.agg (knA k), .slice A' l'.length c'] y.w (KnownIs sv (fillK sv [] l') y.w) by
    have := filled_any k A' c' l' y.w (hT0 y) hk hi (by rw [h0]; simp; omega)
    rwa [h0, hs] at this)
  have hmixl := mix_len l ord
  go_enter Tryz.func3, Tryz.ntmps3
  go_upto_region 4 with (first | (go_at_call 14; refine (small_any w hT).mono ?_; rintro e w' ⟨rfl, hq⟩; obtain ⟨y, rfl⟩ := Wd.next (⟨w, Q.refl w⟩ : Wd w) hq; clear hq) | (go_at_call 15; refine (hpub _).mono ?_; rintro e w' ⟨rfl, hq⟩; obtain ⟨y2, rfl⟩ := Wd.next _ hq; clear hq))
  go_upto_region 5 with (first | (go_at_call 17; refine (hnew _).mono ?_; rintro e w' ⟨kn, rfl, hks, hkl, hkK, hq⟩; obtain ⟨y3, rfl⟩ := Wd.next _ hq; clear hq) | (go_at_call 16; refine (hfil kn A c l y3 hkK (hI0 y3) hkl hks (by omega)).mono ?_; rintro e w' ⟨ka, rfl, has, hal, haK, hq⟩; obtain ⟨y4, rfl⟩ := Wd.next _ hq; clear hq) | (refine wpList_store_blk (Blk.new y4.w 27 known0.cells.toArray) rfl 27 (.tmp 8) (.tmp 30) ka.cells rfl rfl rfl (by kernel_rfl) (kn_all _) (Nat.le_refl 2) ?_))
  intro W1 hB1 hbel1
  rw [splice_all _ _ (by rfl)] at hB1
  have hq1 : Q w W1 := hbel1 _ _ y4.q.size (Q.trans y4.q (q_new y4.w (knA known0) 27))
  have haK1 : KIn W1 ka := haK.q (hbel1 _ _ (Nat.le_refl _) (q_new y4.w (knA known0) 27))
  obtain ⟨ga, hga⟩ : ∃ ga, y4.w.heap.size = ga := ⟨_, rfl⟩
  rw [hga] at hB1
  rw [hga]
  clear hga hbel1 haK hkK hks hkl
  have hK1 : ∀ z : Wd W1, KIn z.w ka := fun z => haK1.q z.q
  have hB1y : ∀ z : Wd W1, Blk z.w ga 27 ka.cells.toArray := fun z => z.blk hB1
  obtain ⟨v1, rfl⟩ : ∃ v1 : Wd w, W1 = v1.w := ⟨⟨W1, hq1⟩, rfl⟩
  obtain ⟨kn0, hkn0⟩ : ∃ kn0 : KR, kn = kn0 := ⟨_, rfl⟩
  rw [hkn0]
  clear hkn0 kn
  go_upto_region 6 with (first | (go_at_call 17; refine (hnew _).mono ?_; rintro e w' ⟨kn, rfl, hks, hkl, hkK, hq⟩; have hq5a := hq; obtain ⟨y5, rfl⟩ := Wd.next _ hq; clear hq) | (go_at_call 18; refine (hmix _).mono ?_; rintro e w' ⟨MA, mc, rfl, hm1, hm2, hmI, hq⟩; have hkK := hkK.q hq; have hq5b := hq; obtain ⟨y6, rfl⟩ := Wd.next _ hq; clear hq) | (go_at_call 16; refine (hfil kn MA mc (mixK l ord) y6 hkK hmI hkl hks (by omega)).mono ?_; rintro e w' ⟨kb, rfl, hbs, hbl, hbK, hq⟩; have hq5c := hq; obtain ⟨y7, rfl⟩ := Wd.next _ hq; clear hq) | (refine wpList_store_blk (Blk.new y7.w 27 known0.cells.toArray) rfl 27 (.tmp 9) (.tmp 36) kb.cells rfl rfl rfl (by kernel_rfl) (kn_all _) (Nat.le_refl 2) ?_))
  intro W2 hB2 hbel2
  rw [splice_all _ _ (by rfl)] at hB2
  have q12 : Q v1.w W2 := hbel2 _ _ (Q.trans (Q.trans hq5a hq5b) hq5c).size (Q.trans (Q.trans (Q.trans hq5a hq5b) hq5c) (q_new y7.w (knA known0) 27))
  have hbK2 : KIn W2 kb := hbK.q (hbel2 _ _ (Nat.le_refl _) (q_new y7.w (knA known0) 27))
  have haK2 : KIn W2 ka := haK1.q q12
  have hA2 := hB1.q q12
  have hqw2 : Q w W2 := Q.trans hq1 q12
  obtain ⟨gb, hgb⟩ : ∃ gb, y7.w.heap.size = gb := ⟨_, rfl⟩
  rw [hgb] at hB2
  rw [hgb]
  clear hgb hbel2 hbK hmI hkK hq5a hq5b hq5c hK1 hB1y haK1 hB1 hks hkl hnew hmix hfil hpub
  have hN1 : ka.l.length = (fillK sv [] l).length := by rw [hal]
  have hN2 : kb.l.length = (fillK sv [] l).length := by rw [hbl]; exact len_same sv l ord
  have hNle := fillK_length sv l []
  have hLa : ∀ z : Wd W2, (Instr.loadAt 27 (.pointer (some ⟨ga, 0, none⟩))).run Tryz.prog z.w = .ok (.agg (knA ka)) z.w := Wd.load hA2.lt (Blk.range hA2) Tryz.underlying27 rfl (by kernel_rfl)
  have hLb : ∀ z : Wd W2, (Instr.loadAt 27 (.pointer (some ⟨gb, 0, none⟩))).run Tryz.prog z.w = .ok (.agg (knA kb)) z.w := Wd.load hB2.lt (Blk.range hB2) Tryz.underlying27 rfl (by kernel_rfl)
  have hTz : ∀ z : Wd W2, Tab z.w := fun z => hT0 ⟨z.w, Q.trans hqw2 z.q⟩
  have hIz : ∀ z : Wd W2, ItemsIn z.w A l := fun z => hI0 ⟨z.w, Q.trans hqw2 z.q⟩
  have hRa : ∀ z : Wd W2, Calls Tryz.prog 19 #[.agg (knA ka)] z.w fun e w' => e = .returned (.bool true) ∧ Q z.w w' := fun z => (kright_any ka z.w (hTz z) (haK2.q z.q)).mono fun e w' ⟨e1, e2⟩ => ⟨by rw [e1, has, hal, (Filled.fill l (Filled.nil sv)).right hp2 hp1], e2⟩
  have hDa : ∀ z : Wd W2, Calls Tryz.prog 20 #[.agg (knA ka)] z.w fun e w' => e = .returned (.string (setDig sv (fillK sv [] l))) ∧ Q z.w w' := fun z => (kdigest_any ka z.w (hTz z) (haK2.q z.q) (by rw [hN1]; simp only [List.length_nil] at hNle; omega) (by rw [has]; omega)).mono fun e w' ⟨e1, e2⟩ => ⟨by rw [e1, has, hal], e2⟩
  have hDb : ∀ z : Wd W2, Calls Tryz.prog 20 #[.agg (knA kb)] z.w fun e w' => e = .returned (.string (setDig sv (fillK sv [] l))) ∧ Q z.w w' := fun z => (kdigest_any kb z.w (hTz z) (hbK2.q z.q) (by rw [hN2]; simp only [List.length_nil] at hNle; omega) (by rw [hbs]; omega)).mono fun e w' ⟨e1, e2⟩ => ⟨by rw [e1, hbs, hbl, setDig_same (dig_same sv l ord)], e2⟩
  have hHa : ∀ (d : ByteArray) (z : Wd W2), Calls Tryz.prog 23 #[.agg (knA ka), .string d] z.w fun e w' => e = .returned (.bool (someB sv d l l.length)) ∧ Q z.w w' := fun d z => (has_any ka d z.w (hTz z) (haK2.q z.q)).mono fun e w' ⟨e1, e2⟩ => ⟨by rw [e1, hal, someB_all], e2⟩
  have hHb : ∀ (d : ByteArray) (z : Wd W2), Calls Tryz.prog 23 #[.agg (knA kb), .string d] z.w fun e w' => e = .returned (.bool (someB sv d l l.length)) ∧ Q z.w w' := fun d z => (has_any kb d z.w (hTz z) (hbK2.q z.q)).mono fun e w' ⟨e1, e2⟩ => ⟨by rw [e1, hbl, someB_mix sv d l ord], e2⟩
  have hSg : ∀ (x : ItemR) (r : Bool), signedB sv x = r → ∀ z : Wd W2, ItemIn z.w x → Calls Tryz.prog 22 #[.slice SA sv.length sc, .agg (itA x)] z.w fun e w' => e = .returned (.bool r) ∧ Q z.w w' := fun x r h z hx => signed_at SA sv.length sc sv x r z.w (hTz z) hx (hS0 ⟨z.w, Q.trans hqw2 z.q⟩) (by omega) rfl h
  have hca : ∀ z : Wd W2, z.w.cell? ⟨ga, 1, none⟩ = some (.slice ka.iA (fillK sv [] l).length ka.iC) := fun z => by
    have := (z.blk hA2).cell 1
    rw [this]
    show some (Value.slice ka.iA ka.l.length ka.iC) = _
    rw [hN1]
  have hcb : ∀ z : Wd W2, z.w.cell? ⟨gb, 1, none⟩ = some (.slice kb.iA (fillK sv [] l).length kb.iC) := fun z => by
    have := (z.blk hB2).cell 1
    rw [this]
    show some (Value.slice kb.iA kb.l.length kb.iC) = _
    rw [hN2]
  have HN := Lib.hid (countK_all sv l)
  have HCA := Lib.hid (count_at sv l)
  have HQ2 := Lib.hid hqw2
  have HIO : ∀ (z : Wd W2) (x : ItemR), x ∈ l → ItemIn z.w x := fun z x hx => (hIz z).each x hx
  clear hA2 hB2 haK2 hbK2 hN1 hN2 hqw2 q12 hq1 hT0 hS0 hI0 hO0 has hal hbs hbl hp1 hmixl
  generalize setDig sv (fillK sv [] l) = D at *
  generalize hFN : (fillK sv [] l).length = N at *
  obtain ⟨v2, hv2⟩ := Wd.first W2
  rw [hv2]
  clear hv2
  go_wp2_with fail
  refine wp_region_wd v2 (by kernel_rfl) (by kernel_rfl) ?_
  repeat (first | (refine wpQuiet_load_run 27 (.tmp 8) (.pointer (some ⟨ga, 0, none⟩)) (.agg (knA ka)) ?_ ?_ ?_ ?_ ?_; rfl; rfl; rfl; exact hLa; dsimp only [Act.put]; simp only [List.setIfInBounds_toArray, List.set_cons_succ, List.set_cons_zero]) | (refine wpQuiet_load_run 27 (.tmp 9) (.pointer (some ⟨gb, 0, none⟩)) (.agg (knA kb)) ?_ ?_ ?_ ?_ ?_; rfl; rfl; rfl; exact hLb; dsimp only [Act.put]; simp only [List.setIfInBounds_toArray, List.set_cons_succ, List.set_cons_zero]) | go_big_quiet_step (first | (go_at_call 20; first | with_reducible exact Wd.call _ (hDa _) | with_reducible exact Wd.call _ (hDb _)) | (go_at_call 19; exact Wd.call _ (hRa _))))
  refine wpQuiet_nil ?_
  rintro w7 ⟨z, rfl⟩
  go_wp2_with fail
  clear hRa hDa hDb hcb
  have hcl := countK_le sv l
  go_loopw [10, 11] (fun a i wr => ∃ (j : Nat) (z : Wd W2), a = .int .i64 (countK sv l j : Nat) ∧ i = .int .i64 j ∧ wr = z.w ∧ j ≤ l.length) (fun _ i _ => l.length - (intOf i).toNat)
  case atStart => exact ⟨0, z, rfl, rfl, rfl, Nat.zero_le _⟩
  case round =>
    obtain ⟨j, z1, rfl, rfl, rfl, hj⟩ := hrel
    by_cases hlt : j < l.length
    · obtain ⟨b, o, eA, hb1, hld⟩ := (hIz z1).load j hlt
      have hldk : ∀ (k : Nat) (hk : k < l.length) (y : Wd W2), (Instr.loadAt 49 (.pointer (some ⟨b, o + k * 49, none⟩))).run Tryz.prog y.w = .ok (.agg (itA l[k])) y.w := fun k hk y => by
        obtain ⟨b', o', e', hb', hld2⟩ := (hIz y).load k hk
        rw [eA] at e'
        obtain ⟨rfl, rfl⟩ : b = b' ∧ o = o' := by
          injection e' with e'
          injection e' with e1 e2
          exact ⟨e1, e2⟩
        exact hld2 ⟨_, Q.refl _⟩
      have hld' := hldk j hlt
      have HLK := Lib.hid hldk
      have hio := fun y : Wd W2 => HIO y _ (List.getElem_mem hlt)
      have HCJ := Lib.hid (HCA.out j hlt)
      have hcj := hcl j
      have hdj := fun y : Wd W2 => digest_any l[j] y.w (hTz y) (hio y)
      have hsj := fun r (h : signedB sv l[j] = r) (y : Wd W2) => hSg l[j] r h y (hio y)
      clear hld hb1 hldk
      rw [eA]
      generalize l[j] = it at *
      generalize hd : digOf it = d at *
      have hHa1 := hHa d
      have hHb1 := hHb d
      clear hHa hHb
      go_wp2_with (first | (refine wpList_load_run 49 (.tmp 64) (.pointer (some ⟨b, o + j * 49, none⟩)) (.agg (itA it)) ?_ ?_ ?_ ?_ ?_; rfl; rfl; rfl; exact hld' _) | (go_at_call 21; refine (hdj _).mono ?_; rintro e w' ⟨rfl, hq⟩; obtain ⟨z3, rfl⟩ := Wd.next _ hq; clear hq))
      go_loopw [13, 14, 15] (fun f s i wr => ∃ (k : Nat) (z : Wd W2), f = .bool (firstB sv d l j k) ∧ s = .bool (someB sv d l k) ∧ i = .int .i64 k ∧ wr = z.w ∧ k ≤ l.length) (fun _ _ i _ => l.length - (intOf i).toNat)
      case atStart => exact ⟨0, z3, by rw [firstB_zero], by rw [someB_zero], rfl, rfl, Nat.zero_le _⟩
      case round =>
        obtain ⟨k, z4, rfl, rfl, rfl, rfl, hk⟩ := hrel
        by_cases hlt2 : k < l.length
        · have hldx := HLK.out k hlt2
          have hiox := fun y : Wd W2 => HIO y _ (List.getElem_mem hlt2)
          have hdx := fun y : Wd W2 => digest_any l[k] y.w (hTz y) (hiox y)
          have hsx := fun r (h : signedB sv l[k] = r) (y : Wd W2) => hSg l[k] r h y (hiox y)
          have HF1 := Lib.hid (firstB_step sv d l j k hlt2)
          have HS1 := Lib.hid (someB_step sv d l k hlt2)
          have HSX : Hid (sameB sv d l[k] = (signedB sv l[k] && decide (digOf l[k] = d))) := Lib.hid rfl
          generalize l[k] = ix at *
          generalize firstB sv d l j k = F at *
          generalize someB sv d l k = S at *
          cases hsg : signedB sv ix
          · have hsx0 := hsx false hsg
            have HX2 := Lib.hid (show sameB sv d ix = false by rw [HSX.out, hsg]; rfl)
            clear hsx hsg
            cases F <;> cases S
            all_goals
              go_wp2_with (first | (refine wpList_load_run 49 (.tmp 76) (.pointer (some ⟨b, o + k * 49, none⟩)) (.agg (itA ix)) ?_ ?_ ?_ ?_ ?_; rfl; rfl; rfl; exact hldx _) | (go_at_call 22; refine (hsx0 _).mono ?_; rintro e w' ⟨rfl, hq⟩; obtain ⟨z5, rfl⟩ := Wd.next _ hq; clear hq))
              exact ⟨⟨k + 1, z5, by rw [HF1.out, HX2.out]; rfl, by rw [HS1.out, HX2.out]; rfl, by go_num, rfl, by omega⟩, by simp only [intOf]; omega⟩
          · have hsx1 := hsx true hsg
            generalize hdg : digOf ix = dx at *
            have hbe := beq_str dx d
            by_cases he : dx = d
            · have HX2 := Lib.hid (show sameB sv d ix = true by rw [HSX.out, hsg, decide_eq_true he]; rfl)
              rw [decide_eq_true he] at hbe
              clear hsx hsg he
              by_cases hki : (k : Int) < (j : Int)
              · have HKI := Lib.hid (show decide (k < j) = true from decide_eq_true (by omega))
                cases F <;> cases S
                all_goals
                  go_wp2_with (first | (refine wpList_load_run 49 (.tmp 76) (.pointer (some ⟨b, o + k * 49, none⟩)) (.agg (itA ix)) ?_ ?_ ?_ ?_ ?_; rfl; rfl; rfl; exact hldx _) | (refine wpList_load_run 49 (.tmp 82) (.pointer (some ⟨b, o + k * 49, none⟩)) (.agg (itA ix)) ?_ ?_ ?_ ?_ ?_; rfl; rfl; rfl; exact hldx _) | (go_at_call 22; refine (hsx1 _).mono ?_; rintro e w' ⟨rfl, hq⟩; obtain ⟨z5, rfl⟩ := Wd.next _ hq; clear hq) | (go_at_call 21; refine (hdx _).mono ?_; rintro e w' ⟨rfl, hq⟩; obtain ⟨z6, rfl⟩ := Wd.next _ hq; clear hq))
                  exact ⟨⟨k + 1, z6, by rw [HF1.out, HX2.out, HKI.out]; rfl, by rw [HS1.out, HX2.out]; rfl, by go_num, rfl, by omega⟩, by simp only [intOf]; omega⟩
              · have HKI := Lib.hid (show decide (k < j) = false from decide_eq_false (by omega))
                cases F <;> cases S
                all_goals
                  go_wp2_with (first | (refine wpList_load_run 49 (.tmp 76) (.pointer (some ⟨b, o + k * 49, none⟩)) (.agg (itA ix)) ?_ ?_ ?_ ?_ ?_; rfl; rfl; rfl; exact hldx _) | (refine wpList_load_run 49 (.tmp 82) (.pointer (some ⟨b, o + k * 49, none⟩)) (.agg (itA ix)) ?_ ?_ ?_ ?_ ?_; rfl; rfl; rfl; exact hldx _) | (go_at_call 22; refine (hsx1 _).mono ?_; rintro e w' ⟨rfl, hq⟩; obtain ⟨z5, rfl⟩ := Wd.next _ hq; clear hq) | (go_at_call 21; refine (hdx _).mono ?_; rintro e w' ⟨rfl, hq⟩; obtain ⟨z6, rfl⟩ := Wd.next _ hq; clear hq))
                  exact ⟨⟨k + 1, z6, by rw [HF1.out, HX2.out, HKI.out]; rfl, by rw [HS1.out, HX2.out]; rfl, by go_num, rfl, by omega⟩, by simp only [intOf]; omega⟩
            · have HX2 := Lib.hid (show sameB sv d ix = false by rw [HSX.out, hsg, decide_eq_false he]; rfl)
              rw [decide_eq_false he] at hbe
              clear hsx hsg he
              have HKI := Lib.hid (show True from trivial)
              cases F <;> cases S
              all_goals
                go_wp2_with (first | (refine wpList_load_run 49 (.tmp 76) (.pointer (some ⟨b, o + k * 49, none⟩)) (.agg (itA ix)) ?_ ?_ ?_ ?_ ?_; rfl; rfl; rfl; exact hldx _) | (refine wpList_load_run 49 (.tmp 82) (.pointer (some ⟨b, o + k * 49, none⟩)) (.agg (itA ix)) ?_ ?_ ?_ ?_ ?_; rfl; rfl; rfl; exact hldx _) | (go_at_call 22; refine (hsx1 _).mono ?_; rintro e w' ⟨rfl, hq⟩; obtain ⟨z5, rfl⟩ := Wd.next _ hq; clear hq) | (go_at_call 21; refine (hdx _).mono ?_; rintro e w' ⟨rfl, hq⟩; obtain ⟨z6, rfl⟩ := Wd.next _ hq; clear hq))
                exact ⟨⟨k + 1, z6, by rw [HF1.out, HX2.out]; rfl, by rw [HS1.out, HX2.out]; rfl, by go_num, rfl, by omega⟩, by simp only [intOf]; omega⟩
        · have hkn : k = l.length := by omega
          clear HLK
          rw [hkn]
          generalize firstB sv d l j l.length = F at *
          generalize someB sv d l l.length = S at *
          generalize countK sv l j = C at *
          clear hd
          cases F
          · have HC2 := Lib.hid (show countK sv l (j + 1) = C by rw [HCJ.out]; rfl)
            go_wp2_with (first | (refine wpList_load_run 27 (.tmp 8) (.pointer (some ⟨ga, 0, none⟩)) (.agg (knA ka)) ?_ ?_ ?_ ?_ ?_; rfl; rfl; rfl; exact hLa _) | (refine wpList_load_run 27 (.tmp 9) (.pointer (some ⟨gb, 0, none⟩)) (.agg (knA kb)) ?_ ?_ ?_ ?_ ?_; rfl; rfl; rfl; exact hLb _) | (go_at_call 23; (first | (with_reducible refine Calls.mono (hHa1 _) ?_) | (with_reducible refine Calls.mono (hHb1 _) ?_)); rintro e w' ⟨rfl, hq⟩; obtain ⟨z7, rfl⟩ := Wd.next _ hq; clear hq))
            exact ⟨⟨j + 1, z7, by rw [HC2.out], by go_num, rfl, by omega⟩, by simp only [intOf]; omega⟩
          · cases hsg : signedB sv it
            · have hsj0 := hsj false hsg
              have HC2 := Lib.hid (show countK sv l (j + 1) = C by rw [HCJ.out, hsg]; rfl)
              clear hsj hsg
              go_wp2_with (first | (refine wpList_load_run 27 (.tmp 8) (.pointer (some ⟨ga, 0, none⟩)) (.agg (knA ka)) ?_ ?_ ?_ ?_ ?_; rfl; rfl; rfl; exact hLa _) | (refine wpList_load_run 27 (.tmp 9) (.pointer (some ⟨gb, 0, none⟩)) (.agg (knA kb)) ?_ ?_ ?_ ?_ ?_; rfl; rfl; rfl; exact hLb _) | (refine wpList_load_run 49 (.tmp 119) (.pointer (some ⟨b, o + j * 49, none⟩)) (.agg (itA it)) ?_ ?_ ?_ ?_ ?_; rfl; rfl; rfl; exact hld' _) | (go_at_call 23; (first | (with_reducible refine Calls.mono (hHa1 _) ?_) | (with_reducible refine Calls.mono (hHb1 _) ?_)); rintro e w' ⟨rfl, hq⟩; obtain ⟨z7, rfl⟩ := Wd.next _ hq; clear hq) | (go_at_call 22; refine (hsj0 _).mono ?_; rintro e w' ⟨rfl, hq⟩; obtain ⟨z8, rfl⟩ := Wd.next _ hq; clear hq))
              exact ⟨⟨j + 1, z8, by rw [HC2.out], by go_num, rfl, by omega⟩, by simp only [intOf]; omega⟩
            · have hsj1 := hsj true hsg
              have HC2 := Lib.hid (show countK sv l (j + 1) = C + 1 by rw [HCJ.out, hsg]; rfl)
              clear hsj hsg
              go_wp2_with (first | (refine wpList_load_run 27 (.tmp 8) (.pointer (some ⟨ga, 0, none⟩)) (.agg (knA ka)) ?_ ?_ ?_ ?_ ?_; rfl; rfl; rfl; exact hLa _) | (refine wpList_load_run 27 (.tmp 9) (.pointer (some ⟨gb, 0, none⟩)) (.agg (knA kb)) ?_ ?_ ?_ ?_ ?_; rfl; rfl; rfl; exact hLb _) | (refine wpList_load_run 49 (.tmp 119) (.pointer (some ⟨b, o + j * 49, none⟩)) (.agg (itA it)) ?_ ?_ ?_ ?_ ?_; rfl; rfl; rfl; exact hld' _) | (go_at_call 23; (first | (with_reducible refine Calls.mono (hHa1 _) ?_) | (with_reducible refine Calls.mono (hHb1 _) ?_)); rintro e w' ⟨rfl, hq⟩; obtain ⟨z7, rfl⟩ := Wd.next _ hq; clear hq) | (go_at_call 22; refine (hsj1 _).mono ?_; rintro e w' ⟨rfl, hq⟩; obtain ⟨z8, rfl⟩ := Wd.next _ hq; clear hq))
              exact ⟨⟨j + 1, z8, by rw [HC2.out]; go_num, by go_num, rfl, by omega⟩, by simp only [intOf]; omega⟩
    · have hjn : j = l.length := by omega
      have HE := Lib.hid (show countK sv l j = N by rw [hjn]; exact HN.out)
      rw [HE.out]
      clear hFN hcl
      go_wp2_with fail
      go_ret
      exact ⟨rfl, Q.trans HQ2.out z1.q⟩
end Go.Proofs.YtpdalnojimgjbaaGreatDoor.Known
