/-
  agoralaw35.equal and the law DecideBytes, walked (printed by gen_bytes.py).
  What an argument's type gives, with the bound on its strings that the form's reach gives.
  What an argument's type gives: a list of decisions, with the bulk's bound (printed by gen_opendec.py).
  What an argument's type gives: a struct of two integers. How the contract of a law becomes its row: the law returns true, and below the heap's old size nothing has changed, so every argument reads as before. What the rows' list of tables gives: package sum's two tables hold what the text says; and a world for the witness.
  The statement DecideBytes holds where what it reads is of bulk at most 1048576. The tables of package sum hold what the text lays.
-/
import Derived.Test.YtjfcllanochhmaaGreatDoorMgDc
import Derived.Test.YtjfcllanochhmaaGreatDoorMgDb
import Derived.Test.YtjfcllanochhmaaGreatDoorMgRd
import Derived.Test.YtjfcllanochhmaaGreatDoorOpenItem
import Derived.SizedLaws
import Derived.Test.YtjfcllanochhmaaGreatDoorMgDa
import Derived.Test.YtjfcllanochhmaaGreatDoorRows
import Derived.Test.YtjfcllanochhmaaGreatDoorProg
import Derived.WideShapes
import Derived.ProofKit
import Derived.OpenShut
import Derived.OpenVars
import Derived.Test.YtjfcllanochhmaaGreatDoorCards
import Derived.Test.YtjfcllanochhmaaGreatDoorTie
import Derived.Test.YtjfcllanochhmaaGreatDoorShaMix
import Derived.Deep.DeepHandedRow
import Derived.Lib.LaidTab
import Derived.ChangeMaps5
set_option linter.unusedVariables false
set_option linter.unusedSimpArgs false
namespace Go.Proofs.YtjfcllanochhmaaGreatDoor.Dec
open Go.RowKit Grp Mem _root_.Go.Proofs.YtjfcllanochhmaaGreatDoor.Code Sha Sign _root_.Go.Proofs.YtjfcllanochhmaaGreatDoor.Item _root_.Go.Proofs.YtjfcllanochhmaaGreatDoor.Known

set_option maxRecDepth 100000 in
set_option maxHeartbeats 8000000 in
theorem equal35_any (ka kb : KR) (server now : Int) (w : World) (hT : Tab w) (hKa : KIn w ka) (hKb : KIn w kb) (hna : ka.l.length ≤ 20) (hnb : kb.l.length ≤ 20) (hv : validK kb.sv (listDe server kb.l) = validK ka.sv (listDe server ka.l)) :
    Calls Tryz.prog 14 #[.agg (knA ka), .agg (knA kb), .int .i64 server, .int .i64 now] w fun e w' => e = .returned (.bool true) ∧ Q w w' := by
  obtain ⟨w1, x, hx, hq1, ⟨hA1, hA2⟩, hB1, hB2⟩ := boxed_two w 28 ka.cells kb.cells
  have hx : (w.alloc (.cells (knA ka) 28)).alloc (.cells (knA kb) 28) = x.w := hx
  have hLa : ∀ y : Wd w1, (Instr.loadAt 28 (.pointer (some ⟨w.heap.size, 0, none⟩))).run Tryz.prog y.w = .ok (.agg (knA ka)) y.w := Wd.load hA1 hA2 Tryz.underlying28 rfl (by kernel_rfl)
  have hLb : ∀ y : Wd w1, (Instr.loadAt 28 (.pointer (some ⟨w.heap.size + 1, 0, none⟩))).run Tryz.prog y.w = .ok (.agg (knA kb)) y.w := Wd.load hB1 hB2 Tryz.underlying28 rfl (by kernel_rfl)
  have hTy : ∀ y : Wd w1, Tab y.w := fun y => hT.q (Q.trans hq1 y.q)
  have hTa := fun y : Wd w1 => trusted_any ka server now y.w (hTy y) (hKa.q (Q.trans hq1 y.q)) hna
  have hTb := fun y : Wd w1 => trusted_any kb server now y.w (hTy y) (hKb.q (Q.trans hq1 y.q)) hnb
  have hEa := fun y : Wd w1 => keepers_any ka server now y.w (hTy y) (hKa.q (Q.trans hq1 y.q)) hna
  have hEb := fun y : Wd w1 => keepers_any kb server now y.w (hTy y) (hKb.q (Q.trans hq1 y.q)) hnb
  have hPa := fun y : Wd w1 => panel_any ka server now y.w (hTy y) (hKa.q (Q.trans hq1 y.q)) hna
  have hPb := fun y : Wd w1 => panel_any kb server now y.w (hTy y) (hKb.q (Q.trans hq1 y.q)) hnb
  have hSa := fun y : Wd w1 => source_any ka server now y.w (hTy y) (hKa.q (Q.trans hq1 y.q)) hna
  have hSb := fun y : Wd w1 => source_any kb server now y.w (hTy y) (hKb.q (Q.trans hq1 y.q)) hnb
  rw [hv] at hTb hEb hPb hSb
  have HQ := Lib.hid hq1
  clear hv hA1 hA2 hB1 hB2 hT hKa hKb hTy hna hnb hq1
  unfold StrsAre35 at hTa hTb hEa hEb
  generalize forceK now (validK ka.sv (listDe server ka.l)) = FK at *
  generalize actorsK 6 FK = TL at *
  generalize actorsK 7 FK = KL at *
  generalize sourceK FK = SL at *
  generalize (panelD FK).to = PL at *
  generalize (panelD FK).n = pn at *
  clear FK
  go_enter Tryz.func14, Tryz.ntmps14
  go_upto_region 1 with (fail)
  refine wp_region_S (fun z => ∃ y : Wd w1, z = y.w) (by kernel_rfl) ⟨⟨_, x.q.drew⟩, rfl⟩ ?_
  rintro _ ⟨y1, rfl⟩
  refine held_read 0 (v := .agg (knA ka)) rfl (by kernel_rfl) (by kernel_rfl) (by kernel_rfl) (by intro c a d v w h; cases d <;> exact h) rfl ⟨_, rfl⟩ (fun z hz => exec_load 28 (.tmp 4) _ _ rfl rfl (by obtain ⟨y, rfl⟩ := hz; exact hLa y)) ?_
  try simp only [Act.put, List.setIfInBounds_toArray, List.set_cons_succ, List.set_cons_zero]
  refine held_pure 1 (v := .int .i64 server) rfl (by kernel_rfl) (by kernel_rfl) (by kernel_rfl) (by intro c a d v w h; cases d <;> exact h) rfl ⟨_, rfl⟩ (fun w => by rfl) ?_
  try simp only [Act.put, List.setIfInBounds_toArray, List.set_cons_succ, List.set_cons_zero]
  refine held_pure 2 (v := .int .i64 now) rfl (by kernel_rfl) (by kernel_rfl) (by kernel_rfl) (by intro c a d v w h; cases d <;> exact h) rfl ⟨_, rfl⟩ (fun w => by rfl) ?_
  try simp only [Act.put, List.setIfInBounds_toArray, List.set_cons_succ, List.set_cons_zero]
  refine held_read 4 (v := .agg (knA kb)) rfl (by kernel_rfl) (by kernel_rfl) (by kernel_rfl) (by intro c a d v w h; cases d <;> exact h) rfl ⟨_, rfl⟩ (fun z hz => exec_load 28 (.tmp 5) _ _ rfl rfl (by obtain ⟨y, rfl⟩ := hz; exact hLb y)) ?_
  try simp only [Act.put, List.setIfInBounds_toArray, List.set_cons_succ, List.set_cons_zero]
  refine held_pure 5 (v := .int .i64 server) rfl (by kernel_rfl) (by kernel_rfl) (by kernel_rfl) (by intro c a d v w h; cases d <;> exact h) rfl ⟨_, rfl⟩ (fun w => by rfl) ?_
  try simp only [Act.put, List.setIfInBounds_toArray, List.set_cons_succ, List.set_cons_zero]
  refine held_pure 6 (v := .int .i64 now) rfl (by kernel_rfl) (by kernel_rfl) (by kernel_rfl) (by intro c a d v w h; cases d <;> exact h) rfl ⟨_, rfl⟩ (fun w => by rfl) ?_
  try simp only [Act.put, List.setIfInBounds_toArray, List.set_cons_succ, List.set_cons_zero]
  refine held_one 3 rfl (by kernel_rfl) rfl (fun K' hK' => ?_)
  go_simp
  refine (hTa y1).mono ?_
  rintro e w' ⟨A1, c1, rfl, l1, m1, s1, hq9⟩
  obtain ⟨y2, rfl⟩ := Wd.next _ hq9
  refine hK' _ _ ⟨y2, rfl⟩ ?_
  clear hK' K'
  try simp only [Act.put, List.setIfInBounds_toArray, List.set_cons_succ, List.set_cons_zero]
  refine held_one 7 rfl (by kernel_rfl) rfl (fun K' hK' => ?_)
  go_simp
  refine (hTb y2).mono ?_
  rintro e w' ⟨A2, c2, rfl, l2, m2, s2, hq9⟩
  obtain ⟨y3, rfl⟩ := Wd.next _ hq9
  have s1 := s1.q hq9
  refine hK' _ _ ⟨y3, rfl⟩ ?_
  clear hK' K'
  try simp only [Act.put, List.setIfInBounds_toArray, List.set_cons_succ, List.set_cons_zero]
  refine held_one 8 rfl (by kernel_rfl) rfl (fun K' hK' => ?_)
  go_simp
  refine (texts35_any A1 A2 c1 c2 TL y3.w s1 s2 (by omega)).mono ?_
  rintro e w' ⟨rfl, hq9⟩
  obtain ⟨y4, rfl⟩ := Wd.next _ hq9
  refine hK' _ _ ⟨y4, rfl⟩ ?_
  clear hK' K'
  try simp only [Act.put, List.setIfInBounds_toArray, List.set_cons_succ, List.set_cons_zero]
  refine held_pure 9 (v := .bool true) rfl (by kernel_rfl) (by kernel_rfl) (by kernel_rfl) (by intro c a d v w h; cases d <;> exact h) rfl ⟨_, rfl⟩ (fun w => by rfl) ?_
  try simp only [Act.put, List.setIfInBounds_toArray, List.set_cons_succ, List.set_cons_zero]
  refine wpAnyH_done (by kernel_rfl) ?_ _
  clear hTa hTb s1 s2 l1 m1 l2 m2
  go_upto_region 2 with (fail)
  refine wp_region_S (fun z => ∃ y : Wd w1, z = y.w) (by kernel_rfl) ⟨⟨_, y4.q.drew⟩, rfl⟩ ?_
  rintro _ ⟨y1, rfl⟩
  refine held_read 0 (v := .agg (knA ka)) rfl (by kernel_rfl) (by kernel_rfl) (by kernel_rfl) (by intro c a d v w h; cases d <;> exact h) rfl ⟨_, rfl⟩ (fun z hz => exec_load 28 (.tmp 4) _ _ rfl rfl (by obtain ⟨y, rfl⟩ := hz; exact hLa y)) ?_
  try simp only [Act.put, List.setIfInBounds_toArray, List.set_cons_succ, List.set_cons_zero]
  refine held_pure 1 (v := .int .i64 server) rfl (by kernel_rfl) (by kernel_rfl) (by kernel_rfl) (by intro c a d v w h; cases d <;> exact h) rfl ⟨_, rfl⟩ (fun w => by rfl) ?_
  try simp only [Act.put, List.setIfInBounds_toArray, List.set_cons_succ, List.set_cons_zero]
  refine held_pure 2 (v := .int .i64 now) rfl (by kernel_rfl) (by kernel_rfl) (by kernel_rfl) (by intro c a d v w h; cases d <;> exact h) rfl ⟨_, rfl⟩ (fun w => by rfl) ?_
  try simp only [Act.put, List.setIfInBounds_toArray, List.set_cons_succ, List.set_cons_zero]
  refine held_read 4 (v := .agg (knA kb)) rfl (by kernel_rfl) (by kernel_rfl) (by kernel_rfl) (by intro c a d v w h; cases d <;> exact h) rfl ⟨_, rfl⟩ (fun z hz => exec_load 28 (.tmp 5) _ _ rfl rfl (by obtain ⟨y, rfl⟩ := hz; exact hLb y)) ?_
  try simp only [Act.put, List.setIfInBounds_toArray, List.set_cons_succ, List.set_cons_zero]
  refine held_pure 5 (v := .int .i64 server) rfl (by kernel_rfl) (by kernel_rfl) (by kernel_rfl) (by intro c a d v w h; cases d <;> exact h) rfl ⟨_, rfl⟩ (fun w => by rfl) ?_
  try simp only [Act.put, List.setIfInBounds_toArray, List.set_cons_succ, List.set_cons_zero]
  refine held_pure 6 (v := .int .i64 now) rfl (by kernel_rfl) (by kernel_rfl) (by kernel_rfl) (by intro c a d v w h; cases d <;> exact h) rfl ⟨_, rfl⟩ (fun w => by rfl) ?_
  try simp only [Act.put, List.setIfInBounds_toArray, List.set_cons_succ, List.set_cons_zero]
  refine held_one 3 rfl (by kernel_rfl) rfl (fun K' hK' => ?_)
  go_simp
  refine (hEa y1).mono ?_
  rintro e w' ⟨A3, c3, rfl, l1, m1, s1, hq9⟩
  obtain ⟨y2, rfl⟩ := Wd.next _ hq9
  refine hK' _ _ ⟨y2, rfl⟩ ?_
  clear hK' K'
  try simp only [Act.put, List.setIfInBounds_toArray, List.set_cons_succ, List.set_cons_zero]
  refine held_one 7 rfl (by kernel_rfl) rfl (fun K' hK' => ?_)
  go_simp
  refine (hEb y2).mono ?_
  rintro e w' ⟨A4, c4, rfl, l2, m2, s2, hq9⟩
  obtain ⟨y3, rfl⟩ := Wd.next _ hq9
  have s1 := s1.q hq9
  refine hK' _ _ ⟨y3, rfl⟩ ?_
  clear hK' K'
  try simp only [Act.put, List.setIfInBounds_toArray, List.set_cons_succ, List.set_cons_zero]
  refine held_one 8 rfl (by kernel_rfl) rfl (fun K' hK' => ?_)
  go_simp
  refine (texts35_any A3 A4 c3 c4 KL y3.w s1 s2 (by omega)).mono ?_
  rintro e w' ⟨rfl, hq9⟩
  obtain ⟨y5, rfl⟩ := Wd.next _ hq9
  refine hK' _ _ ⟨y5, rfl⟩ ?_
  clear hK' K'
  try simp only [Act.put, List.setIfInBounds_toArray, List.set_cons_succ, List.set_cons_zero]
  refine held_pure 9 (v := .bool true) rfl (by kernel_rfl) (by kernel_rfl) (by kernel_rfl) (by intro c a d v w h; cases d <;> exact h) rfl ⟨_, rfl⟩ (fun w => by rfl) ?_
  try simp only [Act.put, List.setIfInBounds_toArray, List.set_cons_succ, List.set_cons_zero]
  refine wpAnyH_done (by kernel_rfl) ?_ _
  clear hEa hEb s1 s2 l1 m1 l2 m2
  unfold PanelIs at hPa hPb
  go_upto_region 4 with (first | (refine wpList_load_run 28 (.tmp 4) (.pointer (some ⟨w.heap.size, 0, none⟩)) (.agg (knA ka)) ?_ ?_ ?_ ?_ ?_; rfl; rfl; rfl; exact hLa _) | (go_at_call 41; refine (hPa _).mono ?_; rintro e w' ⟨A5, c5, rfl, s1, l1, hq9⟩; obtain ⟨y6, rfl⟩ := Wd.next _ hq9; clear hq9))
  go_upto_region 5 with (first | (refine wpList_load_run 28 (.tmp 5) (.pointer (some ⟨w.heap.size + 1, 0, none⟩)) (.agg (knA kb)) ?_ ?_ ?_ ?_ ?_; rfl; rfl; rfl; exact hLb _) | (go_at_call 41; refine (hPb _).mono ?_; rintro e w' ⟨A6, c6, rfl, s2, -, hq9⟩; have s1 := s1.q hq9; obtain ⟨y7, rfl⟩ := Wd.next _ hq9; clear hq9))
  have hTx := texts35_any A5 A6 c5 c6 PL y7.w s1 s2
  go_upto_region 6 with (go_at_call 39; refine (hTx l1).mono ?_; rintro e w' ⟨rfl, hq9⟩; obtain ⟨y8, rfl⟩ := Wd.next _ hq9; clear hq9)
  have hnn : (pn == pn) = true := by simp
  have hss : (SL.toList == SL.toList) = true := by simp
  clear hPa hPb hTx s1 s2
  refine wp_region_wd y8 (by kernel_rfl) (by kernel_rfl) ?_
  repeat (first | (refine wpQuiet_load_run 28 (.tmp 4) (.pointer (some ⟨w.heap.size, 0, none⟩)) (.agg (knA ka)) ?_ ?_ ?_ ?_ ?_; rfl; rfl; rfl; exact hLa; dsimp only [Act.put]; simp only [List.setIfInBounds_toArray, List.set_cons_succ, List.set_cons_zero]) | (refine wpQuiet_load_run 28 (.tmp 5) (.pointer (some ⟨w.heap.size + 1, 0, none⟩)) (.agg (knA kb)) ?_ ?_ ?_ ?_ ?_; rfl; rfl; rfl; exact hLb; dsimp only [Act.put]; simp only [List.setIfInBounds_toArray, List.set_cons_succ, List.set_cons_zero]) | go_big_quiet_step ((go_at_call 19; first | with_reducible exact Wd.call _ (hSa _) | with_reducible exact Wd.call _ (hSb _))))
  refine wpQuiet_nil ?_
  rintro w'' ⟨y9, rfl⟩
  go_wp2_with fail
  go_ret
  exact ⟨rfl, Q.trans HQ.out y9.q⟩
theorem KSt.next {W2 : World} {gk n n' : Nat} {wr w2 W' : World} {k k' : KR} (h : KSt W2 gk n wr k) (hq : Q wr w2) (hk : KIn w2 k') (hsv : k'.sv = pubs35) (hf : Filled pubs35 k'.l) (hn : k'.l.length ≤ n') (hd : ∀ x ∈ k'.l, x.kind = 3) (hW : Blk W' gk 28 k'.cells.toArray) (hbel : ∀ B w0, B ≤ gk → Below B w0 w2 → Below B w0 W') (hfar : ∀ b, b ≠ gk → W'.heap[b]? = w2.heap[b]?) : KSt W2 gk n' W' k' := by
  have hb2 := h.blk.q hq
  have hside : _root_.Go.Proofs.YtjfcllanochhmaaGreatDoor.Known.Aside w2 W' gk := ⟨known_only35 hb2, hfar, (hbel _ _ (Nat.le_refl _) (Below.refl gk w2)).size⟩
  exact ⟨hbel _ _ (Nat.le_refl _) (h.q.trans (hq.mono (Nat.le_of_lt h.blk.lt))), hW, hside.known hk, hsv, hf, hn, hd⟩
theorem bytes_decK {x : ItemR} (h : itemRight x = true) (hk : x.kind = 3) : itemBytes (itDec x.dec) = itemBytes x := by
  have h2 := right_decK h hk
  have hb : itemBytesL (itDec x.dec) = itemBytesL x := by
    unfold itemBytesL itemL sigV
    rw [hk]
    rfl
  unfold itemBytes
  rw [h, h2, hb]
theorem bytes_le {d : DecR} (h : itemRight (itDec d) = true) : (itemBytes (itDec d)).size ≤ 9223372036854775807 := by
  have h1 := itemL_le (itDec d) (small_right h (fun hh => by cases (show (3 : Int) = 0 from hh)))
  have h2 := congrArg List.length (bytes_dec h)
  rw [ba_length] at h2
  simp only [List.length_append] at h2
  have h3 : ∀ n, (numL n).length ≤ 10 := fun n => by
    unfold numL
    rw [ba_length]
    exact numB_size n
  have h4 := h3 3
  have h5 := h3 d.e
  have h6 := h3 d.s
  have h7 : (decL d).length ≤ 110000000 := h1
  omega
set_option maxRecDepth 100000 in
set_option maxHeartbeats 16000000 in
theorem bytes_any (A : Option Addr) (c : Nat) (l : List DecR) (server now : Int) (w : World) (hT : Tab w) (hR : RowsAt w A 12 DecR.cells l) (hb : ∀ d ∈ l, d.actor.size ≤ 140737488355328 ∧ d.object.size ≤ 140737488355328) (hI : ∀ d ∈ l, DecIn w d) (hFt : ∀ d ∈ l, fewD d = true → Fit d) (hlm : l.length ≤ maxLen) :
    Calls Tryz.prog 3 #[.slice A l.length c, .int .i64 server, .int .i64 now] w fun e w' => e = .returned (.bool true) ∧ Q w w' := by
  have hSm := fun y : Wd w => small35_any y.w (hT.q y.q)
  have hFw := fun y : Wd w => few35_any A c l y.w (hR.q y.q) hb hlm
  have hmx : maxLen = 9223372036854775807 := by decide
  have hp3 : pubs35.length = 3 := rfl
  obtain ⟨x, hx⟩ := Wd.first w
  refine (show Calls Tryz.prog 3 #[.slice A l.length c, .int .i64 server, .int .i64 now] x.w _ → _ from fun h => by rwa [← hx] at h) ?_
  clear hx
  cases hfw : fewL l
  · rw [hfw] at hFw
    generalize l.length = nl at *
    go_enter Tryz.func3, Tryz.ntmps3
    go_wp2_with (first | (go_at_call 4; refine (hSm _).mono ?_; rintro e w' ⟨rfl, hq2⟩; obtain ⟨y, rfl⟩ := Wd.next _ hq2; clear hq2) | (go_at_call 5; refine (hFw _).mono ?_; rintro e w' ⟨rfl, hq2⟩; obtain ⟨y, rfl⟩ := Wd.next _ hq2; clear hq2))
    go_ret
    exact ⟨rfl, y.q⟩
  rw [hfw] at hFw
  obtain ⟨h14, hfd⟩ := few_of hfw
  have hSet := fun y : Wd w => set35_any A c l y.w (hT.q y.q) (hR.q y.q) (fun d hd => (hI d hd).q y.q) (fun d hd => hFt d hd (hfd d hd)) h14
  clear hR hb hI hFt hfd hfw
  generalize l.length = nd at *
  go_enter Tryz.func3, Tryz.ntmps3
  go_upto_region 6 with (first | (go_at_call 4; refine (hSm _).mono ?_; rintro e w' ⟨rfl, hq2⟩; obtain ⟨y, rfl⟩ := Wd.next _ hq2; clear hq2) | (go_at_call 5; refine (hFw _).mono ?_; rintro e w' ⟨rfl, hq2⟩; obtain ⟨y, rfl⟩ := Wd.next _ hq2; clear hq2) | (go_at_call 6; refine (hSet _).mono ?_; rintro e w' ⟨k, rfl, hks, hkF, ⟨hkl, hkd⟩, hkK, hq2⟩; obtain ⟨y9, rfl⟩ := Wd.next _ hq2; clear hq2) | (refine wpList_store_blk (Blk.new y9.w 28 known0.cells.toArray) rfl 28 (.tmp 9) (.tmp 24) k.cells rfl rfl rfl (by kernel_rfl) (kn_all _) (Nat.le_refl 2) ?_))
  intro W hW hbel
  rw [splice_all _ _ (by rfl)] at hW
  have hqW : Q w W := hbel _ _ y9.q.size (Q.trans y9.q (q_new _ _ _))
  have hkW : KIn W k := hkK.q (hbel _ _ (Nat.le_refl _) (q_new _ _ _))
  have hTW : ∀ z : Wd W, Tab z.w := fun z => hT.q (Q.trans hqW z.q)
  have hLa : ∀ z : Wd W, (Instr.loadAt 28 (.pointer (some ⟨y9.w.heap.size, 0, none⟩))).run Tryz.prog z.w = .ok (.agg (knA k)) z.w := Wd.load hW.lt (Blk.range hW) Tryz.underlying28 rfl (by kernel_rfl)
  have ca : ∀ z : Wd W, z.w.cell? ⟨y9.w.heap.size, 1, none⟩ = some (.slice k.iA k.l.length k.iC) := fun z => (z.blk hW).cell 1
  have hPu := fun z : Wd W => pubs35_any z.w (hTW z)
  have HQW := Lib.hid hqW
  have hgW := hW.lt
  clear hbel hW hkK hSm hFw hSet hqW
  generalize y9.w.heap.size = ga at *
  clear y9
  obtain ⟨u, hu⟩ := Wd.first W
  rw [hu]
  clear hu
  go_upto_region 7 with (first | (go_at_call 8; refine (hPu _).mono ?_; rintro e w' ⟨A3, c3, rfl, hI3, hq2⟩; have hnew := new_any A3 c3 pubs35 w' hI3 (by rw [hp3]; omega); rw [hp3] at hnew; obtain ⟨y, rfl⟩ := Wd.next _ hq2; clear hq2 hI3) | (go_at_call 7; refine hnew.mono ?_; rintro e w' ⟨kn, rfl, hns, hnl, hnK, hq2⟩; obtain ⟨y2, rfl⟩ := Wd.next _ hq2; clear hq2) | (refine wpList_store_blk (Blk.new y2.w 28 known0.cells.toArray) rfl 28 (.tmp 10) (.tmp 26) kn.cells rfl rfl rfl (by kernel_rfl) (kn_all _) (Nat.le_refl 2) ?_))
  intro W2 hW2 hbel2
  rw [splice_all _ _ (by rfl)] at hW2
  have hq2 : Q W W2 := hbel2 _ _ y2.q.size (Q.trans y2.q (q_new _ _ _))
  have hgb : W.heap.size ≤ y2.w.heap.size := y2.q.size
  have hst0 : KSt W2 y2.w.heap.size 0 W2 kn := ⟨Below.refl _ _, hW2, hnK.q (hbel2 _ _ (Nat.le_refl _) (q_new _ _ _)), hns, by rw [hnl]; exact Filled.nil _, by rw [hnl]; exact Nat.le_refl _, by rw [hnl]; simp⟩
  have HST0 := Lib.hid hst0
  have HQ2 := Lib.hid hq2
  have HRB0 : Hid (RB k.l 0 kn.l) := Lib.hid (by rw [hnl]; exact RB.start _)
  clear hst0 hW2 hbel2 hnK hns hnl hnew hPu hq2
  generalize y2.w.heap.size = gb at *
  clear y2 y
  generalize hnk : k.l.length = nk at *
  have hLaR : ∀ wr, Q W wr → (Instr.loadAt 28 (.pointer (some ⟨ga, 0, none⟩))).run Tryz.prog wr = .ok (.agg (knA k)) wr := fun wr h => hLa ⟨wr, h⟩
  have hTR : ∀ wr, Q W wr → Tab wr := fun wr h => hTW ⟨wr, h⟩
  have caR : ∀ wr, Q W wr → wr.cell? ⟨ga, 1, none⟩ = some (.slice k.iA nk k.iC) := fun wr h => ca ⟨wr, h⟩
  clear hLa hTW ca
  go_wp2_with fail
  go_loopw [11] (fun i wr => ∃ (j : Nat) (kb : KR), i = .int .i64 j ∧ j ≤ nk ∧ KSt W2 gb j wr kb ∧ RB k.l j kb.l) (fun i _ => nk - (intOf i).toNat)
  case atStart => exact ⟨0, kn, rfl, Nat.zero_le _, HST0.out, HRB0.out⟩
  case round =>
    obtain ⟨j, kb, rfl, hj, hst, hrb⟩ := hrel
    have hqr : Q W wr := Below.trans HQ2.out (hst.q.mono hgb)
    have hcb := caR wr hqr
    by_cases hlt : j < nk
    · have hltL : j < k.l.length := by omega
      have hltI : (j : Int) < (nk : Int) := by omega
      have hjI : (0 : Int) ≤ (j : Int) := by omega
      obtain ⟨b, o, eA, hb0, hcs⟩ := (hkW.items.rows.q hqr) (by omega)
      have hm := List.getElem_mem hltL
      have hkj := hkd _ hm
      have hrj := signed_right (hkF.all _ hm)
      have hld : ∀ y : Wd wr, (Instr.loadAt 47 (.pointer (some ⟨b, o + j * 49, none⟩))).run Tryz.prog y.w = .ok (.agg (itA k.l[j])) y.w := Wd.load hb0 (hcs j hltL) Tryz.underlying47 rfl (by kernel_rfl)
      have hBy : ∀ y : Wd wr, Calls Tryz.prog 10 #[.agg (itA k.l[j])] y.w fun e w' => e = .returned (.string (itemBytes (itDec k.l[j].dec))) ∧ Q y.w w' := fun y => by
        have h := itemBytes_any k.l[j] y.w ((hkW.items.each _ hm).q (Q.trans hqr y.q))
        rwa [← bytes_decK hrj hkj] at h
      have hrd := right_decK hrj hkj
      have hRd := fun y : Wd wr => readIt_any k.l[j].dec y.w hrd (bytes_le hrd)
      have hRB := fun A c => hrb.step hkF hkd hst.fil hltL A c
      rw [eA] at hcb
      obtain ⟨z, hz⟩ : ∃ z : Wd wr, wr = z.w := ⟨⟨wr, Q.refl _⟩, rfl⟩
      have hcz : ∀ y : Wd wr, y.w.cell? ⟨ga, 1, none⟩ = some (.slice (some ⟨b, o, none⟩) nk k.iC) := fun y => by
        have h := caR y.w (Q.trans hqr y.q)
        rwa [eA] at h
      have hlen : kb.l.length ≤ 100000 := by have := hst.len; omega
      clear hcs hcb eA hkj hrj hrd
      generalize k.l[j].dec = d at *
      generalize k.l[j] = xi at *
      generalize itemBytes (itDec d) = bs at *
      unfold ReadIs at hRd
      rw [hz]
      clear hz
      go_upto_region 11 with (first | (refine wpList_index_rows 26 47 (.tmp 36) (.tmp 37) b o nk k.iC j 49 rfl rfl rfl rfl Tryz.underlying26 (by kernel_rfl) Tryz.sizeOf47 hlt ?_) | (refine wpList_load_run 47 (.tmp 38) (.pointer (some ⟨b, o + j * 49, none⟩)) (.agg (itA xi)) ?_ ?_ ?_ ?_ ?_; rfl; rfl; rfl; exact hld _) | (go_at_call 10; refine (hBy _).mono ?_; rintro e w' ⟨rfl, hq9⟩; obtain ⟨y3, rfl⟩ := Wd.next _ hq9; clear hq9) | (go_at_call 9; refine (hRd _).mono ?_; rintro e w' ⟨RA, rc, rfl, hdi, hq9⟩; obtain ⟨y4, rfl⟩ := Wd.next _ hq9; clear hq9) | (refine wpList_store_blk (Blk.new y4.w 47 item0.cells.toArray) rfl 47 (.tmp 12) (.tmp 42) (itDec (DecR.to' d RA rc)).cells rfl rfl rfl (by kernel_rfl) (it_all _) (Nat.le_refl 49) ?_))
      intro W5 hW5 hbel5
      rw [splice_all _ _ (by rfl)] at hW5
      have hq5 : Q wr W5 := hbel5 _ _ y4.q.size (Q.trans y4.q (q_new _ _ _))
      have hdi5 : DecIn W5 (DecR.to' d RA rc) := hdi.q (hbel5 _ _ (Nat.le_refl _) (q_new _ _ _))
      have hLi : ∀ z : Wd W5, (Instr.loadAt 47 (.pointer (some ⟨y4.w.heap.size, 0, none⟩))).run Tryz.prog z.w = .ok (.agg (itA (itDec (DecR.to' d RA rc)))) z.w := Wd.load hW5.lt (Blk.range hW5) Tryz.underlying47 rfl (by kernel_rfl)
      have hb5 := hst.blk.q hq5
      have hLb : ∀ z : Wd W5, (Instr.loadAt 28 (.pointer (some ⟨gb, 0, none⟩))).run Tryz.prog z.w = .ok (.agg (knA kb)) z.w := Wd.load hb5.lt (Blk.range hb5) Tryz.underlying28 rfl (by kernel_rfl)
      obtain ⟨hok, hrb2⟩ := hRB RA rc
      have hAd := fun z : Wd W5 => add_any kb (itDec (DecR.to' d RA rc)) z.w (hTR _ (Q.trans hqr (Q.trans hq5 z.q))) (hst.inn.q (Q.trans hq5 z.q)) ⟨act0_in z.w, hdi5.q z.q⟩ hlen
      unfold AddIs at hAd
      rw [hst.hsv, hok] at hAd
      have hxk : (itDec (DecR.to' d RA rc)).kind = 3 := rfl
      generalize itDec (DecR.to' d RA rc) = it at *
      clear hbel5 hW5 hdi hRB hdi5 hRd hBy hld hcz hb0 hm
      generalize y4.w.heap.size = gi at *
      clear y4 y3 z
      obtain ⟨z, hz⟩ := Wd.first W5
      rw [hz]
      clear hz
      go_upto_region 12 with (first | (refine wpList_load_run 28 (.tmp 10) (.pointer (some ⟨gb, 0, none⟩)) (.agg (knA kb)) ?_ ?_ ?_ ?_ ?_; rfl; rfl; rfl; exact hLb _) | (refine wpList_load_run 47 (.tmp 12) (.pointer (some ⟨gi, 0, none⟩)) (.agg (itA it)) ?_ ?_ ?_ ?_ ?_; rfl; rfl; rfl; exact hLi _) | (go_at_call 11; refine (hAd _).mono ?_; rintro e w' ⟨k2, rfl, hs2, hl2, hK2, hq9⟩; obtain ⟨y5, rfl⟩ := Wd.next _ hq9; clear hq9) | (refine wpList_store_blk (Blk.new y5.w 28 known0.cells.toArray) rfl 28 (.tmp 14) (.tmp 48) k2.cells rfl rfl rfl (by kernel_rfl) (kn_all _) (Nat.le_refl 2) ?_))
      intro W7 hW7 hbel7
      rw [splice_all _ _ (by rfl)] at hW7
      have hq7 : Q wr W7 := Q.trans hq5 (hbel7 _ _ y5.q.size (Q.trans y5.q (q_new _ _ _)))
      have hK7 : KIn W7 k2 := hK2.q (hbel7 _ _ (Nat.le_refl _) (q_new _ _ _))
      have hL7 := Wd.load (P := Tryz.prog) (ty := 28) (cs := k2.cells) hW7.lt (Blk.range hW7) Tryz.underlying28 rfl (by kernel_rfl) ⟨W7, Q.refl W7⟩
      have hb7 := hst.blk.q hq7
      have hrb3 : RB k.l (j + 1) k2.l := by rw [hl2]; exact hrb2
      have hnx := fun W8 => KSt.next (n' := j + 1) (W' := W8) hst hq7 hK7 hs2 (by rw [hl2]; exact hst.fil.add _) (by
          rw [hl2, addK_length]
          have := hst.len
          split <;> omega) (by rw [hl2]; exact kd_add hst.kd hxk)
      have HRB3 := Lib.hid hrb3
      clear hrb3 hrb2 hK7 hs2 hl2 hK2 hbel7 hW7 hAd hLi hLb hok hrb
      generalize y5.w.heap.size = gt at *
      clear y5
      go_wp2_with (first | (refine wpList_load_run 28 (.tmp 14) (.pointer (some ⟨gt, 0, none⟩)) (.agg (knA k2)) ?_ ?_ ?_ ?_ ?_; rfl; rfl; rfl; exact hL7) | (refine wpList_store_far (cs := kb.cells) hb7 rfl 28 (.tmp 10) (.tmp 56) k2.cells rfl rfl rfl (by kernel_rfl) (kn_all _) (Nat.le_refl 2) ?_))
      intro W8 hW8 hbel8 hfar8
      rw [splice_all _ _ (by rfl)] at hW8
      have HST8 := Lib.hid (hnx W8 hW8 hbel8 hfar8)
      clear hnx hW8 hbel8 hfar8 hst hb7 hL7 hb5
      go_wp2_with fail
      exact ⟨⟨j + 1, k2, by go_num, by omega, HST8.out, HRB3.out⟩, by simp only [intOf]; omega⟩
    · obtain rfl : j = nk := by omega
      have hnl2 : ¬ ((j : Int) < (j : Int)) := by omega
      obtain ⟨z, hz⟩ : ∃ z : Wd wr, wr = z.w := ⟨⟨wr, Q.refl _⟩, rfl⟩
      have hcz : ∀ y : Wd wr, y.w.cell? ⟨ga, 1, none⟩ = some (.slice k.iA j k.iC) := fun y => caR y.w (Q.trans hqr y.q)
      have hTz : ∀ y : Wd wr, Tab y.w := fun y => hTR y.w (Q.trans hqr y.q)
      have hv : validK kb.sv (listDe server kb.l) = validK k.sv (listDe server k.l) := by
        rw [hst.hsv, hks]
        rw [← hnk] at hrb
        exact hrb.valid hkF hkd hst.fil server
      have hna : k.l.length ≤ 20 := by omega
      have hnb : kb.l.length ≤ 20 := by have := hst.len; omega
      have hKa : ∀ y : Wd wr, KIn y.w k := fun y => hkW.q (Q.trans hqr y.q)
      have hKb : ∀ y : Wd wr, KIn y.w kb := fun y => hst.inn.q y.q
      have hLa : ∀ y : Wd wr, (Instr.loadAt 28 (.pointer (some ⟨ga, 0, none⟩))).run Tryz.prog y.w = .ok (.agg (knA k)) y.w := fun y => hLaR y.w (Q.trans hqr y.q)
      have hLb : ∀ y : Wd wr, (Instr.loadAt 28 (.pointer (some ⟨gb, 0, none⟩))).run Tryz.prog y.w = .ok (.agg (knA kb)) y.w := Wd.load hst.blk.lt (Blk.range hst.blk) Tryz.underlying28 rfl (by kernel_rfl)
      have hFa := fun y : Wd wr => inforce35_any k server now y.w (hTz y) (hKa y) hna
      have hFb := fun y : Wd wr => inforce35_any kb server now y.w (hTz y) (hKb y) hnb
      have hEq := fun y : Wd wr => equal35_any k kb server now y.w (hTz y) (hKa y) (hKb y) hna hnb hv
      rw [hv] at hFb
      have hvle := valid_le k.sv (listDe server k.l) (listDe server k.l).length
      rw [List.take_length] at hvle
      have hln := listDe_le server k.l
      have hfle : (forceK now (validK k.sv (listDe server k.l))).length ≤ 20 := by
        unfold forceK curL
        refine Nat.le_trans (List.length_filter_le _ _) (Nat.le_trans (List.length_filter_le _ _) ?_)
        omega
      have HQr := Lib.hid (Q.trans HQW.out hqr)
      unfold ForceAre at hFa hFb
      generalize forceK now (validK k.sv (listDe server k.l)) = FK at *
      clear hvle hln hv hKa hKb hTz hcb hrb hst hLaR hTR caR hkW hkF hkd HST0 HRB0 HQ2
      rw [hz]
      clear hz
      go_upto_region 15 with (fail)

      go_upto_region 15 with (fail)
      refine wp_region_S (fun z => ∃ y : Wd wr, z = y.w) (by kernel_rfl) ⟨⟨_, z.q.drew⟩, rfl⟩ ?_
      rintro _ ⟨y1, rfl⟩
      refine held_read 0 (v := .agg (knA k)) rfl (by kernel_rfl) (by kernel_rfl) (by kernel_rfl) (by intro c a d v w h; cases d <;> exact h) rfl ⟨_, rfl⟩ (fun z hz => exec_load 28 (.tmp 9) _ _ rfl rfl (by obtain ⟨y, rfl⟩ := hz; exact hLa y)) ?_
      try simp only [Act.put, List.setIfInBounds_toArray, List.set_cons_succ, List.set_cons_zero]
      refine held_pure 1 (v := .int .i64 server) rfl (by kernel_rfl) (by kernel_rfl) (by kernel_rfl) (by intro c a d v w h; cases d <;> exact h) rfl ⟨_, rfl⟩ (fun w => by rfl) ?_
      try simp only [Act.put, List.setIfInBounds_toArray, List.set_cons_succ, List.set_cons_zero]
      refine held_pure 2 (v := .int .i64 now) rfl (by kernel_rfl) (by kernel_rfl) (by kernel_rfl) (by intro c a d v w h; cases d <;> exact h) rfl ⟨_, rfl⟩ (fun w => by rfl) ?_
      try simp only [Act.put, List.setIfInBounds_toArray, List.set_cons_succ, List.set_cons_zero]
      refine held_read 4 (v := .agg (knA kb)) rfl (by kernel_rfl) (by kernel_rfl) (by kernel_rfl) (by intro c a d v w h; cases d <;> exact h) rfl ⟨_, rfl⟩ (fun z hz => exec_load 28 (.tmp 10) _ _ rfl rfl (by obtain ⟨y, rfl⟩ := hz; exact hLb y)) ?_
      try simp only [Act.put, List.setIfInBounds_toArray, List.set_cons_succ, List.set_cons_zero]
      refine held_pure 5 (v := .int .i64 server) rfl (by kernel_rfl) (by kernel_rfl) (by kernel_rfl) (by intro c a d v w h; cases d <;> exact h) rfl ⟨_, rfl⟩ (fun w => by rfl) ?_
      try simp only [Act.put, List.setIfInBounds_toArray, List.set_cons_succ, List.set_cons_zero]
      refine held_pure 6 (v := .int .i64 now) rfl (by kernel_rfl) (by kernel_rfl) (by kernel_rfl) (by intro c a d v w h; cases d <;> exact h) rfl ⟨_, rfl⟩ (fun w => by rfl) ?_
      try simp only [Act.put, List.setIfInBounds_toArray, List.set_cons_succ, List.set_cons_zero]
      refine held_one 3 rfl (by kernel_rfl) rfl (fun K' hK' => ?_)
      go_simp
      refine (hFa y1).mono ?_
      rintro e w' ⟨A1, c1, fa, rfl, -, -, hE1, hR1, hO1, hq9⟩
      obtain ⟨y2, rfl⟩ := Wd.next _ hq9
      have hfl : fa.length ≤ 100 := by have h1 := congrArg List.length hE1; rw [List.length_map] at h1; omega
      refine hK' _ _ ⟨y2, rfl⟩ ?_
      clear hK' K'
      try simp only [Act.put, List.setIfInBounds_toArray, List.set_cons_succ, List.set_cons_zero]
      refine held_one 7 rfl (by kernel_rfl) rfl (fun K' hK' => ?_)
      go_simp
      refine (hFb y2).mono ?_
      rintro e w' ⟨A2, c2, fb, rfl, -, -, hE2, hR2, hO2, hq9⟩
      obtain ⟨y3, rfl⟩ := Wd.next _ hq9
      have hR1 := hR1.q hq9
      have hO1 := fun e he => (hO1 e he).q hq9
      refine hK' _ _ ⟨y3, rfl⟩ ?_
      clear hK' K'
      try simp only [Act.put, List.setIfInBounds_toArray, List.set_cons_succ, List.set_cons_zero]
      refine held_one 8 rfl (by kernel_rfl) rfl (fun K' hK' => ?_)
      go_simp
      refine (same35_any A1 A2 c1 c2 fa fb y3.w hR1 hR2 (fun e he => (hO1 e he).inn) (fun e he => (hO2 e he).inn) (hE1.trans hE2.symm) hfl).mono ?_
      rintro e w' ⟨rfl, hq9⟩
      obtain ⟨y4, rfl⟩ := Wd.next _ hq9
      refine hK' _ _ ⟨y4, rfl⟩ ?_
      clear hK' K'
      try simp only [Act.put, List.setIfInBounds_toArray, List.set_cons_succ, List.set_cons_zero]
      refine held_pure 9 (v := .bool true) rfl (by kernel_rfl) (by kernel_rfl) (by kernel_rfl) (by intro c a d v w h; cases d <;> exact h) rfl ⟨_, rfl⟩ (fun w => by rfl) ?_
      try simp only [Act.put, List.setIfInBounds_toArray, List.set_cons_succ, List.set_cons_zero]
      refine wpAnyH_done (by kernel_rfl) ?_ _
      clear hFa hFb hR1 hR2 hO1 hO2 hE1 hE2 hcz
      go_wp2_with (first | (refine wpList_load_run 28 (.tmp 9) (.pointer (some ⟨ga, 0, none⟩)) (.agg (knA k)) ?_ ?_ ?_ ?_ ?_; rfl; rfl; rfl; exact hLa _) | (refine wpList_load_run 28 (.tmp 10) (.pointer (some ⟨gb, 0, none⟩)) (.agg (knA kb)) ?_ ?_ ?_ ?_ ?_; rfl; rfl; rfl; exact hLb _) | (go_at_call 14; refine (hEq _).mono ?_; rintro e w' ⟨rfl, hq9⟩; obtain ⟨y5, rfl⟩ := Wd.next _ hq9; clear hq9))
      go_ret
      exact ⟨rfl, Q.trans HQr.out y5.q⟩
theorem bytes_call (A : Option Addr) (c : Nat) (l : List DecR) (server now : Int) (w : World) (hT : Tab w) (hR : RowsAt w A 12 DecR.cells l) (hd : ∀ d ∈ l, (DecIn w d ∧ NOk [d.server, d.number, d.kind, d.n, d.start, d.stop, d.e, d.s]) ∧ d.actor.size ≤ 1048576 ∧ d.object.size ≤ 1048576 ∧ ∀ s ∈ d.to, s.size ≤ 1048576) (hcm : c ≤ maxLen) (hlc : l.length ≤ c) :
    Calls Tryz.prog 3 #[.slice A l.length c, .int .i64 server, .int .i64 now] w fun e w' => e = .returned (.bool true) ∧ Q w w' :=
  bytes_any A c l server now w hT hR (fun d h => ⟨by have := (hd d h).2.1; omega, by have := (hd d h).2.2.1; omega⟩) (fun d h => (hd d h).1.1) (fun d h hf => fit_of d hf (hd d h).1.2 (hd d h).2.2.2) (Nat.le_trans hlc hcm)
end Go.Proofs.YtjfcllanochhmaaGreatDoor.Dec

namespace Go.Proofs.YtjfcllanochhmaaGreatDoor.Mem
open Go.RowKit Go.ChangeShapes Go.WideShapes Go.Deep Grp _root_.Go.Proofs.YtjfcllanochhmaaGreatDoor.Code Sha Sign

theorem mem_weightsAll {H : Type} {P : Program} {e : TypeId} {n : Nat} : ∀ {l : List (DataW H)} {d : DataW H}, d ∈ l → n ∈ d.weights P e → n ∈ DataW.weightsAll P e l
  | a :: l, d, hd, hn => by
    simp only [DataW.weightsAll, List.mem_append]
    rcases List.mem_cons.1 hd with rfl | hd
    · exact .inl hn
    · exact .inr (mem_weightsAll hd hn)
section
variable {H : Type} {enc : TypeId × Value → H} {P : Program} {W : World} {base : Nat} {spare : Nat → Bool} {held : Bool}
/-- Whatever reads at type t, with weights in reach, is f of something good. -/
def OpensW {α : Type} (enc : TypeId × Value → H) (P : Program) (W : World) (base : Nat) (spare : Nat → Bool) (held : Bool) (t : TypeId) (f : α → List Value) (G : α → Prop) : Prop :=
  ∀ (fuel : Nat) (cs : List Value) (x : DataW H × List MemPlace), DataW.trod enc P W base spare held fuel t cs = some x → (∀ n ∈ x.1.weights P t, n ≤ reachBytes) → ∃ a, cs = f a ∧ G a
theorem Opens.wide {α : Type} {t : TypeId} {f : α → List Value} {G : α → Prop} (h : Opens enc P W base spare held t f G) : OpensW enc P W base spare held t f G := fun fuel cs x hx _ => h fuel cs x hx
theorem opensW_str {t : TypeId} (ht : P.underlying t = some .string) : OpensW enc P W base spare held t (fun s : ByteArray => [.string s]) fun s => s.size ≤ reachBytes := fun fuel cs x h hw => by
  obtain ⟨s, rfl, rfl, hs⟩ := DataW.trod_string ht h
  refine ⟨s, rfl, ?_⟩
  have := hw s.data.toList.length (by simp [DataW.weights])
  rwa [ba_length] at this
theorem opensW_slice {α : Type} [Inhabited α] {t e : TypeId} {k : Nat} {f : α → List Value} {G : α → Prop} (ht : P.underlying t = some (.slice e)) (hk : P.cellsOf e = k) (h0 : 0 < k) (hO : OpensW enc P W base spare held e f G) :
    OpensW enc P W base spare held t SliceR.cells (SliceR.Good W k f G) := fun fuel cs x h hw => by
  rcases DataW.trod_slice ht h with ⟨rfl, -⟩ | ⟨a, len, cap, elems, rest, n, -, rfl, hx, hb, hl, hm, hel, hx1, -, -⟩
  · exact ⟨⟨none, [], 0⟩, rfl, ⟨Nat.le_refl _, Nat.zero_le _, by simp, RowsAt.nil _ _ _ _⟩⟩
  have each : ∀ i, i < len → ∃ y : α, G y ∧ W.cells? base (a.add (i * k)) k = some (f y) := by
    intro i hi
    have h1 := hx1 i hi
    rw [hk, List.getElem?_eq_getElem (show i < elems.length by omega)] at h1
    obtain ⟨cs', h2, h3⟩ := Option.bind_eq_some_iff.1 h1
    obtain ⟨y, rfl, hy⟩ := hO _ _ _ h3 (fun m hm => hw m (by
      rw [hx]
      simp only [DataW.weights, ht, List.mem_cons, List.mem_append]
      exact .inr (.inl (mem_weightsAll (List.mem_map.2 ⟨_, List.getElem_mem _, rfl⟩) hm))))
    exact ⟨y, hy, h2⟩
  obtain ⟨g, hg⟩ := choose_lt each
  have hlen : ((List.range len).map g).length = len := by simp
  refine ⟨⟨some a, (List.range len).map g, cap⟩, by unfold SliceR.cells; rw [hlen], ⟨by rw [hlen]; exact hl, hm, fun y hy => ?_, fun h1 => ?_⟩⟩
  · obtain ⟨i, hi, rfl⟩ := List.mem_map.1 hy
    exact (hg i (List.mem_range.1 hi)).1
  · dsimp only at h1
    rw [hlen] at h1
    have hc := fun i hi => World.cells?_some (hg i hi).2
    obtain ⟨b, o, s⟩ := a
    have hs : s = none ∧ b < W.heap.size := by
      obtain ⟨_, hl0, hc0⟩ := hc 0 h1
      have h2 := hc0 0 h0
      rw [List.getElem?_eq_getElem (show 0 < (f (g 0)).length by omega)] at h2
      simp only [Nat.zero_mul, Addr.add] at h2
      unfold World.cell? at h2
      simp only [if_true] at h2
      split at h2
      · rename_i hh
        cases s with
        | none => exact ⟨rfl, (Array.getElem?_eq_some_iff.1 hh).1⟩
        | some x => simp at h2
      · cases h2
    obtain ⟨rfl, hbl⟩ := hs
    refine ⟨b, o, rfl, hbl, fun j hj i v hv => ?_⟩
    have hj' : j < len := by dsimp only at hj; rwa [hlen] at hj
    obtain ⟨_, hl1, hc1⟩ := hc j hj'
    dsimp only at hv
    rw [List.getElem_map, List.getElem_range] at hv
    have hik : i < k := by rw [← hl1]; exact (List.getElem?_eq_some_iff.1 hv).1
    have := hc1 i hik
    rw [hv, add_add, Addr.add_mid] at this
    rw [Nat.add_assoc]
    exact this
/-- A field of a struct, with its weights. -/
theorem fieldW_opens {α : Type} {n i off k : Nat} {xs : List (DataW H × List MemPlace)} {x : DataW H × List MemPlace} {cs : List Value} {t u : TypeId} {fs : Array Field} {F : Field} {ps : List MemPlace} {f : α → List Value} {G : α → Prop}
    (ht : P.underlying t = some (.struct fs)) (hx : x = (.agg (xs.map (·.1)), ps)) (hw : ∀ n ∈ x.1.weights P t, n ≤ reachBytes) (hF : fs[i]? = some F) (hu : F.type = u)
    (hf : DataW.trod enc P W base spare held n u ((cs.drop off).take (P.cellsOf u)) = xs[i]?) (hi : i < xs.length) (hk : P.cellsOf u = k) (hO : OpensW enc P W base spare held u f G) : ∃ a, (cs.drop off).take k = f a ∧ G a := by
  rw [hk, List.getElem?_eq_getElem hi] at hf
  refine hO _ _ _ hf fun m hm => hw m ?_
  rw [hx]
  simp only [DataW.weights, ht]
  refine DataW.weights_mem_each (j := i) (t := u) (d := xs[i].1) ?_ ?_ m hm
  · rw [List.getElem?_map, Array.getElem?_toList, hF, ← hu]
    rfl
  · rw [List.getElem?_map, List.getElem?_eq_getElem hi]
    rfl
end
end Go.Proofs.YtjfcllanochhmaaGreatDoor.Mem

namespace Go.Proofs.YtjfcllanochhmaaGreatDoor.Mem
open Go.RowKit Go.ChangeShapes Go.WideShapes Go.Deep Grp _root_.Go.Proofs.YtjfcllanochhmaaGreatDoor.Code Sha Sign

theorem bulk_part {H : Type} {d : DataW H} {l : List (DataW H)} (h : d ∈ l) : Rows.uptoBulk d ≤ Rows.uptoBulkAll l := by
  induction l with
  | nil => cases h
  | cons x r ih =>
    simp only [Rows.uptoBulkAll]
    cases List.mem_cons.1 h with
    | inl e => subst e; omega
    | inr e => have := ih e; omega
section
variable {H : Type} {enc : TypeId × Value → H} {P : Program} {W : World} {base : Nat} {spare : Nat → Bool} {held : Bool}
/-- Whatever reads at type t, of bulk within the bound, is f of something good. -/
def OpensB {α : Type} (enc : TypeId × Value → H) (P : Program) (W : World) (base : Nat) (spare : Nat → Bool) (held : Bool) (t : TypeId) (f : α → List Value) (G : α → Prop) : Prop :=
  ∀ (fuel : Nat) (cs : List Value) (x : DataW H × List MemPlace), DataW.trod enc P W base spare held fuel t cs = some x → Rows.uptoBulk x.1 ≤ 1048576 → ∃ a, cs = f a ∧ G a
theorem opensB_str {t : TypeId} (ht : P.underlying t = some .string) : OpensB enc P W base spare held t (fun s : ByteArray => [.string s]) fun s => s.size ≤ 1048576 := fun fuel cs x h hw => by
  obtain ⟨s, rfl, rfl, hs⟩ := DataW.trod_string ht h
  refine ⟨s, rfl, ?_⟩
  simp only [Rows.uptoBulk] at hw
  rw [ba_length] at hw
  omega
theorem opensB_slice {α : Type} [Inhabited α] {t e : TypeId} {k : Nat} {f : α → List Value} {G : α → Prop} (ht : P.underlying t = some (.slice e)) (hk : P.cellsOf e = k) (h0 : 0 < k) (hO : OpensB enc P W base spare held e f G) :
    OpensB enc P W base spare held t SliceR.cells (SliceR.Good W k f G) := fun fuel cs x h hw => by
  rcases DataW.trod_slice ht h with ⟨rfl, -⟩ | ⟨a, len, cap, elems, rest, n, -, rfl, hx, hb, hl, hm, hel, hx1, -, -⟩
  · exact ⟨⟨none, [], 0⟩, rfl, ⟨Nat.le_refl _, Nat.zero_le _, by simp, RowsAt.nil _ _ _ _⟩⟩
  have each : ∀ i, i < len → ∃ y : α, G y ∧ W.cells? base (a.add (i * k)) k = some (f y) := by
    intro i hi
    have h1 := hx1 i hi
    rw [hk, List.getElem?_eq_getElem (show i < elems.length by omega)] at h1
    obtain ⟨cs', h2, h3⟩ := Option.bind_eq_some_iff.1 h1
    obtain ⟨y, rfl, hy⟩ := hO _ _ _ h3 (by
      rw [hx] at hw
      simp only [Rows.uptoBulk] at hw
      have := bulk_part (List.mem_map.2 ⟨elems[i]'(by omega), List.getElem_mem _, rfl⟩ : elems[i].1 ∈ elems.map (·.1))
      omega)
    exact ⟨y, hy, h2⟩
  obtain ⟨g, hg⟩ := choose_lt each
  have hlen : ((List.range len).map g).length = len := by simp
  refine ⟨⟨some a, (List.range len).map g, cap⟩, by unfold SliceR.cells; rw [hlen], ⟨by rw [hlen]; exact hl, hm, fun y hy => ?_, fun h1 => ?_⟩⟩
  · obtain ⟨i, hi, rfl⟩ := List.mem_map.1 hy
    exact (hg i (List.mem_range.1 hi)).1
  · dsimp only at h1
    rw [hlen] at h1
    have hc := fun i hi => World.cells?_some (hg i hi).2
    obtain ⟨b, o, s⟩ := a
    have hs : s = none ∧ b < W.heap.size := by
      obtain ⟨_, hl0, hc0⟩ := hc 0 h1
      have h2 := hc0 0 h0
      rw [List.getElem?_eq_getElem (show 0 < (f (g 0)).length by omega)] at h2
      simp only [Nat.zero_mul, Addr.add] at h2
      unfold World.cell? at h2
      simp only [if_true] at h2
      split at h2
      · rename_i hh
        cases s with
        | none => exact ⟨rfl, (Array.getElem?_eq_some_iff.1 hh).1⟩
        | some x => simp at h2
      · cases h2
    obtain ⟨rfl, hbl⟩ := hs
    refine ⟨b, o, rfl, hbl, fun j hj i v hv => ?_⟩
    have hj' : j < len := by dsimp only at hj; rwa [hlen] at hj
    obtain ⟨_, hl1, hc1⟩ := hc j hj'
    dsimp only at hv
    rw [List.getElem_map, List.getElem_range] at hv
    have hik : i < k := by rw [← hl1]; exact (List.getElem?_eq_some_iff.1 hv).1
    have := hc1 i hik
    rw [hv, add_add, Addr.add_mid] at this
    rw [Nat.add_assoc]
    exact this
/-- A field of a struct, with its bulk. -/
theorem fieldB_opens {α : Type} {n i off k : Nat} {xs : List (DataW H × List MemPlace)} {x : DataW H × List MemPlace} {cs : List Value} {u : TypeId} {ps : List MemPlace} {f : α → List Value} {G : α → Prop}
    (hx : x = (.agg (xs.map (·.1)), ps)) (hw : Rows.uptoBulk x.1 ≤ 1048576)
    (hf : DataW.trod enc P W base spare held n u ((cs.drop off).take (P.cellsOf u)) = xs[i]?) (hi : i < xs.length) (hk : P.cellsOf u = k) (hO : OpensB enc P W base spare held u f G) : ∃ a, (cs.drop off).take k = f a ∧ G a := by
  rw [hk, List.getElem?_eq_getElem hi] at hf
  refine hO _ _ _ hf ?_
  rw [hx] at hw
  simp only [Rows.uptoBulk] at hw
  have := bulk_part (List.mem_map.2 ⟨xs[i], List.getElem_mem _, rfl⟩ : xs[i].1 ∈ xs.map (·.1))
  omega
end
end Go.Proofs.YtjfcllanochhmaaGreatDoor.Mem

namespace Go.Proofs.YtjfcllanochhmaaGreatDoor.Dec
open Go.RowKit Go.ChangeShapes Go.WideShapes Go.Deep Grp Mem _root_.Go.Proofs.YtjfcllanochhmaaGreatDoor.Code Sha Sign _root_.Go.Proofs.YtjfcllanochhmaaGreatDoor.Item _root_.Go.Proofs.YtjfcllanochhmaaGreatDoor.Known
section
variable {H : Type} {enc : TypeId × Value → H} {W : World} {base : Nat} {spare : Nat → Bool} {held : Bool}
theorem b_strs : OpensB enc Tryz.prog W base spare held 32 SliceR.cells (SliceR.Good W 1 (fun s : ByteArray => [.string s]) fun s => s.size ≤ 1048576) := opensB_slice Tryz.underlying32 k_str (by decide) (opensB_str Tryz.underlying9)
set_option maxRecDepth 100000 in
set_option maxHeartbeats 1000000 in
theorem b_dec : OpensB enc Tryz.prog W base spare held 45 DecR.cells (fun d => (DecIn W d ∧ NOk [d.server, d.number, d.kind, d.n, d.start, d.stop, d.e, d.s]) ∧ d.actor.size ≤ 1048576 ∧ d.object.size ≤ 1048576 ∧ ∀ s ∈ d.to, s.size ≤ 1048576) := fun fuel cs x h hw => by
  obtain ⟨xs, n, -, hx, hcl, hxl, hf⟩ := DataW.trod_struct Tryz.underlying45 h
  rw [k_dec] at hcl
  have hxl : xs.length = 11 := hxl
  obtain ⟨server, e0, g0⟩ := field_opens (off := 0) (show DataW.trod enc Tryz.prog W base spare held n 3 ((cs.drop 0).take (Tryz.prog.cellsOf 3)) = xs[0]? from hf 0 _ rfl) (by omega) k_int o_int
  obtain ⟨number, e1, g1⟩ := field_opens (off := 1) (show DataW.trod enc Tryz.prog W base spare held n 3 ((cs.drop 1).take (Tryz.prog.cellsOf 3)) = xs[1]? from hf 1 _ rfl) (by omega) k_int o_int
  obtain ⟨kind, e2, g2⟩ := field_opens (off := 2) (show DataW.trod enc Tryz.prog W base spare held n 3 ((cs.drop 2).take (Tryz.prog.cellsOf 3)) = xs[2]? from hf 2 _ rfl) (by omega) k_int o_int
  obtain ⟨actor, e3, g3⟩ := fieldB_opens (i := 3) (off := 3) hx hw (show DataW.trod enc Tryz.prog W base spare held n 9 ((cs.drop 3).take (Tryz.prog.cellsOf 9)) = xs[3]? from hf 3 _ rfl) (by omega) k_str (opensB_str Tryz.underlying9)
  obtain ⟨object, e4, g4⟩ := fieldB_opens (i := 4) (off := 4) hx hw (show DataW.trod enc Tryz.prog W base spare held n 9 ((cs.drop 4).take (Tryz.prog.cellsOf 9)) = xs[4]? from hf 4 _ rfl) (by omega) k_str (opensB_str Tryz.underlying9)
  obtain ⟨text, e5, g5⟩ := field_opens (off := 5) (show DataW.trod enc Tryz.prog W base spare held n 9 ((cs.drop 5).take (Tryz.prog.cellsOf 9)) = xs[5]? from hf 5 _ rfl) (by omega) k_str o_str
  obtain ⟨to, e6, g6⟩ := fieldB_opens (i := 6) (off := 6) hx hw (show DataW.trod enc Tryz.prog W base spare held n 32 ((cs.drop 6).take (Tryz.prog.cellsOf 32)) = xs[6]? from hf 6 _ rfl) (by omega) k_strs b_strs
  obtain ⟨n1, e7, g7⟩ := field_opens (off := 7) (show DataW.trod enc Tryz.prog W base spare held n 3 ((cs.drop 7).take (Tryz.prog.cellsOf 3)) = xs[7]? from hf 7 _ rfl) (by omega) k_int o_int
  obtain ⟨start, e8, g8⟩ := field_opens (off := 8) (show DataW.trod enc Tryz.prog W base spare held n 3 ((cs.drop 8).take (Tryz.prog.cellsOf 3)) = xs[8]? from hf 8 _ rfl) (by omega) k_int o_int
  obtain ⟨stop, e9, g9⟩ := field_opens (off := 9) (show DataW.trod enc Tryz.prog W base spare held n 3 ((cs.drop 9).take (Tryz.prog.cellsOf 3)) = xs[9]? from hf 9 _ rfl) (by omega) k_int o_int
  obtain ⟨sg, e10, g10⟩ := field_opens (off := 10) (show DataW.trod enc Tryz.prog W base spare held n 37 ((cs.drop 10).take (Tryz.prog.cellsOf 37)) = xs[10]? from hf 10 _ rfl) (by omega) k_sig o_sig
  have t11 : cs.drop 12 = [] := List.drop_eq_nil_of_le (by omega)
  have t10 := drop_step e10
  simp only [Nat.reduceAdd] at t10
  rw [t11] at t10
  have t9 := drop_step e9
  simp only [Nat.reduceAdd] at t9
  rw [t10] at t9
  have t8 := drop_step e8
  simp only [Nat.reduceAdd] at t8
  rw [t9] at t8
  have t7 := drop_step e7
  simp only [Nat.reduceAdd] at t7
  rw [t8] at t7
  have t6 := drop_step e6
  simp only [Nat.reduceAdd] at t6
  rw [t7] at t6
  have t5 := drop_step e5
  simp only [Nat.reduceAdd] at t5
  rw [t6] at t5
  have t4 := drop_step e4
  simp only [Nat.reduceAdd] at t4
  rw [t5] at t4
  have t3 := drop_step e3
  simp only [Nat.reduceAdd] at t3
  rw [t4] at t3
  have t2 := drop_step e2
  simp only [Nat.reduceAdd] at t2
  rw [t3] at t2
  have t1 := drop_step e1
  simp only [Nat.reduceAdd] at t1
  rw [t2] at t1
  have t0 := drop_step e0
  simp only [Nat.reduceAdd] at t0
  rw [t1] at t0
  rw [List.drop_zero] at t0
  refine ⟨⟨server, number, kind, actor, object, text, to.l, to.A, to.c, n1, start, stop, sg.1, sg.2⟩, by rw [t0]; rfl, ?_⟩
  refine ⟨⟨⟨strs_of g6.rows, g6.le, g6.cap⟩, ?_⟩, g3, g4, g6.all⟩
  have s1 := g10 sg.1 (by simp)
  have s2 := g10 sg.2 (by simp)
  simp only [NOk, List.mem_cons, List.not_mem_nil, or_false]
  rintro s (rfl | rfl | rfl | rfl | rfl | rfl | rfl | rfl) <;> assumption

instance : Inhabited DecR := ⟨dec0⟩
theorem b_decs : OpensB enc Tryz.prog W base spare held 22 SliceR.cells (SliceR.Good W 12 DecR.cells fun d => (DecIn W d ∧ NOk [d.server, d.number, d.kind, d.n, d.start, d.stop, d.e, d.s]) ∧ d.actor.size ≤ 1048576 ∧ d.object.size ≤ 1048576 ∧ ∀ s ∈ d.to, s.size ≤ 1048576) := opensB_slice Tryz.underlying22 k_dec (by decide) b_dec
set_option maxRecDepth 100000 in
theorem open_decs {r : Reach} {b0 : Nat} {v : Value} {ds : List (DataW H)} {d : DataW H} {p : List MemPlace} (hz : Rows.uptoBulkAll ds ≤ 1048576) (hd : d ∈ ds)
    (hval : Value.okWide Tryz.prog W r b0 22 v) (h : DataW.Trod enc Tryz.prog W base spare held 22 v d p) :
    ∃ (A : Option Addr) (c : Nat) (l : List DecR), v = .slice A l.length c ∧ l.length ≤ c ∧ c ≤ maxLen ∧ RowsAt W A 12 DecR.cells l ∧ ∀ d ∈ l, (DecIn W d ∧ NOk [d.server, d.number, d.kind, d.n, d.start, d.stop, d.e, d.s]) ∧ d.actor.size ≤ 1048576 ∧ d.object.size ≤ 1048576 ∧ ∀ s ∈ d.to, s.size ≤ 1048576 := by
  obtain ⟨A, n, c, rfl⟩ := okWide_slice Tryz.underlying22 hval
  obtain ⟨fuel, hf⟩ := h
  obtain ⟨s, hs, hg⟩ := b_decs fuel _ _ hf (Nat.le_trans (bulk_part hd) hz)
  simp [Value.cells, SliceR.cells] at hs
  obtain ⟨rfl, rfl, rfl⟩ := hs
  exact ⟨s.A, s.c, s.l, rfl, hg.le, hg.cap, hg.rows, hg.all⟩
end
end Go.Proofs.YtjfcllanochhmaaGreatDoor.Dec

namespace Go.Proofs.YtjfcllanochhmaaGreatDoor.Laid

theorem cell_int {P : Program} {W : World} {r : Reach} {base : Nat} {i : TypeId} {v : Value} (hi : P.underlying i = some (.int .i64)) (h : Cell.okWide P W r base i v) :
    ∃ a : Int, v = .int .i64 a ∧ -9223372036854775808 ≤ a ∧ a ≤ 9223372036854775807 := by
  simp only [Cell.okWide, hi] at h
  cases v with
  | int k n =>
    simp only [Cell.ok, hi] at h
    obtain ⟨rfl, h1, h2⟩ := h
    exact ⟨n, rfl, h1, h2⟩
  | _ => simp [Cell.ok, hi] at h
theorem open_pair {P : Program} {W : World} {r : Reach} {base : Nat} {v : Value} {t i : TypeId} {fs : Array Field} (hu : P.underlying t = some (.struct fs)) (hct : P.cellTypes P.depth t = some [i, i]) (hc : P.cellsOf t = 2) (hi : P.underlying i = some (.int .i64))
    (h : Value.okWide P W r base t v) : ∃ a b : Int, v = .agg #[.int .i64 a, .int .i64 b] ∧ (-9223372036854775808 ≤ a ∧ a ≤ 9223372036854775807) ∧ -9223372036854775808 ≤ b ∧ b ≤ 9223372036854775807 := by
  simp only [Value.okWide, hu] at h
  obtain ⟨cs, rfl, hsz, ts, hts, -, hcell⟩ := h
  rw [hct] at hts
  obtain rfl := Option.some.inj hts
  rw [hc] at hsz
  obtain ⟨l⟩ := cs
  match l, hsz with
  | [c0, c1], _ =>
    obtain ⟨u0, h0, k0⟩ := hcell 0 c0 rfl
    obtain ⟨u1, h1, k1⟩ := hcell 1 c1 rfl
    obtain rfl := Option.some.inj h0
    obtain rfl := Option.some.inj h1
    obtain ⟨a, rfl, ha⟩ := cell_int hi k0
    obtain ⟨b, rfl, hb⟩ := cell_int hi k1
    exact ⟨a, b, rfl, ha, hb⟩
theorem open_i64 {P : Program} {W : World} {r : Reach} {base : Nat} {i : TypeId} {v : Value} (hi : P.underlying i = some (.int .i64)) (h : Value.okWide P W r base i v) :
    ∃ a : Int, v = .int .i64 a ∧ -9223372036854775808 ≤ a ∧ a ≤ 9223372036854775807 := by
  simp only [Value.okWide, hi] at h
  exact cell_int hi h
end Go.Proofs.YtjfcllanochhmaaGreatDoor.Laid

namespace Go.Proofs.YtjfcllanochhmaaGreatDoor.Post
open Go.ChangeShapes Go.WideShapes Go.ChangeAt Go.RowKit

theorem trodAll_below {H : Type} {enc : TypeId × Value → H} {P : Program} (hl : laidOutB P = true) {W W' : World} (hb : Below W.heap.size W W') :
    ∀ {ts : List TypeId} {vs : List Value} {ds : List (DataW H)} {ps : List MemPlace}, ts.all (fun t => P.readableRec t && decide (t < P.types.size)) = true → (∀ x ∈ ps, x.block < W.heap.size) →
      DataW.TrodAll enc P W 0 (fun _ => true) true ts vs ds ps → DataW.TrodAll enc P W' 0 (fun b => decide (b < W.heap.size)) true ts vs ds ps := by
  intro ts
  induction ts with
  | nil =>
    intro vs ds ps _ _ h
    obtain ⟨rfl, rfl, rfl⟩ := trodAll_nil h
    exact trodAll_mk0
  | cons t ts ih =>
    intro vs ds ps hr hlt h
    obtain ⟨v, vs', d, ds', p, q, rfl, rfl, rfl, h1, h2⟩ := trodAll_cons h
    simp only [List.all_cons, Bool.and_eq_true, decide_eq_true_eq] at hr
    exact trodAll_cons_mk (Below.trod hl hr.1.1 hr.1.2 h1 hb (fun x hx => hlt x (List.mem_append_left _ hx))) (ih (by simpa using hr.2) (fun x hx => hlt x (List.mem_append_right _ hx)) h2)

theorem law_post {H : Type} {enc : TypeId × Value → H} {P : Program} {f : Func} {s : ChangeSpec} {apart : Bool} {W W' : World} {args : Array Value} {ds gs : List (DataW H)} {before : List MemPlace} {tb : TypeId}
    (hl : laidOutB P = true) (hts : f.params.toList.all (fun t => P.readableRec t && decide (t < P.types.size)) = true) (hvs : varsRowed P s.vars = true)
    (hrt : f.resultTypes.toList = [tb]) (hn : f.resultTypes.size = 1) (hub : P.underlying tb = some .bool)
    (hW : DataW.Whole enc P f.params.toList s.vars apart W args.toList ds gs before)
    (hr : (s.fn H (ds ++ gs)).results = [.lit (.bool true)]) (ha : (s.fn H (ds ++ gs)).args = ds) (hv : (s.fn H (ds ++ gs)).vars = gs)
    (hb : Below W.heap.size W W') :
    s.post enc P f apart true false false W args (.bool true) W' := by
  have hW' := hW
  have hlt := hW.lt
  obtain ⟨p, q, hA, hV, rfl, hfz, hnd⟩ := hW
  refine ⟨ds, gs, p ++ q, [], p, q, hW', ?_, ?_, ?_, hb.frame _, fun h => by cases h⟩
  · rw [hr, hrt, hn]
    exact trodAll_mk1 (shut_bool hub true)
  · rw [ha]
    exact trodAll_below hl hb hts (fun x hx => hlt x (List.mem_append_left _ hx)) hA
  · rw [hv]
    exact Below.trodVars hl hb hvs hV

end Go.Proofs.YtjfcllanochhmaaGreatDoor.Post

namespace Go.Proofs.YtjfcllanochhmaaGreatDoor.Laid
open Go.ChangeShapes Go.WideShapes Go.ChangeAt Go.RowKit

theorem own : ownKnob Tryz.prog.godebug = none := by kernel_rfl
theorem laidOut : laidOutB Tryz.prog = true := by kernel_rfl
theorem gCon : Tryz.prog.globalNamed "agora/sum.constants" = some 1 := by kernel_rfl
theorem gIni : Tryz.prog.globalNamed "agora/sum.initial" = some 0 := by kernel_rfl
theorem gConType : (Tryz.prog.globals[(1 : Nat)]?).map (·.type) = some 149 := by kernel_rfl
theorem gIniType : (Tryz.prog.globals[(0 : Nat)]?).map (·.type) = some 120 := by kernel_rfl
theorem cells64 : Tryz.prog.cellsOf 149 = 64 := by kernel_rfl
theorem cells8 : Tryz.prog.cellsOf 120 = 8 := by kernel_rfl
theorem cells1 : Tryz.prog.cellsOf 119 = 1 := by kernel_rfl

theorem laidMet_rest {P : Program} {W : World} {x : String × DataW Unit} {name : String} {k : IntKind} {zs : List Int} {g : Nat} {t e : TypeId} {n : Nat}
    (hg : P.globalNamed name = some g) (hty : (P.globals[g]?).map (·.type) = some t) (ht : P.underlying t = some (.array n e)) (he : P.underlying e = some (.int k)) (hce : P.cellsOf e = 1) (hct : P.cellsOf t = n)
    (h : laidMet P [x, (name, Lib.tabData k zs)] W) : Lib.TabIs P W name k zs := by
  obtain ⟨ps, ⟨g', t', cs, fuel, p, q, hg', ht', hvar, hd, ⟨g2, t2, cs2, fuel2, p2, q2, hg2, ht2, hvar2, hd2, _, _⟩, _⟩, _⟩ := h
  obtain rfl := Option.some.inj (hg.symm.trans hg2)
  obtain rfl := Option.some.inj (hty.symm.trans ht2)
  unfold Lib.TabIs
  rw [hvar2, ← Lib.cells_of_tab ht he hce hct hd2]

theorem block_of {P : Program} {W : World} {name : String} {cs : Array Value} {g : Nat} (hg : P.globalNamed name = some g) (h : W.var? P name = some cs) : ∃ t fr, W.heap[g]? = some (.cells cs t fr) := by
  simp only [World.var?, hg, Option.bind_some] at h
  split at h
  · rename_i cs' t fr hh
    obtain rfl := Option.some.inj h
    exact ⟨t, fr, hh⟩
  · cases h
theorem lt_of {W : World} {g : Nat} {o : Obj} (h : W.heap[g]? = some o) : g < W.heap.size := (Array.getElem?_eq_some_iff.mp h).1

theorem tab {W : World} (h : laidMetH Tryz.prog [("agora/sum.constants", Rows.laid_agora_sum_constants), ("agora/sum.initial", Rows.laid_agora_sum_initial)] W) : Sha.Tab W := by
  have hc : Lib.TabIs Tryz.prog W "agora/sum.constants" .u32 Sha.KL := Lib.tabIs_of_head (rest := [("agora/sum.initial", Rows.laid_agora_sum_initial)]) gCon gConType Tryz.underlying149 Tryz.underlying119 cells1 cells64 h
  have hi : Lib.TabIs Tryz.prog W "agora/sum.initial" .u32 Sha.HL := laidMet_rest (x := ("agora/sum.constants", Rows.laid_agora_sum_constants)) gIni gIniType Tryz.underlying120 Tryz.underlying119 cells1 cells8 h
  obtain ⟨t1, f1, h1⟩ := block_of gCon hc
  obtain ⟨t2, f2, h2⟩ := block_of gIni hi
  exact ⟨⟨t2, f2, h2⟩, fun i hi => hc.cell gCon i hi, lt_of h2, lt_of h1⟩

/- A world for the witness: the settled one, the tables holding what the text lays. -/
def put (cs : Array Value) : Obj → Obj
  | .cells _ t frozen => .cells cs t frozen
  | o => o
noncomputable def laidWorld (os : Os) (args : Array Value) : World :=
  { World.holding Tryz.prog os ⟨#[], args, []⟩ with heap := ((World.holding Tryz.prog os ⟨#[], args, []⟩).heap.modify 1 (put (Sha.KL.map fun z => Value.int .u32 z).toArray)).modify 0 (put (Sha.HL.map fun z => Value.int .u32 z).toArray) }
end Go.Proofs.YtjfcllanochhmaaGreatDoor.Laid

namespace Go.Proofs.YtjfcllanochhmaaGreatDoor.decideBytes
open Go.ChangeShapes Go.WideShapes Go.ChangeAt Go.RowKit
open Go.ChangeMaps (open_string)

theorem open_sl {α : Type} {H : Type} {enc : TypeId × Value → H} {P : Program} {W : World} {r : Reach} {b0 base : Nat} {held : Bool} {t e : TypeId} {k : Nat} {f : α → List Value} {G : α → Prop} {v : Value} {d : DataW H} {p : List MemPlace}
    (ht : P.underlying t = some (.slice e)) (hO : Mem.Opens enc P W base (fun _ => true) held t Mem.SliceR.cells (Mem.SliceR.Good W k f G)) (hval : Value.okWide P W r b0 t v) (h : DataW.Trod enc P W base (fun _ => true) held t v d p) :
    ∃ (A : Option Addr) (c : Nat) (l : List α), v = .slice A l.length c ∧ l.length ≤ c ∧ c ≤ maxLen ∧ Mem.RowsAt W A k f l ∧ ∀ a ∈ l, G a := by
  obtain ⟨A, n, c, rfl⟩ := okWide_slice ht hval
  obtain ⟨fuel, hf⟩ := h
  obtain ⟨s, hs, hg⟩ := hO fuel _ _ hf
  simp [Value.cells, Mem.SliceR.cells] at hs
  obtain ⟨rfl, rfl, rfl⟩ := hs
  exact ⟨s.A, s.c, s.l, rfl, hg.le, hg.cap, hg.rows, hg.all⟩

theorem laid_met (os : Os) : laidMet Tryz.prog Rows.decideBytesUptoRow.laid ((Laid.laidWorld os #[.slice none 0 0, .int .i64 0, .int .i64 0]).forCall (fun _ _ => 0) ⟨#[], #[.slice none 0 0, .int .i64 0, .int .i64 0], []⟩).memory :=
  laidMet_of_run' 8 (by kernel_rfl) (by kernel_rfl)
theorem reads (os : Os) {H : Type} (enc : TypeId × Value → H) : ∃ places, DataW.whole enc Tryz.prog ((Laid.laidWorld os #[.slice none 0 0, .int .i64 0, .int .i64 0]).forCall (fun _ _ => 0) ⟨#[], #[.slice none 0 0, .int .i64 0, .int .i64 0], []⟩).memory Tryz.f3.params.toList Rows.decideBytesSpec.vars false #[Value.slice none 0 0, .int .i64 0, .int .i64 0].toList 8 = some ([.nil, .lit (.int .i64 0), .lit (.int .i64 0)], [], places) :=
  ⟨[], by kernel_rfl⟩

set_option maxRecDepth 100000 in
theorem contract (H : Type) (enc : TypeId × Value → H) (W : World) (base : Nat) (args : Array Value) (ds gs : List (DataW H)) (before : List MemPlace)
    (hval : ∀ (j : Nat) t v, Tryz.f3.params[j]? = some t → args[j]? = some v → Value.okWide Tryz.prog W .any base t v)
    (hW : DataW.Whole enc Tryz.prog Tryz.f3.params.toList Rows.decideBytesSpec.vars false W args.toList ds gs before) (hz : Rows.uptoBulkAll (ds ++ gs) ≤ 1048576) (hL : laidMetH Tryz.prog Rows.decideBytesUptoRow.laid W) :
    Calls Tryz.prog 3 args W fun e W' => ∃ v, e = .returned v ∧ Rows.decideBytesSpec.post enc Tryz.prog Tryz.f3 false true false false W args v W' := by
  have hW' := hW
  obtain ⟨p, q, hA0, hV, rfl, hfz, hnd⟩ := hW
  have hA : DataW.TrodAll enc Tryz.prog W 0 (fun _ => true) true Tryz.f3.params.toList args.toList ds p := hA0
  rw [Tryz.params3] at hA hval
  obtain ⟨v0, vs0, d0, ds0, p0, q0, hargs, rfl, rfl, h0, r0⟩ := trodAll_cons hA
  obtain ⟨v1, vs1, d1, ds1, p1, q1, rfl, rfl, rfl, h1, r1⟩ := trodAll_cons r0
  obtain ⟨v2, vs2, d2, ds2, p2, q2, rfl, rfl, rfl, h2, r2⟩ := trodAll_cons r1
  obtain ⟨rfl, rfl, rfl⟩ := trodAll_nil r2
  obtain rfl : args = #[v0, v1, v2] := by cases args; simp_all
  obtain ⟨rfl, rfl⟩ := trodVars_none hV
  obtain ⟨A0, c0, l0, rfl, lc0, cm0, S0, b0⟩ := Dec.open_decs (ds := _) hz (by simp) (hval 0 22 v0 rfl rfl) h0
  obtain ⟨a1, rfl, w1⟩ := Laid.open_i64 Tryz.underlying3 (hval 1 3 v1 rfl rfl)
  obtain ⟨a2, rfl, w2⟩ := Laid.open_i64 Tryz.underlying3 (hval 2 3 v2 rfl rfl)
  clear hA0 hz
  refine (Dec.bytes_call A0 c0 l0 a1 a2 W (Laid.tab hL) S0 b0 cm0 lc0).mono fun e W' ⟨he, hg⟩ => ?_
  subst he
  exact ⟨_, rfl, Post.law_post (tb := 4) Laid.laidOut (by kernel_rfl) (by kernel_rfl) (by kernel_rfl) (by kernel_rfl) Tryz.underlying4 hW' rfl rfl rfl hg⟩

set_option maxRecDepth 100000 in
theorem lifted (os : Os) (started : os.Started) (H : Type) (enc : TypeId × Value → H) (F : Stop.Interp) :
    ReturnsInHanded {} Tryz.checked os 3 .any ((Rows.OpenSpec.upto Rows.decideBytesSpec).preRow enc Tryz.prog Tryz.f3 Rows.decideBytesUptoRow.domain false Rows.decideBytesUptoRow.laid) (((Rows.OpenSpec.upto Rows.decideBytesSpec).at F).post enc Tryz.prog Tryz.f3 false true false false) := by
  obtain ⟨places, hx⟩ := reads os enc
  refine returnsInHanded_of_row (C := Tryz.checked) (s := Rows.OpenSpec.upto Rows.decideBytesSpec) Laid.own started (by kernel_rfl) Tryz.func3
    (witness_row_at (enc := enc) (C := Tryz.checked) false (Laid.laidWorld os #[.slice none 0 0, .int .i64 0, .int .i64 0]) #[.slice none 0 0, .int .i64 0, .int .i64 0] rfl (by kernel_rfl) (by kernel_rfl) (by kernel_rfl)
      (OpenSpec.preRow_of_cond 8 hx (by kernel_rfl) (fun k hk => by cases hk; kernel_rfl) (by kernel_rfl) (laid_met os))) ?_
  intro W base args ds gs before hval hW _ hcond _ hL _ _
  have hz : Rows.uptoBulkAll (ds ++ gs) ≤ 1048576 := of_decide_eq_true (hcond _ rfl)
  exact contract H enc W base args ds gs before hval hW hz hL

theorem c10 : (Rows.decideBytesUptoRow.inPlace == Tryz.prog.inPlace 3) = true := by kernel_rfl
theorem c11 : (Rows.decideBytesUptoRow.unfollowed == Tryz.prog.unfollowed 3) = true := by kernel_rfl
theorem c12 : (Rows.decideBytesUptoRow.recurses == Tryz.prog.recurses 3) = true := by kernel_rfl
theorem c13 : (Rows.decideBytesUptoRow.named == Tryz.prog.varsNamed 3) = true := by kernel_rfl
theorem closed : joinedFacts Tryz.prog 3 Tryz.f3 (Rows.OpenSpec.upto Rows.decideBytesSpec).bare Rows.decideBytesUptoRow = true := by
  unfold joinedFacts
  rw [c10, c11, c12, c13]
  kernel_rfl
set_option maxRecDepth 100000 in
theorem said : Rows.DecideBytesUptoSaid :=
  OpenClaim.holds_of_cond 3 Tryz.f3 rfl rfl rfl rfl rfl rfl rfl ⟨rfl, rfl, rfl, rfl, rfl⟩ rfl rfl rfl rfl rfl (by kernel_rfl) Tryz.func3 closed
    (of_decide_eq_true (by kernel_rfl)) (by unfold Func.isWrapper; first | (rw [if_pos (by decide +kernel)]; kernel_rfl) | (rw [if_neg (by decide +kernel)]; exact ⟨rfl, rfl⟩))
    (fun os started H enc _ F => by rw [OpenClaim.pre_eq_preRow]; exact lifted os started H enc F)

theorem plain (f : FuncId) (fn : Func) (hf : Tryz.pinned.checked.prog.funcNamed "agora/agoralaw35.DecideBytes" = some f) (hfn : Tryz.pinned.checked.prog.funcs[f]? = some fn) :
    false = Tryz.pinned.checked.prog.looks [] ∧ ∀ (j : Nat) t, fn.params[j]? = some t → Tryz.pinned.checked.prog.wantsStandIn t = false := by
  obtain rfl : f = 3 := Option.some.inj ((show Tryz.prog.funcNamed "agora/agoralaw35.DecideBytes" = some 3 by kernel_rfl).symm.trans hf) |>.symm
  obtain rfl : fn = Tryz.f3 := (Option.some.inj (Tryz.func3.symm.trans hfn)).symm
  refine ⟨by kernel_rfl, fun j t ht => ?_⟩
  rw [Tryz.params3] at ht
  have hm := Array.mem_of_getElem? ht
  have hall : (#[22, 3, 3] : Array TypeId).all (fun t => !Tryz.prog.wantsStandIn t) = true := by kernel_rfl
  have hb := (Array.all_eq_true_iff_forall_mem.mp hall) t hm
  show Tryz.prog.wantsStandIn t = false
  simpa using hb

theorem proved : Rows.DecideBytesUptoCardSaid :=
  Claim7.holds_tied_plain_at .later [] _ _ _ _ said (fun _ h => by cases h) (by kernel_rfl) (fun _ h => by cases h) decideBytesUpto_row_tie rfl ⟨rfl, rfl⟩ (by kernel_rfl) rfl plain (by kernel_rfl)
#print axioms proved
end Go.Proofs.YtjfcllanochhmaaGreatDoor.decideBytes
