/-
  Package act's boxBytes, Core and Bytes.
-/
import Derived.Test.YtjfcllanochhmaaGreatDoorActD
import Derived.Test.YtjfcllanochhmaaGreatDoorActSmall
set_option linter.unusedVariables false
set_option linter.unusedSimpArgs false
namespace Go.Proofs.YtjfcllanochhmaaGreatDoor.Item
open Go.RowKit Grp Mem _root_.Go.Proofs.YtjfcllanochhmaaGreatDoor.Code Sha Sign

/-- At the head of a function: a struct that came in by value. -/
theorem boxed (w : World) (t : TypeId) (cs : List Value) : ∃ (w1 : World) (x : Wd w1), w.alloc (.cells cs.toArray t) = x.w ∧ Q w w1 ∧ w.heap.size < w1.heap.size ∧ w1.rangeAt w.heap.size 0 cs :=
  ⟨_, ⟨_, Q.refl _⟩, rfl, q_new w _ t, (Blk.new w t cs.toArray).lt, Blk.range (Blk.new w t cs.toArray)⟩

theorem textB_size (s : ByteArray) : (textB s).size ≤ s.size + 10 := by
  unfold textB
  rw [ba_size]
  exact textL_length s
theorem textB_list (s : ByteArray) : (textB s).data.toList = textL s := ba_list _
set_option maxHeartbeats 2000000 in
theorem boxBytes_any (n d t : ByteArray) (w : World) (h : n.size + d.size + t.size ≤ 140737488355000) : Calls Tryz.prog 100 #[.agg #[.string n, .string d, .string t]] w fun e w' => e = .returned (.string ⟨(boxL n d t).toArray⟩) ∧ Q w w' := by
  obtain ⟨w1, x, hx, hq1, hlt, hr⟩ := boxed w 34 [.string n, .string d, .string t]
  have c0 := Wd.at0 hlt hr 0 rfl
  have c1 := Wd.at0 hlt hr 1 rfl
  have c2 := Wd.at0 hlt hr 2 rfl
  have z0 := textB_size n
  have z1 := textB_size d
  have z2 := textB_size t
  have a1 : (textB n).size + (textB d).size ≤ 9223372036854775807 := by omega
  have a2 : (textB n).size + (textB d).size + (textB t).size ≤ 9223372036854775807 := by omega
  have HR : Hid ((textB n ++ textB d) ++ textB t = ⟨(boxL n d t).toArray⟩) := Lib.hid (by
    apply ba_ext
    rw [ba_append, ba_append, textB_list, textB_list, textB_list, ba_list, boxL, List.append_assoc])
  go_enter Tryz.func100, Tryz.ntmps100
  go_wp2
  refine wp_region_wd x (by kernel_rfl) (by kernel_rfl) ?_
  repeat (go_big_quiet_step (exact Wd.call _ (Text_any _ _ (by omega))))
  refine wpQuiet_nil ?_
  rintro w'' ⟨z, rfl⟩
  go_wp2
  go_ret
  exact ⟨by rw [← HR.out]; rfl, Q.trans hq1 z.q⟩

theorem flat_le {α : Type} (f : α → List UInt8) (B : Nat) : ∀ l : List α, (∀ x ∈ l, (f x).length ≤ B) → (l.flatMap f).length ≤ l.length * B := by
  intro l
  induction l with
  | nil => intro _; simp
  | cons a l ih =>
    intro h
    rw [List.flatMap_cons, List.length_append, List.length_cons, Nat.succ_mul]
    have h1 := h a (by simp)
    have h2 := ih fun x hx => h x (by simp [hx])
    omega
theorem listL_le (l : List ByteArray) (B : Nat) (h : ∀ s ∈ l, s.size ≤ B) : (listL l).length ≤ 10 + l.length * (B + 10) := by
  unfold listL
  rw [List.length_append]
  have h1 := varint_length l.length
  have h2 := flat_le textL (B + 10) l fun s hs => by have := textL_length s; have := h s hs; omega
  omega
theorem numL_le (n : Int) : (numL n).length ≤ 10 := by
  unfold numL
  rw [ba_length]
  exact numB_size n
theorem boxL_le (n d t : ByteArray) : (boxL n d t).length ≤ n.size + d.size + t.size + 30 := by
  unfold boxL
  rw [List.length_append, List.length_append]
  have h1 := textL_length n
  have h2 := textL_length d
  have h3 := textL_length t
  omega
theorem wrapL_le (v : WrapV) (h : wrapOk v = true) : (wrapL v).length ≤ 600 := by
  unfold wrapL
  rw [List.length_append, List.length_append]
  have h1 := numL_le v.to
  have h2 := numL_le v.eph
  have h3 := boxL_le v.n v.d v.t
  simp only [wrapOk, Bool.and_eq_true] at h
  have h4 := sealedB_facts h.2.2
  omega
theorem listB_size (l : List ByteArray) : (listB l).size = (listL l).length := ba_size _
theorem box_size (n d t : ByteArray) : (⟨(boxL n d t).toArray⟩ : ByteArray).size = (boxL n d t).length := ba_size _
theorem numL_eq (n : Int) : (numB n).data.toList = numL n := rfl
theorem listB_list (l : List ByteArray) : (listB l).data.toList = listL l := ba_list _

set_option maxHeartbeats 1000000 in
theorem core_no (a : ActR) (w : World) (hI : ActIn w a) (h : actRight a = false) : Calls Tryz.prog 63 #[.agg (actA a)] w fun e w' => e = .returned (.string (actCore a)) ∧ Q w w' := by
  obtain ⟨w1, x, hx, hq1, hA⟩ := ActAt.box w a 39
  have hL := hA.load
  have HR : Hid (actCore a = ⟨#[]⟩) := Lib.hid (by unfold actCore; rw [h]; rfl)
  clear hA
  go_enter Tryz.func63, Tryz.ntmps63
  go_wp2_with (first | (refine wpList_load_run 39 (.tmp 1) (.pointer (some ⟨w.heap.size, 0, none⟩)) (.agg (actA a)) ?_ ?_ ?_ ?_ ?_; rfl; rfl; rfl; exact hL _) | (go_at_call 57; refine (actRight_any _ _ (hI.q (Q.trans hq1 (Wd.q _)))).mono ?_; rintro e w' ⟨rfl, hq2⟩; obtain ⟨y, rfl⟩ := Wd.next _ hq2; clear hq2))
  go_ret
  exact ⟨by rw [HR.out]; rfl, Q.trans hq1 (Wd.q _)⟩

set_option maxRecDepth 100000 in
set_option maxHeartbeats 8000000 in
theorem core_yes (a : ActR) (w : World) (hI : ActIn w a) (h : actRight a = true) : Calls Tryz.prog 63 #[.agg (actA a)] w fun e w' => e = .returned (.string (actCore a)) ∧ Q w w' := by
  have sm := act_small h
  obtain ⟨w1, x, hx, hq1, hA⟩ := ActAt.box w a 39
  have hL := hA.load
  have HR : Hid (actCore a = ⟨(coreL a).toArray⟩) := Lib.hid (by unfold actCore; rw [h]; rfl)
  have c0 := hA.get 0 rfl
  have c1 := hA.get 1 rfl
  have c2 := hA.get 2 rfl
  have c3 := hA.get 3 rfl
  have c4 := hA.get 4 rfl
  have c5 := hA.get 5 rfl
  have c6 := hA.get 6 rfl
  have c7 := hA.get 7 rfl
  have c8 := hA.get 8 rfl
  have c9 := hA.get 9 rfl
  have c10 := hA.get 10 rfl
  have c11 := hA.get 11 rfl
  have c12 := hA.get 12 rfl
  have c13 := hA.get 13 rfl
  have c14 := hA.get 14 rfl
  have c15 := hA.get 15 rfl
  have c16 := hA.get 16 rfl
  have c17 := hA.get 17 rfl
  have hI' : ∀ y : Wd w1, ActIn y.w a := fun y => hI.q (Q.trans hq1 y.q)
  have b0 : (textB actT).size ≤ 20 := Nat.le_trans (textB_size actT) (by decide)
  have b1 := textB_size a.author
  have b2 := numB_size a.seq
  have b3 := textB_size a.prev
  have q0 := sm.seq
  have q1 := sm.author
  have q2 := sm.prev
  have f1 : (textB actT).size + (textB a.author).size ≤ 9223372036854775807 := by omega
  have f2 : (textB actT).size + (textB a.author).size + (numB a.seq).size ≤ 9223372036854775807 := by omega
  have f3 : (textB actT).size + (textB a.author).size + (numB a.seq).size + (textB a.prev).size ≤ 9223372036854775807 := by omega
  clear hA
  go_enter Tryz.func63, Tryz.ntmps63
  go_wp2_with (first | (refine wpList_load_run 39 (.tmp 1) (.pointer (some ⟨w.heap.size, 0, none⟩)) (.agg (actA a)) ?_ ?_ ?_ ?_ ?_; rfl; rfl; rfl; exact hL _) | (go_at_call 57; refine (actRight_any _ _ (hI' _)).mono ?_; rintro e w' ⟨rfl, hq2⟩; obtain ⟨y, rfl⟩ := Wd.next _ hq2; clear hq2))
  refine wp_region_wd y (by kernel_rfl) (by kernel_rfl) ?_
  repeat (go_big_quiet_step (first | (go_at_call 62; exact Wd.call _ (Num_any _ _ (by omega))) | (go_at_call 84; exact Wd.call _ (Text_any _ _ (by omega))) | (go_at_call 99; exact Wd.call _ (List_any _ _ _ _ (hI' _).to (by omega) (by omega))) | (go_at_call 100; exact Wd.call _ (boxBytes_any _ _ _ _ (by omega))) | exact Wd.call _ (Text_any actT _ (by decide))))
  refine wpQuiet_nil ?_
  rintro w'' ⟨y3, rfl⟩
  clear f1 f2 f3
  generalize hS3 : ((textB actT ++ textB a.author) ++ numB a.seq) ++ textB a.prev = S3
  have s3 : S3.size ≤ 200 := by rw [← hS3]; simp only [ByteArray.size_append]; omega
  have H3 := Lib.hid hS3
  clear hS3 b0 b1 b2 b3
  have b4 := numB_size a.kind
  have b5 := numB_size a.time
  have b6 := textB_size a.object
  have b7 := textB_size a.target
  have q3 := sm.object
  have q4 := sm.target
  have q5 := sm.kind
  have q6 := sm.time
  have g0 : (numB a.kind).size + (numB a.time).size ≤ 9223372036854775807 := by omega
  have g1 : (numB a.kind).size + (numB a.time).size + (textB a.object).size ≤ 9223372036854775807 := by omega
  have g2 : (numB a.kind).size + (numB a.time).size + (textB a.object).size + (textB a.target).size ≤ 9223372036854775807 := by omega
  have g3 : S3.size + ((numB a.kind).size + (numB a.time).size + (textB a.object).size + (textB a.target).size) ≤ 9223372036854775807 := by omega
  go_wp2
  refine wp_region_wd y3 (by kernel_rfl) (by kernel_rfl) ?_
  repeat (go_big_quiet_step (first | (go_at_call 62; exact Wd.call _ (Num_any _ _ (by omega))) | (go_at_call 84; exact Wd.call _ (Text_any _ _ (by omega))) | (go_at_call 99; exact Wd.call _ (List_any _ _ _ _ (hI' _).to (by omega) (by omega))) | (go_at_call 100; exact Wd.call _ (boxBytes_any _ _ _ _ (by omega))) | exact Wd.call _ (Text_any actT _ (by decide))))
  refine wpQuiet_nil ?_
  rintro w'' ⟨y4, rfl⟩
  clear g0 g1 g2 g3
  generalize hS4 : S3 ++ (((numB a.kind ++ numB a.time) ++ textB a.object) ++ textB a.target) = S4
  have s4 : S4.size ≤ 400 := by rw [← hS4]; simp only [ByteArray.size_append]; omega
  have H4 := Lib.hid hS4
  clear hS4 b4 b5 b6 b7 s3
  have b8 := numB_size a.scope
  have b9 := textB_size a.group
  have b10 := listL_le a.to 16 sm.ids
  have b10' := listB_size a.to
  have b11 := textB_size a.text
  have q7 := sm.scope
  have q8 := sm.group
  have q9 := sm.to
  have q10 := sm.text
  have g0 : (numB a.scope).size + (textB a.group).size ≤ 9223372036854775807 := by omega
  have g1 : (numB a.scope).size + (textB a.group).size + (listB a.to).size ≤ 9223372036854775807 := by omega
  have g2 : (numB a.scope).size + (textB a.group).size + (listB a.to).size + (textB a.text).size ≤ 9223372036854775807 := by omega
  have g3 : S4.size + ((numB a.scope).size + (textB a.group).size + (listB a.to).size + (textB a.text).size) ≤ 9223372036854775807 := by omega
  go_wp2
  refine wp_region_wd y4 (by kernel_rfl) (by kernel_rfl) ?_
  repeat (go_big_quiet_step (first | (go_at_call 62; exact Wd.call _ (Num_any _ _ (by omega))) | (go_at_call 84; exact Wd.call _ (Text_any _ _ (by omega))) | (go_at_call 99; exact Wd.call _ (List_any _ _ _ _ (hI' _).to (by omega) (by omega))) | (go_at_call 100; exact Wd.call _ (boxBytes_any _ _ _ _ (by omega))) | exact Wd.call _ (Text_any actT _ (by decide))))
  refine wpQuiet_nil ?_
  rintro w'' ⟨y5, rfl⟩
  clear g0 g1 g2 g3
  generalize hS5 : S4 ++ (((numB a.scope ++ textB a.group) ++ listB a.to) ++ textB a.text) = S5
  have s5 : S5.size ≤ 4000 := by rw [← hS5]; simp only [ByteArray.size_append]; omega
  have H5 := Lib.hid hS5
  clear hS5 b8 b9 b10 b10' b11 s4
  have b12 := boxL_le a.bn a.bd a.bt
  have b12' := box_size a.bn a.bd a.bt
  have b13 := numB_size a.epoch
  have b14 := numB_size a.wraps.length
  have q11 := sm.body
  have q12 := sm.epoch
  have q13 := sm.wraps
  have g0 : ((⟨(boxL a.bn a.bd a.bt).toArray⟩ : ByteArray)).size + (numB a.epoch).size ≤ 9223372036854775807 := by omega
  have g1 : ((⟨(boxL a.bn a.bd a.bt).toArray⟩ : ByteArray)).size + (numB a.epoch).size + (numB (a.wraps.length : Int)).size ≤ 9223372036854775807 := by omega
  have g2 : S5.size + (((⟨(boxL a.bn a.bd a.bt).toArray⟩ : ByteArray)).size + (numB a.epoch).size + (numB (a.wraps.length : Int)).size) ≤ 9223372036854775807 := by omega
  go_wp2
  refine wp_region_wd y5 (by kernel_rfl) (by kernel_rfl) ?_
  repeat (go_big_quiet_step (first | (go_at_call 62; exact Wd.call _ (Num_any _ _ (by omega))) | (go_at_call 84; exact Wd.call _ (Text_any _ _ (by omega))) | (go_at_call 99; exact Wd.call _ (List_any _ _ _ _ (hI' _).to (by omega) (by omega))) | (go_at_call 100; exact Wd.call _ (boxBytes_any _ _ _ _ (by omega))) | exact Wd.call _ (Text_any actT _ (by decide))))
  refine wpQuiet_nil ?_
  rintro w'' ⟨y6, rfl⟩
  clear g0 g1 g2
  generalize hS6 : S5 ++ (((⟨(boxL a.bn a.bd a.bt).toArray⟩ : ByteArray) ++ numB a.epoch) ++ numB (a.wraps.length : Int)) = S6
  have s6 : S6.size ≤ 5000 := by rw [← hS6]; simp only [ByteArray.size_append]; omega
  have H6 := Lib.hid hS6
  clear hS6 b12 b12' b13 b14 s5
  clear q0 q1 q2 q3 q4 q5 q6 q7 q8 q9 q10 q11 q12 c0 c1 c2 c3 c4 c5 c6 c7 c8 c9 c10 c11 c12 c13 c14 hL
  have hwl := hI.wrLen
  go_wp2
  go_loopw [3, 5, 73] (fun s _ i wr => ∃ (k : Nat) (z : Wd w1) (S : ByteArray), s = .string S ∧ i = .int .i64 k ∧ wr = z.w ∧ k ≤ a.wraps.length ∧ Hid (S.data.toList = S6.data.toList ++ (a.wraps.take k).flatMap wrapL)) (fun _ _ i _ => a.wraps.length - (intOf i).toNat)
  case atStart => exact ⟨0, y6, S6, rfl, rfl, rfl, Nat.zero_le _, Lib.hid (by simp)⟩
  case round =>
    obtain ⟨k, z, S, rfl, rfl, rfl, hk, hS⟩ := hrel
    have hSz : S.size ≤ 5000 + 64 * 600 := by
      have h1 := congrArg List.length hS.out
      rw [List.length_append, ba_length, ba_length] at h1
      have h2 := flat_le wrapL 600 (a.wraps.take k) fun v hv => wrapL_le v (sm.each v (List.mem_of_mem_take hv))
      rw [List.length_take] at h2
      have h3 := Nat.mul_le_mul_right 600 (show min k a.wraps.length ≤ 64 by omega)
      omega
    by_cases hlt : k < a.wraps.length
    · obtain ⟨b, o, hwA, hb, hcell⟩ := (hI.wraps.q hq1) (by omega)
      have hv := sm.each _ (List.getElem_mem hlt)
      have hst : (a.wraps.take (k + 1)).flatMap wrapL = (a.wraps.take k).flatMap wrapL ++ wrapL a.wraps[k] := by
        rw [List.take_succ_eq_append_getElem hlt, List.flatMap_append]
        simp
      have k0 := Wd.get (w0 := w1) hb (hcell k hlt) 0 rfl
      have k1 := Wd.get (w0 := w1) hb (hcell k hlt) 1 rfl
      have k2 := Wd.get (w0 := w1) hb (hcell k hlt) 2 rfl
      have k3 := Wd.get (w0 := w1) hb (hcell k hlt) 3 rfl
      have k4 := Wd.get (w0 := w1) hb (hcell k hlt) 4 rfl
      simp only [Nat.add_zero] at k0
      have HST := Lib.hid hst
      clear hst hcell
      generalize a.wraps[k] = v at *
      rw [hwA]
      simp only [wrapOk, Bool.and_eq_true] at hv
      have p1 := publicB_facts hv.1
      have p2 := publicB_facts hv.2.1
      have p3 := sealedB_facts hv.2.2
      have n1 := numB_size v.to
      have n2 := numB_size v.eph
      have n3 := boxL_le v.n v.d v.t
      have n3' := box_size v.n v.d v.t
      have g0 : (numB v.to).size + (numB v.eph).size ≤ 9223372036854775807 := by omega
      have g1 : (numB v.to).size + (numB v.eph).size + (⟨(boxL v.n v.d v.t).toArray⟩ : ByteArray).size ≤ 9223372036854775807 := by omega
      have g2 : S.size + ((numB v.to).size + (numB v.eph).size + (⟨(boxL v.n v.d v.t).toArray⟩ : ByteArray).size) ≤ 9223372036854775807 := by omega
      have hb5 := Blk.new z.w 130 #[.int .i64 v.to, .int .i64 v.eph, .string v.n, .string v.d, .string v.t]
      have hq5 := Q.trans z.q (q_new z.w #[.int .i64 v.to, .int .i64 v.eph, .string v.n, .string v.d, .string v.t] 130)
      go_wp2
      generalize hW : z.w.alloc (.cells #[.int .i64 v.to, .int .i64 v.eph, .string v.n, .string v.d, .string v.t] 130) = W at hb5 hq5 ⊢
      have e0 : ∀ y : Wd W, y.w.cell? ⟨z.w.heap.size, 0, none⟩ = some (.int .i64 v.to) := fun y => (y.blk hb5).cell 0
      have e1 : ∀ y : Wd W, y.w.cell? ⟨z.w.heap.size, 1, none⟩ = some (.int .i64 v.eph) := fun y => (y.blk hb5).cell 1
      have e2 : ∀ y : Wd W, y.w.cell? ⟨z.w.heap.size, 2, none⟩ = some (.string v.n) := fun y => (y.blk hb5).cell 2
      have e3 : ∀ y : Wd W, y.w.cell? ⟨z.w.heap.size, 3, none⟩ = some (.string v.d) := fun y => (y.blk hb5).cell 3
      have e4 : ∀ y : Wd W, y.w.cell? ⟨z.w.heap.size, 4, none⟩ = some (.string v.t) := fun y => (y.blk hb5).cell 4
      clear hW hb5 k0 k1 k2 k3 k4 hwA
      refine wp_region_wd (⟨_, Q.refl _⟩ : Wd _) (by kernel_rfl) (by kernel_rfl) ?_
      repeat (go_big_quiet_step (first | (go_at_call 62; exact Wd.call _ (Num_any _ _ (by omega))) | (go_at_call 100; exact Wd.call _ (boxBytes_any _ _ _ _ (by omega)))))
      refine wpQuiet_nil ?_
      rintro w'' ⟨y7, rfl⟩
      go_wp2
      exact ⟨⟨k + 1, ⟨_, Q.trans hq5 y7.q⟩, _, rfl, by go_num, rfl, by omega, Lib.hid (by rw [HST.out, ba_append, ba_append, ba_append, hS.out]; simp only [wrapL, numL_eq, List.append_assoc])⟩, by simp only [intOf]; omega⟩
    · have hks : k = a.wraps.length := by omega
      have n1 := numB_size a.n
      have n2 := numB_size a.m
      have p1 := sm.n
      have p2 := sm.m
      have g0 : S.size + (numB a.n).size ≤ 9223372036854775807 := by omega
      have g1 : S.size + (numB a.n).size + (numB a.m).size ≤ 9223372036854775807 := by omega
      have HF : Hid ((S ++ numB a.n) ++ numB a.m = actCore a) := Lib.hid (by
        have h1 := hS.out
        rw [hks, List.take_length] at h1
        rw [HR.out]
        apply ba_ext
        rw [ba_append, ba_append, h1, ← H6.out, ← H5.out, ← H4.out, ← H3.out, ba_list]
        simp only [ba_append, textB_list, numL_eq, listB_list, ba_list, coreL, List.append_assoc])
      clear hks hS
      go_wp2
      refine wp_region_wd z (by kernel_rfl) (by kernel_rfl) ?_
      repeat (go_big_quiet_step ((go_at_call 62; exact Wd.call _ (Num_any _ _ (by omega)))))
      refine wpQuiet_nil ?_
      rintro w'' ⟨y7, rfl⟩
      go_wp2
      go_ret
      exact ⟨by rw [← HF.out]; rfl, Q.trans hq1 y7.q⟩

theorem core_any (a : ActR) (w : World) (hI : ActIn w a) : Calls Tryz.prog 63 #[.agg (actA a)] w fun e w' => e = .returned (.string (actCore a)) ∧ Q w w' := by
  cases h : actRight a
  · exact core_no a w hI h
  · exact core_yes a w hI h

theorem coreL_pos (a : ActR) : 0 < (coreL a).length := by
  unfold coreL
  rw [List.length_append]
  have : 0 < (textL actT).length := by decide
  omega
set_option maxHeartbeats 2000000 in
theorem coreL_le (a : ActR) (h : actRight a = true) : (coreL a).length ≤ 60000 := by
  have sm := act_small h
  unfold coreL
  simp only [List.length_append]
  have t0 : (textL actT).length ≤ 20 := Nat.le_trans (textL_length actT) (by decide)
  have t1 := textL_length a.author
  have t2 := textL_length a.prev
  have t3 := textL_length a.object
  have t4 := textL_length a.target
  have t5 := textL_length a.group
  have t6 := textL_length a.text
  have t7 := listL_le a.to 16 sm.ids
  have t8 := boxL_le a.bn a.bd a.bt
  have t9 := flat_le wrapL 600 a.wraps fun v hv => wrapL_le v (sm.each v hv)
  have n0 := numL_le a.seq
  have n1 := numL_le a.kind
  have n2 := numL_le a.time
  have n3 := numL_le a.scope
  have n4 := numL_le a.epoch
  have n5 := numL_le a.wraps.length
  have n6 := numL_le a.n
  have n7 := numL_le a.m
  have s1 := sm.author
  have s2 := sm.prev
  have s3 := sm.object
  have s4 := sm.target
  have s5 := sm.group
  have s6 := sm.text
  have s7 := sm.to
  have s8 := sm.body
  have s9 := sm.wraps
  omega
theorem actCore_empty (a : ActR) : (actCore a).toList.isEmpty = !actRight a := by
  unfold actCore
  cases h : actRight a
  · rw [if_neg Bool.false_ne_true, ByteArray.toList_eq]; rfl
  · rw [if_pos rfl, ByteArray.toList_eq, ba_list]
    have := coreL_pos a
    cases hl : coreL a with
    | nil => rw [hl] at this; cases this
    | cons x r => rfl

set_option maxHeartbeats 2000000 in
theorem actBytes_any (a : ActR) (w : World) (hI : ActIn w a) : Calls Tryz.prog 33 #[.agg (actA a)] w fun e w' => e = .returned (.string (actBytes a)) ∧ Q w w' := by
  obtain ⟨w1, x, hx, hq1, hA⟩ := ActAt.box w a 39
  have hL := hA.load
  have c18 := hA.get 18 rfl
  have c19 := hA.get 19 rfl
  have hem := actCore_empty a
  clear hA
  cases h : actRight a
  · rw [h] at hem
    have HR : Hid (actBytes a = ⟨#[]⟩) := Lib.hid (by unfold actBytes; rw [h]; rfl)
    clear h
    go_enter Tryz.func33, Tryz.ntmps33
    go_wp2_with (first | (refine wpList_load_run 39 (.tmp 1) (.pointer (some ⟨w.heap.size, 0, none⟩)) (.agg (actA a)) ?_ ?_ ?_ ?_ ?_; rfl; rfl; rfl; exact hL _) | (go_at_call 63; refine (core_any _ _ (hI.q (Q.trans hq1 (Wd.q _)))).mono ?_; rintro e w' ⟨rfl, hq2⟩; obtain ⟨y, rfl⟩ := Wd.next _ hq2; clear hq2))
    go_ret
    exact ⟨by rw [HR.out]; rfl, Q.trans hq1 (Wd.q _)⟩
  · rw [h] at hem
    have sm := act_small h
    have p1 := sm.e
    have p2 := sm.s
    have hsz : (actCore a).size ≤ 60000 := by unfold actCore; rw [h, if_pos rfl, ba_size]; exact coreL_le a h
    have HR : Hid ((actCore a ++ numB a.e) ++ numB a.s = actBytes a) := Lib.hid (by
      unfold actBytes actCore
      rw [h, if_pos rfl, if_pos rfl]
      apply ba_ext
      rw [ba_append, ba_append, ba_list, ba_list, numL_eq, numL_eq, List.append_assoc])
    have n1 := numB_size a.e
    have n2 := numB_size a.s
    have g0 : (actCore a).size + (numB a.e).size ≤ 9223372036854775807 := by omega
    have g1 : (actCore a).size + (numB a.e).size + (numB a.s).size ≤ 9223372036854775807 := by omega
    clear h sm
    go_enter Tryz.func33, Tryz.ntmps33
    go_wp2_with (first | (refine wpList_load_run 39 (.tmp 1) (.pointer (some ⟨w.heap.size, 0, none⟩)) (.agg (actA a)) ?_ ?_ ?_ ?_ ?_; rfl; rfl; rfl; exact hL _) | (go_at_call 63; refine (core_any _ _ (hI.q (Q.trans hq1 (Wd.q _)))).mono ?_; rintro e w' ⟨rfl, hq2⟩; obtain ⟨y, rfl⟩ := Wd.next _ hq2; clear hq2))
    refine wp_region_wd _ (by kernel_rfl) (by kernel_rfl) ?_
    repeat (go_big_quiet_step ((go_at_call 62; exact Wd.call _ (Num_any _ _ (by omega)))))
    refine wpQuiet_nil ?_
    rintro w'' ⟨y7, rfl⟩
    go_wp2
    go_ret
    exact ⟨by rw [← HR.out]; rfl, Q.trans hq1 y7.q⟩
end Go.Proofs.YtjfcllanochhmaaGreatDoor.Item
