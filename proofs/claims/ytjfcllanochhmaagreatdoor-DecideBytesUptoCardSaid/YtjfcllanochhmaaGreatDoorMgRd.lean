/-
  Reading a varint, as plain data: one digit after the other. No walk in this text.
  The readers of package code, walked on a text that begins with an encoding.
  code.readList[string], code.Reader.List (under way).
  item.readSig and item.readDecision, walked on a text that begins with an encoding (printed by gen_readdec.py).
  item.Read at the encoding of a right item that is a decision.
-/
import Derived.Test.YtjfcllanochhmaaGreatDoorCodeSpec
import Derived.Test.YtjfcllanochhmaaGreatDoorMgDb
set_option linter.unusedVariables false
set_option linter.unusedSimpArgs false
namespace Go.Proofs.YtjfcllanochhmaaGreatDoor.Code

/-- What holds after i digits of the varint of n: f more of fuel, m is what is left, acc what was read, S the text. -/
structure RdN (S tail : List UInt8) (n i f m acc : Nat) : Prop where
  fuel : i + f = 9
  val : n = m * 128 ^ i + acc
  low : acc < 128 ^ i
  pos : 0 < i → 0 < m
  at_ : S.drop i = vint f m ++ tail
theorem RdN.start {S tail : List UInt8} {n : Nat} (h : S = varint n ++ tail) : RdN S tail n 0 9 n 0 := ⟨rfl, by simp, by simp, fun h => absurd h (by omega), by rw [h]; rfl⟩
theorem RdN.small {S tail : List UInt8} {n i f m acc : Nat} (h : RdN S tail n i f m acc) (hn : n < 9223372036854775808) : i ≤ 8 := by
  rcases Nat.lt_or_ge i 9 with h1 | h1
  · omega
  · have h2 : i = 9 := by have := h.fuel; omega
    have h3 := h.pos (by omega)
    have h4 := h.val
    subst h2
    rw [show (128 : Nat) ^ 9 = 9223372036854775808 from by decide] at h4
    omega
theorem RdN.step {S tail : List UInt8} {n i f m acc : Nat} (h : RdN S tail n i f m acc) (hn : n < 9223372036854775808) (hm : 128 ≤ m) : ∃ f', S[i]? = some (UInt8.ofNat (128 + m % 128)) ∧ RdN S tail n (i + 1) f' (m / 128) (acc + m % 128 * 128 ^ i) := by
  have h8 := h.small hn
  obtain ⟨f', rfl⟩ : ∃ f', f = f' + 1 := ⟨f - 1, by have := h.fuel; omega⟩
  have ha := h.at_
  rw [vint, if_neg (by omega), List.cons_append] at ha
  refine ⟨f', ?_, by have := h.fuel; omega, ?_, ?_, fun _ => by omega, ?_⟩
  · have := congrArg (fun l : List UInt8 => l[0]?) ha
    simpa using this
  · have h1 := h.val
    have h2 : m / 128 * 128 ^ (i + 1) = m / 128 * 128 * 128 ^ i := by rw [Nat.pow_succ, Nat.mul_comm (128 ^ i) 128, ← Nat.mul_assoc]
    have h3 : m * 128 ^ i = (m / 128 * 128 + m % 128) * 128 ^ i := by congr 1; omega
    rw [Nat.add_mul] at h3
    omega
  · have h1 := h.low
    have h2 : m % 128 * 128 ^ i ≤ 127 * 128 ^ i := Nat.mul_le_mul_right _ (by omega)
    rw [Nat.pow_succ]
    omega
  · have := congrArg (List.drop 1) ha
    rw [List.drop_drop] at this
    simpa [Nat.add_comm] using this
theorem RdN.last {S tail : List UInt8} {n i f m acc : Nat} (h : RdN S tail n i f m acc) (hm : m < 128) : S[i]? = some (UInt8.ofNat m) ∧ n = acc + m * 128 ^ i ∧ S.drop (i + 1) = tail := by
  have ha := h.at_
  have hv : vint f m = [UInt8.ofNat m] := by
    cases f with
    | zero => rfl
    | succ f => rw [vint, if_pos hm]
  rw [hv] at ha
  refine ⟨?_, by have := h.val; omega, ?_⟩
  · have := congrArg (fun l : List UInt8 => l[0]?) ha
    simpa using this
  · have := congrArg (List.drop 1) ha
    rw [List.drop_drop] at this
    simpa [Nat.add_comm] using this
theorem RdN.len {S tail : List UInt8} {n i f m acc : Nat} (h : RdN S tail n i f m acc) : i < S.length := by
  have ha := congrArg List.length h.at_
  rw [List.length_drop, List.length_append] at ha
  have : 0 < (vint f m).length := by
    cases f with
    | zero => simp [vint]
    | succ f => rw [vint]; split <;> simp
  omega
end Go.Proofs.YtjfcllanochhmaaGreatDoor.Code

namespace Go.Proofs.YtjfcllanochhmaaGreatDoor.Dec
open Go.RowKit Grp Mem _root_.Go.Proofs.YtjfcllanochhmaaGreatDoor.Code Sha Sign _root_.Go.Proofs.YtjfcllanochhmaaGreatDoor.Item _root_.Go.Proofs.YtjfcllanochhmaaGreatDoor.Known

theorem or_i64 (a r j : Nat) (ha : a < 128 ^ j) (hs : a + r * 128 ^ j < 9223372036854775808) : bits .or .i64 (a : Int) (wrap64 ((r : Int) * 2 ^ (7 * j))) = ((a + r * 128 ^ j : Nat) : Int) := by
  have hp : (2 : Nat) ^ (7 * j) = 128 ^ j := by rw [Nat.pow_mul]
  have hb : (r : Int) * 2 ^ (7 * j) = ((r * 128 ^ j : Nat) : Int) := by
    rw [← hp]
    push_cast
    rfl
  rw [hb]
  have hor : a + r * 128 ^ j = a ||| r * 128 ^ j := by
    have h := Nat.shiftLeft_add_eq_or_of_lt (a := r) (i := 7 * j) (b := a) (by rw [hp]; exact ha)
    rw [Nat.shiftLeft_eq, hp, Nat.or_comm] at h
    omega
  generalize r * 128 ^ j = b at *
  rw [show wrap64 (b : Int) = (b : Int) from by unfold wrap64; omega]
  have h1 : (BitVec.ofInt 64 (a : Int)).toNat = a := by
    rw [BitVec.ofInt_natCast, BitVec.toNat_ofNat]; exact Nat.mod_eq_of_lt (by omega)
  have h2 : (BitVec.ofInt 64 (b : Int)).toNat = b := by
    rw [BitVec.ofInt_natCast, BitVec.toNat_ofNat]; exact Nat.mod_eq_of_lt (by omega)
  show IntKind.i64.wrap ((BitVec.ofInt 64 (a : Int) ||| BitVec.ofInt 64 (b : Int)).toNat : Int) = _
  rw [BitVec.toNat_or, h1, h2, ← hor, IntKind.wrap_i64]
  omega
/-- The reader in block g has t left. -/
structure Rd (g : Nat) (t : ByteArray) (w w' : World) : Prop where
  blk : Blk w' g 101 #[.string t, .bool false]
  far : ∀ b, b ≠ g → w'.heap[b]? = w.heap[b]?
  below : ∀ B w0, B ≤ g → Below B w0 w → Below B w0 w'

set_option maxRecDepth 100000 in
set_option maxHeartbeats 2000000 in
theorem rdNum_any (g : Nat) (s t : ByteArray) (n : Nat) (w : World) (hB : Blk w g 101 #[.string s, .bool false]) (hs : s.data.toList = varint n ++ t.data.toList) (hn : n < 9223372036854775808) (hz : s.size ≤ 9223372036854775807) :
    Calls Tryz.prog 23 #[.pointer (some ⟨g, 0, none⟩)] w fun e w' => e = .returned (.int .i64 (n : Int)) ∧ Rd g t w w' := by
  have c0 : w.cell? ⟨g, 0, none⟩ = some (.string s) := hB.cell 0
  have hst := RdN.start hs
  have HB := Lib.hid hB
  clear hB hs
  go_enter Tryz.func23, Tryz.ntmps23
  go_wp2_with fail
  go_loopw [3, 4] (fun a i wr => ∃ (j f m acc : Nat), a = .int .i64 (acc : Int) ∧ i = .int .i64 (j : Int) ∧ wr = w ∧ RdN s.data.toList t.data.toList n j f m acc) (fun _ i _ => 9 - (intOf i).toNat)
  case atStart => exact ⟨0, 9, n, 0, rfl, rfl, rfl, hst⟩
  case round =>
    obtain ⟨j, f, m, acc, rfl, rfl, rfl, hr⟩ := hrel
    have h8 := hr.small hn
    have hln := hr.len
    have hsz : j < s.size := by rwa [ba_length] at hln
    have hjI : (j : Int) < (s.size : Int) := by omega
    have hj9 : (j : Int) < 9 := by omega
    have hj0 : (0 : Int) ≤ (j : Int) := by omega
    by_cases hm : 128 ≤ m
    · obtain ⟨f', hd, hnx⟩ := hr.step hn hm
      go_upto_region 6 with (fail)
      have hdv : (s[j]'hsz).toNat = 128 + m % 128 := by
        have h1 : s.data.toList[j]? = some (s[j]'hsz) := by
          rw [List.getElem?_eq_getElem hln]
          rfl
        rw [h1] at hd
        rw [Option.some.inj hd]
        simp
        omega
      generalize (s[j]'hsz).toNat = dv at *
      subst hdv
      clear hd
      generalize hr2 : m % 128 = r at *
      have hr3 : r < 128 := by omega
      have hge : (128 : Int) ≤ ((128 + r : Nat) : Int) := by omega
      have hsb : ((128 + r : Nat) : Int) - 128 = (r : Int) := by omega
      have hle : acc + r * 128 ^ j < 9223372036854775808 := by
        have h1 := hr.val
        have h2 : r * 128 ^ j ≤ m * 128 ^ j := Nat.mul_le_mul_right _ (by omega)
        omega
      have hor := or_i64 acc r j hr.low hle
      have HN := Lib.hid hnx
      have HO := Lib.hid hor
      clear hnx hor hr hln
      go_wp2_with fail
      refine ⟨⟨j + 1, f', m / 128, acc + r * 128 ^ j, ?_, by go_num, trivial, HN.out⟩, by simp only [intOf]; omega⟩
      rw [show (128 + (r : Int) - 128) = (r : Int) by omega, HO.out]
    · have hm' : m < 128 := by omega
      obtain ⟨hd, hv, ht⟩ := hr.last hm'
      go_upto_region 6 with (fail)
      have hdv : (s[j]'hsz).toNat = m := by
        have h1 : s.data.toList[j]? = some (s[j]'hsz) := by
          rw [List.getElem?_eq_getElem hln]
          rfl
        rw [h1] at hd
        rw [Option.some.inj hd]
        simp
        omega
      generalize (s[j]'hsz).toNat = dv at *
      subst hdv
      clear hd
      have hge : ¬ (128 : Int) ≤ (dv : Int) := by omega
      have hle : acc + dv * 128 ^ j < 9223372036854775808 := by omega
      have HO := Lib.hid (or_i64 acc dv j hr.low hle)
      have hz0 : decide ((dv : Int) = 0) = true → decide (0 < j) = false := by
        intro h1
        have h2 := of_decide_eq_true h1
        refine decide_eq_false fun h3 => ?_
        have := hr.pos h3
        omega
      have HV := Lib.hid hv
      have HT := Lib.hid ht
      clear hv ht hr hln hle
      have hways : (((dv : Int) == 0) = true ∧ ¬ 0 < j) ∨ ((dv : Int) == 0) = false := by
        cases h : ((dv : Int) == 0)
        · exact .inr rfl
        · refine .inl ⟨rfl, ?_⟩
          have := hz0 (decide_eq_true (by simpa using h))
          simpa using this
      clear hz0
      rcases hways with ⟨hq1, hq2⟩ | hq1
      all_goals
        go_upto_region 9 with (fail)
        have hfz : wr.frozen? ⟨g, 0, none⟩ = false := HB.out.frozen 0
        have hj1 : (j : Int) + 1 ≤ (s.size : Int) := by omega
        have hj2 : (0 : Int) ≤ (j : Int) + 1 := by omega
        go_upto_region 10 with (fail)
        have hex : s.extract (j + 1) s.size = t := by
          have h1 : (s.extract (j + 1) s.size).data.toList = t.data.toList := by
            rw [← HT.out]
            rw [ByteArray.data_extract, Array.toList_extract, List.extract_eq_take_drop]
            exact List.take_of_length_le (by rw [List.length_drop, ba_length]; exact Nat.le_refl _)
          exact ByteArray.ext (Array.ext' h1)
        rw [hex]
        have hW : Rd g t wr (wr.setCell ⟨g, 0, none⟩ (.string t)) := by
          have h1 := Blk.setCells [.string t] 0 _ wr HB.out (show 1 ≤ 2 by decide)
          exact ⟨h1, fun b hne => setCells_far (g := g) hne [.string t] 0 wr, fun B w0 hb hw => below_setCells hb [.string t] 0 w0 wr hw⟩
        generalize wr.setCell ⟨g, 0, none⟩ (.string t) = W at *
        have HW := Lib.hid hW
        clear hW hfz hex c0 hst
        go_wp2_with fail
        go_ret
        exact ⟨by rw [HO.out, HV.out]; rfl, HW.out⟩
theorem Rd.of_set {g : Nat} {s t : ByteArray} {w : World} (h : Blk w g 101 #[.string s, .bool false]) : Rd g t w (w.setCell ⟨g, 0, none⟩ (.string t)) := by
  have h1 := Blk.setCells [.string t] 0 _ w h (show 1 ≤ 2 by decide)
  exact ⟨h1, fun b hne => setCells_far (g := g) hne [.string t] 0 w, fun B w0 hb hw => below_setCells hb [.string t] 0 w0 w hw⟩
theorem ba_left {s u t : ByteArray} (h : s.data.toList = u.data.toList ++ t.data.toList) : s.extract 0 u.size = u := by
  refine ba_ext ?_
  rw [ByteArray.data_extract, Array.toList_extract, List.extract_eq_take_drop, h]
  simp [ba_length]
theorem ba_right {s u t : ByteArray} (h : s.data.toList = u.data.toList ++ t.data.toList) : s.extract u.size s.size = t := by
  refine ba_ext ?_
  have hl : s.size = u.size + t.size := by
    have := congrArg List.length h
    rw [List.length_append, ba_length, ba_length, ba_length] at this
    exact this
  rw [ByteArray.data_extract, Array.toList_extract, List.extract_eq_take_drop, h, hl]
  simp [ba_length]
  exact List.take_of_length_le (by rw [ba_length]; exact Nat.le_refl _)
set_option maxRecDepth 100000 in
set_option maxHeartbeats 2000000 in
theorem rdTake_any (g : Nat) (s u t : ByteArray) (w : World) (hB : Blk w g 101 #[.string s, .bool false]) (hs : s.data.toList = u.data.toList ++ t.data.toList) (hz : s.size ≤ 9223372036854775807) :
    Calls Tryz.prog 25 #[.pointer (some ⟨g, 0, none⟩), .int .i64 (u.size : Int)] w fun e w' => e = .returned (.string u) ∧ Rd g t w w' := by
  have c0 : w.cell? ⟨g, 0, none⟩ = some (.string s) := hB.cell 0
  have c1 : w.cell? ⟨g, 1, none⟩ = some (.bool false) := hB.cell 1
  have hfz : w.frozen? ⟨g, 0, none⟩ = false := hB.frozen 0
  have hl : u.size ≤ s.size := by
    have := congrArg List.length hs
    rw [List.length_append, ba_length, ba_length, ba_length] at this
    omega
  have HL := Lib.hid (ba_left hs)
  have HR := Lib.hid (ba_right hs)
  have HW := Lib.hid (Rd.of_set (t := t) hB)
  clear hB hs
  generalize hun : u.size = n at *
  have h1 : ¬ (n : Int) < 0 := by omega
  have h2 : ¬ (s.size : Int) < (n : Int) := by omega
  have h3 : (n : Int) ≤ (s.size : Int) := by omega
  have h4 : (0 : Int) ≤ (n : Int) := by omega
  go_enter Tryz.func25, Tryz.ntmps25
  go_upto_region 6 with (fail)
  rw [HR.out, HL.out]
  have HW2 := HW.out
  generalize w.setCell ⟨g, 0, none⟩ (.string t) = W at *
  clear c0 c1 hfz HW
  have HW3 := Lib.hid HW2
  clear HW2
  go_wp2_with fail
  go_ret
  exact ⟨rfl, HW3.out⟩
set_option maxRecDepth 100000 in
theorem rdText_any (g : Nat) (s u t : ByteArray) (w : World) (hB : Blk w g 101 #[.string s, .bool false]) (hs : s.data.toList = textL u ++ t.data.toList) (hz : s.size ≤ 9223372036854775807) :
    Calls Tryz.prog 52 #[.pointer (some ⟨g, 0, none⟩)] w fun e w' => e = .returned (.string u) ∧ Rd g t w w' := by
  have hs1 : s.data.toList = varint u.size ++ (⟨(u.data.toList ++ t.data.toList).toArray⟩ : ByteArray).data.toList := by
    rw [hs]
    unfold textL
    simp
  have hlen : (⟨(u.data.toList ++ t.data.toList).toArray⟩ : ByteArray).size ≤ 9223372036854775807 := by
    have := congrArg List.length hs1
    rw [List.length_append, ba_length, ba_length] at this
    omega
  have hu : u.size < 9223372036854775808 := by
    have := congrArg List.length hs
    unfold textL at this
    rw [List.length_append, List.length_append, ba_length, ba_length] at this
    omega
  have hN := rdNum_any g s _ u.size w hB hs1 hu hz
  have hT := fun w2 (h2 : Rd g (⟨(u.data.toList ++ t.data.toList).toArray⟩ : ByteArray) w w2) => rdTake_any g _ u t w2 h2.blk (by simp) hlen
  generalize (⟨(u.data.toList ++ t.data.toList).toArray⟩ : ByteArray) = m at *
  clear hs hs1 hB hlen
  go_enter Tryz.func52, Tryz.ntmps52
  go_wp2_with (first | (go_at_call 23; refine hN.mono ?_; rintro e w2 ⟨rfl, h2⟩; have hT2 := hT w2 h2) | (go_at_call 25; refine hT2.mono ?_; rintro e w3 ⟨rfl, h3⟩))
  go_ret
  exact ⟨rfl, ⟨h3.blk, fun b hb => (h3.far b hb).trans (h2.far b hb), fun B w0 h4 h5 => h3.below B w0 h4 (h2.below B w0 h4 h5)⟩⟩
theorem build_rd (s : ByteArray) (w : World) : (Instr.build 101 #[(0, .string s)]).run Tryz.prog w = .ok (.agg #[.string s, .bool false]) w := by kernel_rfl
theorem rdOpen_any (s : ByteArray) (w : World) : Calls Tryz.prog 22 #[.string s] w fun e w' => e = .returned (.pointer (some ⟨w.heap.size, 0, none⟩)) ∧ Blk w' w.heap.size 101 #[.string s, .bool false] ∧ Q w w' := by
  have hb := Blk.new w 101 #[.string s, .bool false]
  have hq := q_new w #[.string s, .bool false] 101
  obtain ⟨W, hW⟩ : ∃ W, W = w.alloc (.cells #[.string s, .bool false] 101) := ⟨_, rfl⟩
  rw [← hW] at hb hq
  have HB := Lib.hid hb
  have HQ := Lib.hid hq
  have HX := Lib.hid hW
  clear hb hq hW
  go_enter Tryz.func22, Tryz.ntmps22
  go_wp2_with (refine wpList_build_run 101 _ #[(0, .string s)] (.agg #[.string s, .bool false]) rfl rfl (by simp only [List.map_toArray, List.map_cons, List.map_nil]; rfl) (build_rd s _) ?_)
  go_ret
  refine ⟨rfl, ?_⟩
  rw [← HX.out]
  exact ⟨HB.out, HQ.out⟩
theorem rdDone_any (g : Nat) (w : World) (hB : Blk w g 101 #[.string ⟨#[]⟩, .bool false]) : Calls Tryz.prog 30 #[.pointer (some ⟨g, 0, none⟩)] w fun e w' => e = .returned (.bool true) ∧ w' = w := by
  have c0 : w.cell? ⟨g, 0, none⟩ = some (.string ⟨#[]⟩) := hB.cell 0
  have c1 : w.cell? ⟨g, 1, none⟩ = some (.bool false) := hB.cell 1
  clear hB
  go_enter Tryz.func30, Tryz.ntmps30
  go_wp2_with fail
  go_ret
  exact ⟨rfl, rfl⟩
end Go.Proofs.YtjfcllanochhmaaGreatDoor.Dec

namespace Go.Proofs.YtjfcllanochhmaaGreatDoor.Dec
open Go.RowKit Grp Mem _root_.Go.Proofs.YtjfcllanochhmaaGreatDoor.Code Sha Sign _root_.Go.Proofs.YtjfcllanochhmaaGreatDoor.Item _root_.Go.Proofs.YtjfcllanochhmaaGreatDoor.Known
theorem owns_far {w w' : World} {base n sz : Nat} {e : TypeId} {v : Value} {xs : List Value} (h : Owns w base e sz v n xs) (hf : ∀ b, base ≤ b → w'.heap[b]? = w.heap[b]?) : Owns w' base e sz v n xs := by
  refine ⟨h.1, ?_⟩
  rcases h.2 with hn | ⟨g, cap, cur, fz, hv, h1, hg, rest⟩
  · exact .inl hn
  · exact .inr ⟨g, cap, cur, fz, hv, h1, (hf g h1).trans hg, rest⟩
/-- What holds after j texts of the list. -/
structure RL (w0 : World) (g : Nat) (l : List ByteArray) (t : ByteArray) (j : Nat) (wr : World) (A : Option Addr) (c : Nat) (m : ByteArray) : Prop where
  blk : Blk wr g 101 #[.string m, .bool false]
  kp : Kp g w0 wr
  rest : m.data.toList = (l.drop j).flatMap textL ++ t.data.toList
  sz : m.size ≤ 9223372036854775807
  own : Owns wr w0.heap.size 9 1 (.slice A j c) j ((l.take j).flatMap strC)
  le : j ≤ c ∧ c ≤ maxLen
  bel : Below g w0 wr
theorem RL.cut {w0 wr : World} {g j c : Nat} {l : List ByteArray} {t m : ByteArray} {A : Option Addr} (h : RL w0 g l t j wr A c m) (hj : j < l.length) : ∃ m' : ByteArray, m.data.toList = textL l[j] ++ m'.data.toList ∧ m'.data.toList = (l.drop (j + 1)).flatMap textL ++ t.data.toList ∧ m'.size ≤ 9223372036854775807 := by
  refine ⟨⟨((l.drop (j + 1)).flatMap textL ++ t.data.toList).toArray⟩, ?_, by simp, ?_⟩
  · rw [h.rest, List.drop_eq_getElem_cons hj, List.flatMap_cons, List.append_assoc]
  · have h1 := congrArg List.length h.rest
    rw [List.drop_eq_getElem_cons hj, List.flatMap_cons, List.append_assoc, List.length_append, ba_length] at h1
    have h2 := h.sz
    have h3 : (⟨((l.drop (j + 1)).flatMap textL ++ t.data.toList).toArray⟩ : ByteArray).size = ((l.drop (j + 1)).flatMap textL ++ t.data.toList).length := by rw [← ba_length]
    omega
theorem RL.step {w0 wr w5 : World} {g j c : Nat} {l : List ByteArray} {t m m' : ByteArray} {A : Option Addr} (h : RL w0 g l t j wr A c m) (hg : g < w0.heap.size) (hr : Rd g m' wr w5) : Kp g w0 w5 ∧ Owns w5 w0.heap.size 9 1 (.slice A j c) j ((l.take j).flatMap strC) ∧ Below g w0 w5 :=
  ⟨h.kp.trans ⟨(hr.below g wr (Nat.le_refl _) (Below.refl g wr)).size, fun b _ hne => hr.far b hne⟩, owns_far h.own fun b hb => hr.far b (by omega), hr.below g w0 (Nat.le_refl _) h.bel⟩
/-- What readList hands back. -/
def TextsIs (g : Nat) (l : List ByteArray) (t : ByteArray) (w : World) (e : Ending) (w' : World) : Prop := ∃ (A : Option Addr) (c : Nat) (w0 : World) (s0 : ByteArray), e = .returned (.slice A l.length c) ∧ Rd g s0 w w0 ∧ RL w0 g l t l.length w' A c t
theorem text_enter (v : Value) : ∀ w, (callFunc 52 #[v]).run Tryz.prog w = .ok (.enter 52 #[v]) w := fun w => enter_run (fn := Tryz.f52) Tryz.func52 (by kernel_rfl) rfl #[v] w
set_option maxRecDepth 100000 in
set_option maxHeartbeats 4000000 in
theorem rdTexts_any (g : Nat) (s t : ByteArray) (l : List ByteArray) (w : World) (hB : Blk w g 101 #[.string s, .bool false]) (hs : s.data.toList = listL l ++ t.data.toList) (hz : s.size ≤ 9223372036854775807) (hl : l.length ≤ 1000) :
    Calls Tryz.prog 85 #[.pointer (some ⟨g, 0, none⟩), .func (.func 52) #[.pointer (some ⟨g, 0, none⟩)] #[]] w (TextsIs g l t w) := by
  have hs1 : s.data.toList = varint l.length ++ (⟨(l.flatMap textL ++ t.data.toList).toArray⟩ : ByteArray).data.toList := by
    rw [hs]
    unfold listL
    simp
  have hlen : (⟨(l.flatMap textL ++ t.data.toList).toArray⟩ : ByteArray).size ≤ 9223372036854775807 := by
    have := congrArg List.length hs1
    rw [List.length_append, ba_length, ba_length] at this
    omega
  have hmt : (⟨(l.flatMap textL ++ t.data.toList).toArray⟩ : ByteArray).data.toList = l.flatMap textL ++ t.data.toList := by simp
  have hcnt : l.length ≤ (⟨(l.flatMap textL ++ t.data.toList).toArray⟩ : ByteArray).size := by
    have h1 : ∀ k : List ByteArray, k.length ≤ (k.flatMap textL).length := fun k => by
      induction k with
      | nil => simp
      | cons a k ih =>
        have h3 : 0 < (textL a).length := by
          have h2 := Code.varint_pos a.size
          unfold textL
          rw [List.length_append]
          omega
        rw [List.flatMap_cons, List.length_append, List.length_cons]
        omega
    have h2 := h1 l
    rw [← ba_length, hmt, List.length_append]
    omega
  have hN := rdNum_any g s _ l.length w hB hs1 (by omega) hz
  generalize (⟨(l.flatMap textL ++ t.data.toList).toArray⟩ : ByteArray) = m0 at *
  have hgw := hB.lt
  obtain ⟨i0, hi, hz0, hz1, hz2⟩ := info_parts str_info
  clear hs hs1 hB
  generalize hnl : l.length = nl at *
  go_enter Tryz.func85, Tryz.ntmps85
  go_upto_region 2 with (go_at_call 23; refine hN.mono ?_; rintro e w0 ⟨rfl, h0⟩)
  have c0 : w0.cell? ⟨g, 0, none⟩ = some (.string m0) := h0.blk.cell 0
  have hg0 : g < w0.heap.size := h0.blk.lt
  have hcI : ¬ (m0.size : Int) < (nl : Int) := by omega
  have hst0 : RL w0 g l t 0 w0 none 0 m0 := ⟨h0.blk, Kp.refl _ _, by simpa using hmt, hlen, Owns.nil_ _ _ _ _, ⟨Nat.le_refl _, Nat.zero_le _⟩, Below.refl _ _⟩
  have HST := Lib.hid hst0
  have H0 := Lib.hid h0
  clear hst0 h0 hmt hcnt hN
  go_wp2_with fail
  go_loopw [6, 7] (fun a i wr => ∃ (j : Nat) (A : Option Addr) (c : Nat) (m : ByteArray), a = .slice A j c ∧ i = .int .i64 (j : Int) ∧ j ≤ nl ∧ RL w0 g l t j wr A c m) (fun _ i _ => nl - (intOf i).toNat)
  case atStart => exact ⟨0, none, 0, m0, rfl, rfl, Nat.zero_le _, HST.out⟩
  case round =>
    obtain ⟨j, A, c, m, rfl, rfl, hj, hr⟩ := hrel
    have c1 : wr.cell? ⟨g, 1, none⟩ = some (.bool false) := hr.blk.cell 1
    by_cases hlt : j < nl
    · have hltL : j < l.length := by omega
      have hltI : (j : Int) < (nl : Int) := by omega
      obtain ⟨m', hm1, hm2, hm3⟩ := hr.cut hltL
      have hT := rdText_any g m l[j] m' wr hr.blk hm1 hr.sz
      have hkp := hr.kp
      go_wp2_with fail
      refine hT.mono ?_
      rintro e w5 ⟨rfl, h5⟩
      obtain ⟨hk5, ho5, hb5⟩ := hr.step hg0 h5
      have hs5 : w0.heap.size ≤ w5.heap.size := hk5.size
      go_wp2_with (at_builtin; refine wpList_append_rows str_len str_one rfl (.tmp 31) (.tmp 34) 32 9 i0 _ 16 rfl Tryz.underlying32 hi hz0 hz1 hz2 rfl (by decide) (by decide) w0.heap.size (.slice A j c) j _ rfl (ho5.alloc (.cells #[.string l[j]] 9)) (some ⟨w5.heap.size, 0, none⟩) 1 1 [l[j]] rfl (RowsAt.one w5 9 l[j] _ rfl) rfl (by omega) (by simp; omega) ?_)
      intro A9 c9 w9 hc9 hm9 hown9 hg9
      have hown5 := ho5.alloc (.cells #[.string l[j]] 9)
      have hk6 : Kp g w0 (w5.alloc (.cells #[.string l[j]] 9)) := hk5.trans (Kp.of_q (q_new w5 #[.string l[j]] 9))
      have hbl6 : Below g w0 (w5.alloc (.cells #[.string l[j]] 9)) := hb5.trans ((q_new w5 #[.string l[j]] 9).mono (by omega))
      have hbl9 : Below g w0 w9 := hbl6.grown hg9 (by have := hbl6.size; omega) (fun k e2 => by have := (hown5.lt k e2).1; omega)
      have hb6 : Blk (w5.alloc (.cells #[.string l[j]] 9)) g 101 #[.string m', .bool false] := h5.blk.q (q_new w5 #[.string l[j]] 9)
      have hb9 : Blk w9 g 101 #[.string m', .bool false] := (hg9.block g hb6.lt (fun e2 => by
        rcases hown5.2 with ⟨h1, _⟩ | ⟨g2, _, _, _, h1, h2, _⟩
        · rw [h1] at e2
          simp [Value.ownBlock] at e2
        · rw [h1] at e2
          simp [Value.ownBlock] at e2
          omega)).trans hb6
      have HN : Hid (RL w0 g l t (j + 1) w9 A9 c9 m') := Lib.hid ⟨hb9, kp_grown hk6 hown5 hg9, hm2, hm3, hown9, ⟨hc9, hm9⟩, hbl9⟩
      clear hown9 hg9 hown5 ho5 hb9 hb6 hk6 hk5 h5 hr hkp c1 hbl6 hbl9 hb5
      go_wp2_with fail
      exact ⟨⟨j + 1, A9, c9, m', rfl, by go_num, by omega, HN.out⟩, by simp only [intOf]; omega⟩
    · obtain rfl : j = nl := by omega
      have hlI : ¬ ((j : Int) < (j : Int)) := by omega
      have hm : m = t := by
        refine ba_ext ?_
        have := hr.rest
        rwa [List.drop_of_length_le (by omega), List.flatMap_nil, List.nil_append] at this
      have HF : Hid (RL w0 g l t j wr A c t) := Lib.hid (hm ▸ hr)
      clear hr hm
      go_wp2_with fail
      go_ret
      refine ⟨A, c, w0, m0, ?_, ?_, ?_⟩
      · rw [hnl]; rfl
      · exact H0.out
      · rw [hnl]; exact HF.out
set_option maxRecDepth 100000 in
theorem rdList_any (g : Nat) (s t : ByteArray) (l : List ByteArray) (w : World) (hB : Blk w g 101 #[.string s, .bool false]) (hs : s.data.toList = listL l ++ t.data.toList) (hz : s.size ≤ 9223372036854775807) (hl : l.length ≤ 1000) :
    Calls Tryz.prog 53 #[.pointer (some ⟨g, 0, none⟩)] w (TextsIs g l t w) := by
  have h := rdTexts_any g s t l w hB hs hz hl
  clear hB hs
  go_enter Tryz.func53, Tryz.ntmps53
  go_wp2_with (go_at_call 85; refine h.mono ?_; rintro e w' ⟨A, c, w0, s0, rfl, h1, h2⟩)
  go_ret
  exact ⟨A, c, w0, s0, rfl, h1, h2⟩
end Go.Proofs.YtjfcllanochhmaaGreatDoor.Dec

namespace Go.Proofs.YtjfcllanochhmaaGreatDoor.Dec
open Go.RowKit Grp Mem _root_.Go.Proofs.YtjfcllanochhmaaGreatDoor.Code Sha Sign _root_.Go.Proofs.YtjfcllanochhmaaGreatDoor.Item _root_.Go.Proofs.YtjfcllanochhmaaGreatDoor.Known

theorem Rd.kp {g : Nat} {t : ByteArray} {w w' : World} (h : Rd g t w w') : Kp g w w' := ⟨(h.below g w (Nat.le_refl _) (Below.refl g w)).size, fun b _ hne => h.far b hne⟩
theorem rdNumI_any (g : Nat) (s t : ByteArray) (n : Int) (w : World) (hB : Blk w g 101 #[.string s, .bool false]) (hs : s.data.toList = numL n ++ t.data.toList) (hn : 0 ≤ n ∧ n ≤ 4611686018427387904) (hz : s.size ≤ 9223372036854775807) :
    Calls Tryz.prog 23 #[.pointer (some ⟨g, 0, none⟩)] w fun e w' => e = .returned (.int .i64 n) ∧ Rd g t w w' := by
  have h := rdNum_any g s t n.toNat w hB (by rw [hs]; unfold numL numB; rw [if_neg (by omega)]) (by omega) hz
  rwa [Int.toNat_of_nonneg hn.1] at h
/-- A text that begins with an encoding, parted. -/
theorem ba_part {s : ByteArray} {a b : List UInt8} (h : s.data.toList = a ++ b) (hz : s.size ≤ 9223372036854775807) : ∃ m : ByteArray, s.data.toList = a ++ m.data.toList ∧ m.data.toList = b ∧ m.size ≤ 9223372036854775807 := by
  refine ⟨⟨b.toArray⟩, by simpa using h, by simp, ?_⟩
  have h1 := congrArg List.length h
  rw [List.length_append, ba_length] at h1
  rw [← ba_length]
  simp
  omega
/-- The reader in block g has t left, the local in block h holds cs, the result's cell r is as it was, the list read lies from B on. -/
structure Fld (w0 : World) (g h r B : Nat) (td : TypeId) (rc : Array Value) (A : Option Addr) (l : List ByteArray) (t : ByteArray) (cs : List Value) (W : World) : Prop where
  rd : Blk W g 101 #[.string t, .bool false]
  loc : Blk W h td cs.toArray
  res : Blk W r td rc
  kp : Kp g w0 W
  row : RowsFrom B W A 1 strC l
  bel : Below g w0 W
  bnd : g < w0.heap.size ∧ w0.heap.size ≤ h ∧ h < B ∧ r < B ∧ w0.heap.size ≤ r ∧ h ≠ r
theorem Fld.mid {w0 W W' : World} {g h r B : Nat} {td : TypeId} {rc : Array Value} {A : Option Addr} {l : List ByteArray} {t t' : ByteArray} {cs : List Value} (f : Fld w0 g h r B td rc A l t cs W) (hr : Rd g t' W W') : Fld w0 g h r B td rc A l t' cs W' := by
  obtain ⟨h1, h2, h3, h4, h5, h6⟩ := f.bnd
  exact ⟨hr.blk, (hr.far h (by omega)).trans f.loc, (hr.far r (by omega)).trans f.res, f.kp.trans hr.kp, f.row.far fun b hb => hr.far b (by omega), hr.below g w0 (Nat.le_refl _) f.bel, f.bnd⟩
theorem Fld.splice {w0 W W' : World} {g h r B : Nat} {td : TypeId} {rc : Array Value} {A : Option Addr} {l : List ByteArray} {t : ByteArray} {cs cs' : List Value} (f : Fld w0 g h r B td rc A l t cs W) (hl : Blk W' h td cs'.toArray) (hfar : ∀ b, b ≠ h → W'.heap[b]? = W.heap[b]?) (hb : Below h W W') : Fld w0 g h r B td rc A l t cs' W' := by
  obtain ⟨h1, h2, h3, h4, h5, h6⟩ := f.bnd
  exact ⟨(hfar g (by omega)).trans f.rd, hl, (hfar r (by omega)).trans f.res, ⟨Nat.le_trans f.kp.size hb.size, fun b hb hne => (hfar b (by omega)).trans (f.kp.block b hb hne)⟩, f.row.far fun b hb => hfar b (by omega), f.bel.trans (hb.mono (by omega)), f.bnd⟩
theorem Fld.put {w0 W : World} {g h r B : Nat} {td : TypeId} {rc : Array Value} {A : Option Addr} {l : List ByteArray} {t : ByteArray} {cs : List Value} (f : Fld w0 g h r B td rc A l t cs W) (i : Nat) (v : Value) : Fld w0 g h r B td rc A l t (cs.set i v) (W.setCell ⟨h, i, none⟩ v) := by
  have h1 := f.loc.set_ i v
  rw [List.setIfInBounds_toArray] at h1
  exact f.splice h1 (fun b hb => setCells_far (g := h) hb [v] i W) (below_setCells (Nat.le_refl h) [v] i W W (Below.refl h W))
theorem Fld.list {w0 W W' V : World} {g h r B c : Nat} {td : TypeId} {rc : Array Value} {A A' : Option Addr} {l' l : List ByteArray} {s0 t t' : ByteArray} {cs : List Value} (f : Fld w0 g h r B td rc A l t cs W) (hB : B ≤ W.heap.size) (h0 : Rd g s0 W V) (hl : RL V g l' t' l'.length W' A' c t') : Fld w0 g h r B td rc A' l' t' cs W' := by
  have f0 := f.mid h0
  obtain ⟨h1, h2, h3, h4, h5, h6⟩ := f.bnd
  have hz := h0.kp.size
  refine ⟨hl.blk, (hl.kp.block h (by omega) (by omega)).trans f0.loc, (hl.kp.block r (by omega) (by omega)).trans f0.res, f0.kp.trans hl.kp, ?_, f0.bel.trans hl.bel, f.bnd⟩
  have h7 := hl.own
  rw [List.take_length] at h7
  exact (rows_from str_len h7 rfl).low (by omega)
theorem rowsFrom_kp {α : Type} {g B : Nat} {X Y : World} {A : Option Addr} {k : Nat} {f : α → List Value} {l : List α} (hr : RowsFrom B X A k f l) (h : Kp g X Y) (hg : g < B) : RowsFrom B Y A k f l := fun h0 => by
  obtain ⟨b, o, e, hb, hl, hc⟩ := hr h0
  exact ⟨b, o, e, hb, Nat.lt_of_lt_of_le hl h.size, fun j hj i v hv => (World.cell?_of_block (w := X) (h.block b hl (by omega))).trans (hc j hj i v hv)⟩
/-- What readSig hands back. -/
def SigRd (g : Nat) (a b : Int) (t : ByteArray) (w : World) (e : Ending) (w' : World) : Prop := e = .returned (.agg #[.int .i64 a, .int .i64 b]) ∧ Blk w' g 101 #[.string t, .bool false] ∧ Kp g w w' ∧ Below g w w'
/-- What readDecision hands back. -/
def DecRd (g : Nat) (d : DecR) (t : ByteArray) (w : World) (e : Ending) (w' : World) : Prop := ∃ A c, e = .returned (.agg (decA (DecR.to' d A c))) ∧ Blk w' g 101 #[.string t, .bool false] ∧ Kp g w w' ∧ Below g w w' ∧ RowsFrom w.heap.size w' A 1 strC d.to ∧ d.to.length ≤ c ∧ c ≤ maxLen

set_option maxRecDepth 100000 in
set_option maxHeartbeats 2000000 in
theorem readSig_any (g : Nat) (m0 t : ByteArray) (a b : Int) (w : World) (hB : Blk w g 101 #[.string m0, .bool false]) (hs : m0.data.toList = numL a ++ (numL b ++ t.data.toList)) (ha : 0 ≤ a ∧ a ≤ 4611686018427387904) (hb : 0 ≤ b ∧ b ≤ 4611686018427387904) (hz : m0.size ≤ 9223372036854775807) :
    Calls Tryz.prog 56 #[.pointer (some ⟨g, 0, none⟩)] w (SigRd g a b t w) := by
  obtain ⟨m1, e0, e1, y1⟩ := ba_part hs hz
  clear hs
  have hr0 := Blk.new w 37 (#[.int .i64 0, .int .i64 0])
  have hq1 := q_new w (#[.int .i64 0, .int .i64 0]) 37
  have hh0 := Blk.new' (g := w.heap.size + 1) (w.alloc (.cells (#[.int .i64 0, .int .i64 0]) 37)) 37 (#[.int .i64 0, .int .i64 0]) (by simp)
  have hq2 := q_new (w.alloc (.cells (#[.int .i64 0, .int .i64 0]) 37)) (#[.int .i64 0, .int .i64 0]) 37
  have hr0 := hr0.q hq2
  have hq := Q.trans hq1 hq2
  clear hq1 hq2
  obtain ⟨W0, hW0⟩ : ∃ W0, W0 = (w.alloc (.cells (#[.int .i64 0, .int .i64 0]) 37)).alloc (.cells (#[.int .i64 0, .int .i64 0]) 37) := ⟨_, rfl⟩
  rw [← hW0] at hr0 hh0 hq
  have hws : W0.heap.size = w.heap.size + 2 := by rw [hW0]; simp
  have hgw := hB.lt
  have f0 : Fld w g (w.heap.size + 1) w.heap.size (w.heap.size + 2) 37 (#[.int .i64 0, .int .i64 0]) none [] m0 [.int .i64 0, .int .i64 0] W0 := ⟨hB.q hq, hh0, hr0, Kp.of_q hq, fun h => absurd h (by simp), hq.mono (by omega), by omega⟩
  have HX := Lib.hid hW0
  clear hr0 hh0 hq hW0 hB
  have hz0 : w.heap.size + 2 ≤ W0.heap.size := by omega
  go_enter Tryz.func56, Tryz.ntmps56
  go_upto_region 2 with (fail)
  refine (show Code.wp _ _ _ _ W0 → Code.wp _ _ _ _ _ from fun h => by rw [HX.out] at h; exact h) ?_
  have hc := rdNumI_any g m0 m1 a W0 f0.rd e0 ha hz
  go_upto_region 3 with (go_at_call 23; refine hc.mono ?_; rintro e w4 ⟨rfl, h4⟩; have c4 := (f0.mid h4).loc.cell 0; have z4 := (f0.mid h4).loc.frozen 0)
  have f1 := (f0.mid h4).put 0 (.int .i64 a)
  have hz1 : w.heap.size + 2 ≤ w4.heap.size := Nat.le_trans hz0 h4.kp.size
  have hz2 : w.heap.size + 2 ≤ (w4.setCell ⟨w.heap.size + 1, 0, none⟩ (.int .i64 a)).heap.size := Nat.le_trans hz1 (below_setCells (Nat.le_refl (w.heap.size + 1)) [.int .i64 a] 0 w4 w4 (Below.refl (w.heap.size + 1) w4)).size
  clear f0 hc h4 c4 z4 hz0 hz1
  generalize w4.setCell ⟨w.heap.size + 1, 0, none⟩ (.int .i64 a) = W1 at *
  clear w4
  have f0 := f1
  have hz0 := hz2
  clear f1 hz2
  have hc := rdNumI_any g m1 t b W1 f0.rd e1 hb y1
  go_upto_region 4 with (go_at_call 23; refine hc.mono ?_; rintro e w4 ⟨rfl, h4⟩; have c4 := (f0.mid h4).loc.cell 1; have z4 := (f0.mid h4).loc.frozen 1)
  have f1 := (f0.mid h4).put 1 (.int .i64 b)
  have hz1 : w.heap.size + 2 ≤ w4.heap.size := Nat.le_trans hz0 h4.kp.size
  have hz2 : w.heap.size + 2 ≤ (w4.setCell ⟨w.heap.size + 1, 1, none⟩ (.int .i64 b)).heap.size := Nat.le_trans hz1 (below_setCells (Nat.le_refl (w.heap.size + 1)) [.int .i64 b] 1 w4 w4 (Below.refl (w.heap.size + 1) w4)).size
  clear f0 hc h4 c4 z4 hz0 hz1
  generalize w4.setCell ⟨w.heap.size + 1, 1, none⟩ (.int .i64 b) = W1 at *
  clear w4
  have f0 := f1
  have hz0 := hz2
  clear f1 hz2
  have hL := Wd.load (P := Tryz.prog) (ty := 37) (cs := [.int .i64 a, .int .i64 b]) f0.loc.lt (Blk.range f0.loc) Tryz.underlying37 rfl (by kernel_rfl) ⟨W1, Q.refl W1⟩
  have hres := f0.res
  go_upto_region 4 with (fail)
  refine wp_region_lit ?_
  refine wpList_load_run 37 (.tmp 3) (.pointer (some ⟨w.heap.size + 1, 0, none⟩)) (.agg #[.int .i64 a, .int .i64 b]) rfl rfl rfl hL ?_
  dsimp only [Act.put]
  simp only [List.setIfInBounds_toArray, List.set_cons_succ, List.set_cons_zero]
  refine wpList_store_far (cs := [.int .i64 0, .int .i64 0]) hres rfl 37 (.tmp 2) (.tmp 10) [.int .i64 a, .int .i64 b] rfl rfl rfl (by kernel_rfl) (by simp [Value.oneCell']) (Nat.le_refl 2) ?_
  intro W3 hW3 hbel3 hfar3
  rw [splice_all _ _ (by rfl)] at hW3
  have hg3 : Blk W3 g 101 #[.string t, .bool false] := (hfar3 g (by omega)).trans f0.rd
  have hk3 : Kp g w W3 := ⟨Nat.le_trans f0.kp.size (hbel3 _ _ (Nat.le_refl _) (Below.refl _ W1)).size, fun b hb hne => (hfar3 b (by omega)).trans (f0.kp.block b hb hne)⟩
  have hb3 : Below g w W3 := hbel3 _ _ (by omega) f0.bel
  have HF : Hid (SigRd g a b t w (.returned (.agg #[.int .i64 a, .int .i64 b])) W3) := Lib.hid ⟨rfl, hg3, hk3, hb3⟩
  clear hbel3 hfar3 hL hres f0 hg3 hk3
  go_wp2_with fail
  exact bodyPost_ret (results_cell_row rfl _ _ w.heap.size 37 #[.int .i64 a, .int .i64 b] (0, 0) _ rfl hW3 Tryz.underlying37 rfl (by kernel_rfl)) rfl HF.out
def NatD (d : DecR) : Prop := ∀ n ∈ [d.server, d.number, d.kind, d.n, d.start, d.stop, d.e, d.s], 0 ≤ n ∧ n ≤ 4611686018427387904
theorem NatD.at {d : DecR} (h : NatD d) (i : Nat) {n : Int} (hi : [d.server, d.number, d.kind, d.n, d.start, d.stop, d.e, d.s][i]? = some n) : 0 ≤ n ∧ n ≤ 4611686018427387904 := h n (List.mem_of_getElem? hi)
set_option maxRecDepth 100000 in
set_option maxHeartbeats 8000000 in
theorem readDec_any (g : Nat) (m0 t : ByteArray) (d : DecR) (w : World) (hB : Blk w g 101 #[.string m0, .bool false]) (hs : m0.data.toList = decL d ++ (numL d.e ++ (numL d.s ++ t.data.toList))) (hn : NatD d) (hl : d.to.length ≤ 1000) (hz : m0.size ≤ 9223372036854775807) :
    Calls Tryz.prog 29 #[.pointer (some ⟨g, 0, none⟩)] w (DecRd g d t w) := by
  have y0 := hz
  have r0 := hs
  unfold decL at r0
  simp only [List.append_assoc] at r0
  obtain ⟨m1, e0, r1, y1⟩ := ba_part r0 y0
  obtain ⟨m2, e1, r2, y2⟩ := ba_part r1 y1
  obtain ⟨m3, e2, r3, y3⟩ := ba_part r2 y2
  obtain ⟨m4, e3, r4, y4⟩ := ba_part r3 y3
  obtain ⟨m5, e4, r5, y5⟩ := ba_part r4 y4
  obtain ⟨m6, e5, r6, y6⟩ := ba_part r5 y5
  obtain ⟨m7, e6, r7, y7⟩ := ba_part r6 y6
  obtain ⟨m8, e7, r8, y8⟩ := ba_part r7 y7
  obtain ⟨m9, e8, r9, y9⟩ := ba_part r8 y8
  obtain ⟨m10, e9, r10, y10⟩ := ba_part r9 y9
  clear hs hz
  have hr0 := Blk.new w 45 (decA dec0)
  have hq1 := q_new w (decA dec0) 45
  have hh0 := Blk.new' (g := w.heap.size + 1) (w.alloc (.cells (decA dec0) 45)) 45 (decA dec0) (by simp)
  have hq2 := q_new (w.alloc (.cells (decA dec0) 45)) (decA dec0) 45
  have hr0 := hr0.q hq2
  have hq := Q.trans hq1 hq2
  clear hq1 hq2
  obtain ⟨W0, hW0⟩ : ∃ W0, W0 = (w.alloc (.cells (decA dec0) 45)).alloc (.cells (decA dec0) 45) := ⟨_, rfl⟩
  rw [← hW0] at hr0 hh0 hq
  have hws : W0.heap.size = w.heap.size + 2 := by rw [hW0]; simp
  have hgw := hB.lt
  have f0 : Fld w g (w.heap.size + 1) w.heap.size (w.heap.size + 2) 45 (decA dec0) none [] m0 dec0.cells W0 := ⟨hB.q hq, hh0, hr0, Kp.of_q hq, fun h => absurd h (by simp), hq.mono (by omega), by omega⟩
  have HX := Lib.hid hW0
  clear hr0 hh0 hq hW0 hB
  have hz0 : w.heap.size + 2 ≤ W0.heap.size := by omega
  go_enter Tryz.func29, Tryz.ntmps29
  go_upto_region 2 with (fail)
  refine (show Code.wp _ _ _ _ W0 → Code.wp _ _ _ _ _ from fun h => by rw [HX.out] at h; exact h) ?_
  have hc := rdNumI_any g m0 m1 d.server W0 f0.rd e0 (hn.at 0 rfl) y0
  go_upto_region 3 with (go_at_call 23; refine hc.mono ?_; rintro e w4 ⟨rfl, h4⟩; have c4 := (f0.mid h4).loc.cell 0; have z4 := (f0.mid h4).loc.frozen 0)
  have f1 := (f0.mid h4).put 0 (.int .i64 d.server)
  have hz1 : w.heap.size + 2 ≤ w4.heap.size := Nat.le_trans hz0 h4.kp.size
  have hz2 : w.heap.size + 2 ≤ (w4.setCell ⟨w.heap.size + 1, 0, none⟩ (.int .i64 d.server)).heap.size := Nat.le_trans hz1 (below_setCells (Nat.le_refl (w.heap.size + 1)) [.int .i64 d.server] 0 w4 w4 (Below.refl (w.heap.size + 1) w4)).size
  clear f0 hc h4 c4 z4 hz0 hz1
  generalize w4.setCell ⟨w.heap.size + 1, 0, none⟩ (.int .i64 d.server) = W1 at *
  clear w4
  have f0 := f1
  have hz0 := hz2
  clear f1 hz2
  have hc := rdNumI_any g m1 m2 d.number W1 f0.rd e1 (hn.at 1 rfl) y1
  go_upto_region 4 with (go_at_call 23; refine hc.mono ?_; rintro e w4 ⟨rfl, h4⟩; have c4 := (f0.mid h4).loc.cell 1; have z4 := (f0.mid h4).loc.frozen 1)
  have f1 := (f0.mid h4).put 1 (.int .i64 d.number)
  have hz1 : w.heap.size + 2 ≤ w4.heap.size := Nat.le_trans hz0 h4.kp.size
  have hz2 : w.heap.size + 2 ≤ (w4.setCell ⟨w.heap.size + 1, 1, none⟩ (.int .i64 d.number)).heap.size := Nat.le_trans hz1 (below_setCells (Nat.le_refl (w.heap.size + 1)) [.int .i64 d.number] 1 w4 w4 (Below.refl (w.heap.size + 1) w4)).size
  clear f0 hc h4 c4 z4 hz0 hz1
  generalize w4.setCell ⟨w.heap.size + 1, 1, none⟩ (.int .i64 d.number) = W1 at *
  clear w4
  have f0 := f1
  have hz0 := hz2
  clear f1 hz2
  have hc := rdNumI_any g m2 m3 d.kind W1 f0.rd e2 (hn.at 2 rfl) y2
  go_upto_region 5 with (go_at_call 23; refine hc.mono ?_; rintro e w4 ⟨rfl, h4⟩; have c4 := (f0.mid h4).loc.cell 2; have z4 := (f0.mid h4).loc.frozen 2)
  have f1 := (f0.mid h4).put 2 (.int .i64 d.kind)
  have hz1 : w.heap.size + 2 ≤ w4.heap.size := Nat.le_trans hz0 h4.kp.size
  have hz2 : w.heap.size + 2 ≤ (w4.setCell ⟨w.heap.size + 1, 2, none⟩ (.int .i64 d.kind)).heap.size := Nat.le_trans hz1 (below_setCells (Nat.le_refl (w.heap.size + 1)) [.int .i64 d.kind] 2 w4 w4 (Below.refl (w.heap.size + 1) w4)).size
  clear f0 hc h4 c4 z4 hz0 hz1
  generalize w4.setCell ⟨w.heap.size + 1, 2, none⟩ (.int .i64 d.kind) = W1 at *
  clear w4
  have f0 := f1
  have hz0 := hz2
  clear f1 hz2
  have hc := rdText_any g m3 d.actor m4 W1 f0.rd e3 y3
  go_upto_region 6 with (go_at_call 52; refine hc.mono ?_; rintro e w4 ⟨rfl, h4⟩; have c4 := (f0.mid h4).loc.cell 3; have z4 := (f0.mid h4).loc.frozen 3)
  have f1 := (f0.mid h4).put 3 (.string d.actor)
  have hz1 : w.heap.size + 2 ≤ w4.heap.size := Nat.le_trans hz0 h4.kp.size
  have hz2 : w.heap.size + 2 ≤ (w4.setCell ⟨w.heap.size + 1, 3, none⟩ (.string d.actor)).heap.size := Nat.le_trans hz1 (below_setCells (Nat.le_refl (w.heap.size + 1)) [.string d.actor] 3 w4 w4 (Below.refl (w.heap.size + 1) w4)).size
  clear f0 hc h4 c4 z4 hz0 hz1
  generalize w4.setCell ⟨w.heap.size + 1, 3, none⟩ (.string d.actor) = W1 at *
  clear w4
  have f0 := f1
  have hz0 := hz2
  clear f1 hz2
  have hc := rdText_any g m4 d.object m5 W1 f0.rd e4 y4
  go_upto_region 7 with (go_at_call 52; refine hc.mono ?_; rintro e w4 ⟨rfl, h4⟩; have c4 := (f0.mid h4).loc.cell 4; have z4 := (f0.mid h4).loc.frozen 4)
  have f1 := (f0.mid h4).put 4 (.string d.object)
  have hz1 : w.heap.size + 2 ≤ w4.heap.size := Nat.le_trans hz0 h4.kp.size
  have hz2 : w.heap.size + 2 ≤ (w4.setCell ⟨w.heap.size + 1, 4, none⟩ (.string d.object)).heap.size := Nat.le_trans hz1 (below_setCells (Nat.le_refl (w.heap.size + 1)) [.string d.object] 4 w4 w4 (Below.refl (w.heap.size + 1) w4)).size
  clear f0 hc h4 c4 z4 hz0 hz1
  generalize w4.setCell ⟨w.heap.size + 1, 4, none⟩ (.string d.object) = W1 at *
  clear w4
  have f0 := f1
  have hz0 := hz2
  clear f1 hz2
  have hc := rdText_any g m5 d.text m6 W1 f0.rd e5 y5
  go_upto_region 8 with (go_at_call 52; refine hc.mono ?_; rintro e w4 ⟨rfl, h4⟩; have c4 := (f0.mid h4).loc.cell 5; have z4 := (f0.mid h4).loc.frozen 5)
  have f1 := (f0.mid h4).put 5 (.string d.text)
  have hz1 : w.heap.size + 2 ≤ w4.heap.size := Nat.le_trans hz0 h4.kp.size
  have hz2 : w.heap.size + 2 ≤ (w4.setCell ⟨w.heap.size + 1, 5, none⟩ (.string d.text)).heap.size := Nat.le_trans hz1 (below_setCells (Nat.le_refl (w.heap.size + 1)) [.string d.text] 5 w4 w4 (Below.refl (w.heap.size + 1) w4)).size
  clear f0 hc h4 c4 z4 hz0 hz1
  generalize w4.setCell ⟨w.heap.size + 1, 5, none⟩ (.string d.text) = W1 at *
  clear w4
  have f0 := f1
  have hz0 := hz2
  clear f1 hz2
  have hc := rdList_any g m6 m7 d.to W1 f0.rd e6 y6 hl
  go_upto_region 9 with (go_at_call 53; refine hc.mono ?_; rintro e w4 ⟨A, c, V, s0, rfl, h4, h5⟩; have c4 := (f0.list hz0 h4 h5).loc.cell 6; have z4 := (f0.list hz0 h4 h5).loc.frozen 6)
  have f1 := (f0.list hz0 h4 h5).put 6 (.slice A d.to.length c)
  have hlc := h5.le
  have hz2 : w.heap.size + 2 ≤ (w4.setCell ⟨w.heap.size + 1, 6, none⟩ (.slice A d.to.length c)).heap.size := Nat.le_trans (Nat.le_trans hz0 (Nat.le_trans h4.kp.size h5.kp.size)) (below_setCells (Nat.le_refl (w.heap.size + 1)) [.slice A d.to.length c] 6 w4 w4 (Below.refl (w.heap.size + 1) w4)).size
  clear f0 hc h4 h5 c4 z4 hz0
  generalize w4.setCell ⟨w.heap.size + 1, 6, none⟩ (.slice A d.to.length c) = W1 at *
  clear w4
  have f0 := f1
  have hz0 := hz2
  clear f1 hz2
  have hc := rdNumI_any g m7 m8 d.n W1 f0.rd e7 (hn.at 3 rfl) y7
  go_upto_region 10 with (go_at_call 23; refine hc.mono ?_; rintro e w4 ⟨rfl, h4⟩; have c4 := (f0.mid h4).loc.cell 7; have z4 := (f0.mid h4).loc.frozen 7)
  have f1 := (f0.mid h4).put 7 (.int .i64 d.n)
  have hz1 : w.heap.size + 2 ≤ w4.heap.size := Nat.le_trans hz0 h4.kp.size
  have hz2 : w.heap.size + 2 ≤ (w4.setCell ⟨w.heap.size + 1, 7, none⟩ (.int .i64 d.n)).heap.size := Nat.le_trans hz1 (below_setCells (Nat.le_refl (w.heap.size + 1)) [.int .i64 d.n] 7 w4 w4 (Below.refl (w.heap.size + 1) w4)).size
  clear f0 hc h4 c4 z4 hz0 hz1
  generalize w4.setCell ⟨w.heap.size + 1, 7, none⟩ (.int .i64 d.n) = W1 at *
  clear w4
  have f0 := f1
  have hz0 := hz2
  clear f1 hz2
  have hc := rdNumI_any g m8 m9 d.start W1 f0.rd e8 (hn.at 4 rfl) y8
  go_upto_region 11 with (go_at_call 23; refine hc.mono ?_; rintro e w4 ⟨rfl, h4⟩; have c4 := (f0.mid h4).loc.cell 8; have z4 := (f0.mid h4).loc.frozen 8)
  have f1 := (f0.mid h4).put 8 (.int .i64 d.start)
  have hz1 : w.heap.size + 2 ≤ w4.heap.size := Nat.le_trans hz0 h4.kp.size
  have hz2 : w.heap.size + 2 ≤ (w4.setCell ⟨w.heap.size + 1, 8, none⟩ (.int .i64 d.start)).heap.size := Nat.le_trans hz1 (below_setCells (Nat.le_refl (w.heap.size + 1)) [.int .i64 d.start] 8 w4 w4 (Below.refl (w.heap.size + 1) w4)).size
  clear f0 hc h4 c4 z4 hz0 hz1
  generalize w4.setCell ⟨w.heap.size + 1, 8, none⟩ (.int .i64 d.start) = W1 at *
  clear w4
  have f0 := f1
  have hz0 := hz2
  clear f1 hz2
  have hc := rdNumI_any g m9 m10 d.stop W1 f0.rd e9 (hn.at 5 rfl) y9
  go_upto_region 12 with (go_at_call 23; refine hc.mono ?_; rintro e w4 ⟨rfl, h4⟩; have c4 := (f0.mid h4).loc.cell 9; have z4 := (f0.mid h4).loc.frozen 9)
  have f1 := (f0.mid h4).put 9 (.int .i64 d.stop)
  have hz1 : w.heap.size + 2 ≤ w4.heap.size := Nat.le_trans hz0 h4.kp.size
  have hz2 : w.heap.size + 2 ≤ (w4.setCell ⟨w.heap.size + 1, 9, none⟩ (.int .i64 d.stop)).heap.size := Nat.le_trans hz1 (below_setCells (Nat.le_refl (w.heap.size + 1)) [.int .i64 d.stop] 9 w4 w4 (Below.refl (w.heap.size + 1) w4)).size
  clear f0 hc h4 c4 z4 hz0 hz1
  generalize w4.setCell ⟨w.heap.size + 1, 9, none⟩ (.int .i64 d.stop) = W1 at *
  clear w4
  have f0 := f1
  have hz0 := hz2
  clear f1 hz2
  have hc := readSig_any g m10 t d.e d.s W1 f0.rd r10 (hn.at 6 rfl) (hn.at 7 rfl) y10
  go_upto_region 13 with (first | (go_at_call 56; refine hc.mono ?_; rintro e w4 ⟨rfl, hg4, hk4, hb4⟩) | (refine wpList_store_far (cs := (DecR.to' { d with e := 0, s := 0 } A c).cells) (g := w.heap.size + 1) ((hk4.block (w.heap.size + 1) (by omega) (by omega)).trans f0.loc) rfl 37 (.tmp 36) (.tmp 35) [.int .i64 d.e, .int .i64 d.s] rfl rfl rfl (by kernel_rfl) (by simp [Value.oneCell']) (Nat.le_refl 12) ?_))
  intro W3 hW3 hbel3 hfar3
  have hW3 : Blk W3 (w.heap.size + 1) 45 (DecR.to' d A c).cells.toArray := hW3
  have hz4 := hk4.size
  have hg3 : Blk W3 g 101 #[.string t, .bool false] := (hfar3 g (by omega)).trans hg4
  have hr3 : Blk W3 w.heap.size 45 (decA dec0) := (hfar3 w.heap.size (by omega)).trans ((hk4.block w.heap.size (by omega) (by omega)).trans f0.res)
  have hk3 : Kp g w W3 := ⟨Nat.le_trans (Nat.le_trans f0.kp.size hk4.size) (hbel3 _ _ (Nat.le_refl _) (Below.refl _ w4)).size, fun b hb hne => (hfar3 b (by omega)).trans ((f0.kp.trans hk4).block b hb hne)⟩
  have hb3 : Below g w W3 := hbel3 _ _ (by omega) (f0.bel.trans hb4)
  have hw3 := (rowsFrom_kp f0.row hk4 (by omega)).far (w' := W3) fun b hb => hfar3 b (by omega)
  have hL := Wd.load (P := Tryz.prog) (ty := 45) (cs := (DecR.to' d A c).cells) hW3.lt (Blk.range hW3) Tryz.underlying45 rfl (by kernel_rfl) ⟨W3, Q.refl W3⟩
  clear hbel3 hfar3 f0 hc hk4 hb4 hg4
  go_upto_region 13 with (fail)
  refine wp_region_lit ?_
  refine wpList_load_run 45 (.tmp 3) (.pointer (some ⟨w.heap.size + 1, 0, none⟩)) (.agg (decA (DecR.to' d A c))) rfl rfl rfl hL ?_
  dsimp only [Act.put]
  simp only [List.setIfInBounds_toArray, List.set_cons_succ, List.set_cons_zero]
  refine wpList_store_far (cs := dec0.cells) hr3 rfl 45 (.tmp 2) (.tmp 37) (DecR.to' d A c).cells rfl rfl rfl (by kernel_rfl) (dec_all _) (Nat.le_refl 12) ?_
  intro W4 hW4 hbel4 hfar4
  rw [splice_all _ _ (by rfl)] at hW4
  have hz3 := hk3.size
  have hg5 : Blk W4 g 101 #[.string t, .bool false] := (hfar4 g (by omega)).trans hg3
  have hk5 : Kp g w W4 := ⟨Nat.le_trans hk3.size (hbel4 _ _ (Nat.le_refl _) (Below.refl _ W3)).size, fun b hb hne => (hfar4 b (by omega)).trans (hk3.block b hb hne)⟩
  have hw5 := (hw3.far (w' := W4) fun b hb => hfar4 b (by omega)).low (show w.heap.size ≤ w.heap.size + 2 by omega)
  have HF : Hid (DecRd g d t w (.returned (.agg (decA (DecR.to' d A c)))) W4) := Lib.hid ⟨A, c, rfl, hg5, hk5, hbel4 _ _ (by omega) hb3, hw5, hlc⟩
  clear hbel4 hfar4 hL hg3 hr3 hk3 hb3 hw3 hg5 hk5 hw5
  go_wp2_with fail
  exact bodyPost_ret (results_cell_row rfl _ _ w.heap.size 45 (decA (DecR.to' d A c)) (0, 0) _ rfl hW4 Tryz.underlying45 rfl (by kernel_rfl)) rfl HF.out
end Go.Proofs.YtjfcllanochhmaaGreatDoor.Dec

namespace Go.Proofs.YtjfcllanochhmaaGreatDoor.Dec
open Go.RowKit Grp Mem _root_.Go.Proofs.YtjfcllanochhmaaGreatDoor.Code Sha Sign _root_.Go.Proofs.YtjfcllanochhmaaGreatDoor.Item _root_.Go.Proofs.YtjfcllanochhmaaGreatDoor.Known

def kindI (n : Int) : ItemR := ⟨n, act0, claim0, ballot0, dec0⟩
theorem build_kind (n : Int) (w : World) : (Instr.build 47 #[(0, .int .i64 n)]).run Tryz.prog w = .ok (.agg (itA (kindI n))) w := by kernel_rfl
/-- What Read hands back of the encoding of a decision. -/
def ReadIs (d : DecR) (w : World) (e : Ending) (w' : World) : Prop := ∃ A c, e = .returned (.tuple #[.agg (itA (itDec (DecR.to' d A c))), .bool true]) ∧ DecIn w' (DecR.to' d A c) ∧ Q w w'
theorem dec_nat {d : DecR} (h : itemRight (itDec d) = true) : NatD d ∧ d.to.length ≤ 1000 := by
  unfold itemRight at h
  rw [if_neg (show ¬ (itDec d).kind = 0 from fun hh => by cases (show (3 : Int) = 0 from hh)), if_neg (show ¬ (itDec d).kind = 1 from fun hh => by cases (show (3 : Int) = 1 from hh)), if_neg (show ¬ (itDec d).kind = 2 from fun hh => by cases (show (3 : Int) = 2 from hh)), if_pos (show (itDec d).kind = 3 from rfl), Bool.and_eq_true] at h
  have h1 : decRight d = true := h.1
  unfold decRight withinB inOrd withinB at h1
  simp only [Bool.and_eq_true, decide_eq_true_eq] at h1
  obtain ⟨⟨a1, a2⟩, ⟨b1, b2⟩, ⟨c1, c2⟩, ⟨d1, d2⟩, e1, ht, ⟨f1, f2⟩, g1, g2⟩ := h1
  have hk : (0 ≤ d.kind ∧ d.kind ≤ 9) ∧ (d.to.length ≤ 1000 ∧ 0 ≤ d.n ∧ d.n ≤ 1000) := by
    unfold termsB at ht
    split at ht
    · rename_i hk
      simp only [plainD, Bool.and_eq_true, decide_eq_true_eq] at ht
      omega
    split at ht
    · rename_i hk
      simp only [plainD, Bool.and_eq_true, decide_eq_true_eq] at ht
      omega
    split at ht
    · rename_i hk
      simp only [idsB, withinB, Bool.and_eq_true, decide_eq_true_eq] at ht
      omega
    split at ht
    · rename_i hk
      simp only [plainD, Bool.and_eq_true, decide_eq_true_eq] at ht
      omega
    · cases ht
  refine ⟨fun n hn => ?_, hk.2.1⟩
  simp only [List.mem_cons, List.not_mem_nil, or_false] at hn
  rcases hn with rfl | rfl | rfl | rfl | rfl | rfl | rfl | rfl <;> omega
theorem bytes_dec {d : DecR} (h : itemRight (itDec d) = true) : (itemBytes (itDec d)).data.toList = numL 3 ++ (decL d ++ (numL d.e ++ numL d.s)) := by
  unfold itemBytes
  rw [if_pos h]
  show (itemBytesL (itDec d)).toArray.toList = _
  rfl
set_option maxRecDepth 100000 in
set_option maxHeartbeats 8000000 in
theorem readIt_any (d : DecR) (w : World) (hr : itemRight (itDec d) = true) (hz : (itemBytes (itDec d)).size ≤ 9223372036854775807) :
    Calls Tryz.prog 9 #[.string (itemBytes (itDec d))] w (ReadIs d w) := by
  obtain ⟨hn, hto⟩ := dec_nat hr
  have hbs := bytes_dec hr
  have hne : (itemBytes (itDec d)).toList.isEmpty = false := by rw [itemBytes_empty, hr]; rfl
  have hne2 : ((itemBytes (itDec d)).toList == []) = false := (show ((itemBytes (itDec d)).toList == []) = (itemBytes (itDec d)).toList.isEmpty by cases (itemBytes (itDec d)).toList <;> rfl).trans hne
  have hBy : ∀ (A : Option Addr) (c : Nat) (z : World), DecIn z (DecR.to' d A c) → Calls Tryz.prog 10 #[.agg (itA (itDec (DecR.to' d A c)))] z fun e w' => e = .returned (.string (itemBytes (itDec d))) ∧ Q z w' := fun A c z hd => itemBytes_any (itDec (DecR.to' d A c)) z ⟨act0_in z, hd⟩
  generalize itemBytes (itDec d) = s at *
  obtain ⟨m1, e0, r1, y1⟩ := ba_part hbs hz
  have hbr := Blk.new w 47 (itA item0)
  have hq := q_new w (itA item0) 47
  obtain ⟨W0, hW0⟩ : ∃ W0, W0 = w.alloc (.cells (itA item0) 47) := ⟨_, rfl⟩
  rw [← hW0] at hbr hq
  have hOp := rdOpen_any s W0
  have HX := Lib.hid hW0
  have hlt0 := hbr.lt
  clear hW0 hbs
  go_enter Tryz.func9, Tryz.ntmps9
  go_upto_region 1 with (fail)
  refine (show Code.wp _ _ _ _ W0 → Code.wp _ _ _ _ _ from fun h => by rw [HX.out] at h; exact h) ?_
  go_upto_region 2 with (go_at_call 22; refine hOp.mono ?_; rintro e w1 ⟨rfl, hg1, hq1⟩)
  have hN := rdNumI_any W0.heap.size s m1 3 w1 hg1 e0 (by omega) hz
  have hg1l := hg1.lt
  go_upto_region 3 with (first | (go_at_call 23; refine hN.mono ?_; rintro e w2 ⟨rfl, h2⟩) | (refine wpList_build_run 47 _ #[(0, .int .i64 3)] (.agg (itA (kindI 3))) rfl rfl (by simp only [List.map_toArray, List.map_cons, List.map_nil]; rfl) (build_kind _ _) ?_) | (refine wpList_store_blk (Blk.new w2 47 item0.cells.toArray) rfl 47 (.tmp 5) (.tmp 11) (kindI 3).cells rfl rfl rfl (by kernel_rfl) (it_all _) (Nat.le_refl 49) ?_))
  intro W hW hbel
  rw [splice_all _ _ (by rfl)] at hW
  have hqA : Q w2 W := hbel _ _ (Nat.le_refl _) (q_new _ _ _)
  have hgW := h2.blk.q hqA
  have hb2 : Below W0.heap.size W0 W := (h2.below W0.heap.size W0 (Nat.le_refl _) hq1).trans (hqA.mono (Nat.le_of_lt h2.blk.lt))
  have c0 : W.cell? ⟨w2.heap.size, 0, none⟩ = some (.int .i64 3) := hW.cell 0
  have hg2l := h2.blk.lt
  have hWl := hW.lt
  have hRd := readDec_any W0.heap.size m1 ⟨#[]⟩ d W hgW (by rw [r1]; simp) hn hto y1
  clear hbel hqA h2 hN hOp hg1 hq1 hgW
  generalize w2.heap.size = h at *
  clear hg1l
  clear w2 w1
  go_upto_region 13 with (first | (go_at_call 29; refine hRd.mono ?_; rintro e w3 ⟨A, c, rfl, hg3, hk3, hb3, hrow, hlc⟩) | (refine wpList_store_far (cs := (kindI 3).cells) (g := h) ((hk3.block h (by omega) (by omega)).trans hW) rfl 45 (.tmp 39) (.tmp 38) (DecR.to' d A c).cells rfl rfl rfl (by kernel_rfl) (dec_all _) (Nat.le_refl 49) ?_))
  intro W3 hW3 hbel3 hfar3
  have hW3 : Blk W3 h 47 (itDec (DecR.to' d A c)).cells.toArray := hW3
  have hgr := hk3.block W0.heap.size (by omega)
  have hz3 := hk3.size
  have hg4 : Blk W3 W0.heap.size 101 #[.string ⟨#[]⟩, .bool false] := (hfar3 _ (by omega)).trans hg3
  have hr3 : Blk W3 w.heap.size 47 (itA item0) := (hfar3 w.heap.size (by omega)).trans ((hk3.block w.heap.size (by omega) (by omega)).trans (hb2.block w.heap.size (by omega) ▸ hbr))
  have hq3 : Q w W3 := Q.trans hq (hbel3 _ _ (by omega) (hb2.trans hb3))
  have hrw3 := hrow.far (w' := W3) fun b hb => hfar3 b (by omega)
  have hd3 : DecIn W3 (DecR.to' d A c) := dec_in hrw3 hlc.1 hlc.2
  have hL := Wd.load (P := Tryz.prog) (ty := 47) (cs := (itDec (DecR.to' d A c)).cells) hW3.lt (Blk.range hW3) Tryz.underlying47 rfl (by kernel_rfl) 
  have hDn := rdDone_any W0.heap.size W3 hg4
  have hBy3 := hBy A c W3 hd3
  clear hbel3 hfar3 hb3 hk3 hrow hg3 hb2 hgr c0 hg4 hRd hW
  go_upto_region 15 with (first | (go_at_call 30; refine hDn.mono ?_; rintro e w4 ⟨rfl, rfl⟩) | (refine wpList_load_run 47 (.tmp 5) (.pointer (some ⟨h, 0, none⟩)) (.agg (itA (itDec (DecR.to' d A c)))) ?_ ?_ ?_ ?_ ?_; rfl; rfl; rfl; exact hL ⟨_, Q.refl _⟩) | (go_at_call 10; refine hBy3.mono ?_; rintro e w5 ⟨rfl, hq5⟩))
  have hL5 := hL ⟨w5, hq5⟩
  have hr5 := hr3.q hq5
  go_wp2_with (first | (refine wpList_load_run 47 (.tmp 5) (.pointer (some ⟨h, 0, none⟩)) (.agg (itA (itDec (DecR.to' d A c)))) ?_ ?_ ?_ ?_ ?_; rfl; rfl; rfl; exact hL5) | (refine wpList_store_far (cs := item0.cells) hr5 rfl 47 (.tmp 2) (.tmp 58) (itDec (DecR.to' d A c)).cells rfl rfl rfl (by kernel_rfl) (it_all _) (Nat.le_refl 49) ?_))
  intro W6 hW6 hbel6 hfar6
  rw [splice_all _ _ (by rfl)] at hW6
  have hq6 : Q w W6 := hbel6 _ _ (Nat.le_refl _) (Q.trans hq3 hq5)
  have hd6 : DecIn W6 (DecR.to' d A c) := by
    exact dec_in ((hrw3.q hq5).far (w' := W6) fun b hb => hfar6 b (by omega)) hlc.1 hlc.2
  have HF : Hid (ReadIs d w (.returned (.tuple #[.agg (itA (itDec (DecR.to' d A c))), .bool true])) W6) := Lib.hid ⟨A, c, rfl, hd6, hq6⟩
  clear hbel6 hfar6 hL hL5 hr5 hd6 hq6
  go_wp2_with fail
  exact bodyPost_ret (results_row_tmp rfl _ _ w.heap.size 47 (itA (itDec (DecR.to' d A c))) (0, 0) _ (.bool true) rfl rfl hW6 Tryz.underlying47 rfl (by kernel_rfl)) rfl HF.out
end Go.Proofs.YtjfcllanochhmaaGreatDoor.Dec
