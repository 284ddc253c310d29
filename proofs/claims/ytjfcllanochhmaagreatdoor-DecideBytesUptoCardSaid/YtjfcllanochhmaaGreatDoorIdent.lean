/-
  The contracts of package ident: isDigit, Right, Name and Ids.
-/
import Derived.Test.YtjfcllanochhmaaGreatDoorItemSpec
import Derived.Test.YtjfcllanochhmaaGreatDoorWd
import Derived.Laws.RangeAny
import Derived.WalkLawsBesides
set_option linter.unusedVariables false
set_option linter.unusedSimpArgs false
namespace Go.Proofs.YtjfcllanochhmaaGreatDoor.Item
open Go.RowKit Grp Mem _root_.Go.Proofs.YtjfcllanochhmaaGreatDoor.Code Sha Sign

theorem isDigit_yes (c : Int) (w : World) (h1 : 48 ≤ c) (h2 : c ≤ 57) : Calls Tryz.prog 119 #[.int .i32 c] w fun e w' => e = .returned (.bool true) ∧ w = w' := by
  go_enter Tryz.func119, Tryz.ntmps119
  go_wp2
  go_ret
  exact ⟨by simp [h1, h2], rfl⟩
theorem isDigit_no (c : Int) (w : World) (h : c < 48 ∨ 57 < c) : Calls Tryz.prog 119 #[.int .i32 c] w fun e w' => e = .returned (.bool false) ∧ w = w' := by
  by_cases h1 : 48 ≤ c
  · have h2 : ¬ c ≤ 57 := by omega
    go_enter Tryz.func119, Tryz.ntmps119
    go_wp2
    go_ret
    exact ⟨by simp [h2], rfl⟩
  · have h2 : decide (48 ≤ c) = false := by simpa using h1
    go_enter Tryz.func119, Tryz.ntmps119
    go_wp2
    go_ret
    exact ⟨rfl, rfl⟩
theorem q_iter (w : World) (s : ByteArray) (p : Nat) : Q w (w.iter s p) := Below.alloc (Q.refl w) (Nat.le_refl _) _
theorem take_all_snoc (s : ByteArray) (p : UInt8 → Bool) (k : Nat) (h : k < s.size) : (s.data.toList.take (k + 1)).all p = ((s.data.toList.take k).all p && p s[k]) := by
  rw [List.take_succ_eq_append_getElem (by rw [ba_length]; exact h), List.all_append]
  simp
  rfl
theorem all_of_not (s : ByteArray) (p : UInt8 → Bool) (k : Nat) (h : k < s.size) (hp : p s[k] = false) : s.data.toList.all p = false := by
  rw [Bool.eq_false_iff]
  intro ha
  rw [List.all_eq_true] at ha
  have := ha s[k] (by
    have : s.data.toList[k]'(by rw [ba_length]; exact h) = s[k] := rfl
    rw [← this]
    exact List.getElem_mem _)
  rw [hp] at this
  cases this
theorem idB_no (s : ByteArray) (h : s.size = 16 → s.data.toList.all hexC = false) : idB s = false := by
  unfold idB
  by_cases h1 : s.size = 16
  · rw [h h1]; simp
  · simp [h1]

set_option maxHeartbeats 1000000 in
theorem idRight_any (s : ByteArray) (w : World) : Calls Tryz.prog 86 #[.string s] w fun e w' => e = .returned (.bool (idB s)) ∧ Q w w' := by
  by_cases h16 : s.size = 16
  · have hn : ((s.size : Int) != 16) = false := by simp [h16]
    have H16 := Lib.hid h16
    clear h16
    go_enter Tryz.func86, Tryz.ntmps86
    go_wp2
    clear hn
    go_loopw [4] (fun c wr => ∃ pos, pos ≤ s.size ∧ wr = w.iter s pos ∧ Hid ((s.data.toList.take pos).all hexC = true)) (fun _ wr => s.size - wr.iterPos w.heap.size)
    case atStart => exact ⟨0, Nat.zero_le _, rfl, Lib.hid (by simp)⟩
    case round =>
      obtain ⟨pos, hpos, rfl, hall⟩ := hrel
      by_cases hp : pos < s.size
      · have hb : s[pos].toNat < 256 := s[pos].toNat_lt
        by_cases hx : hexC s[pos] = true
        · have hs : Hid ((s.data.toList.take (pos + 1)).all hexC = true) := Lib.hid (by rw [take_all_snoc s hexC pos hp, hall.out, hx]; rfl)
          have hd : (48 ≤ s[pos].toNat ∧ s[pos].toNat ≤ 57) ∨ (97 ≤ s[pos].toNat ∧ s[pos].toNat ≤ 102) := by simpa [hexC] using hx
          have hnx : ∀ ty, (Instr.next (.pointer (some ⟨w.heap.size, 0, none⟩)) true ty).run Tryz.prog (w.iter s pos) = _ := fun ty => run_next_ascii w s pos ty hp (by omega)
          clear hx
          rcases hd with ⟨d1, d2⟩ | ⟨d1, d2⟩
          · go_wp2_with (go_at_call 119; refine (isDigit_yes _ _ (by omega) (by omega)).mono ?_; rintro e w' ⟨rfl, rfl⟩)
            go_roundw
            case rel => exact ⟨pos + 1, by omega, rfl, hs⟩
            case measure => simp; omega
          · have e1 : decide ((s[pos].toNat : Int) < 97) = false := by simp; omega
            have e2 : ¬ (102 : Int) < (s[pos].toNat : Int) := by omega
            go_wp2_with (go_at_call 119; refine (isDigit_no _ _ (by omega)).mono ?_; rintro e w' ⟨rfl, rfl⟩)
            go_roundw
            case rel => exact ⟨pos + 1, by omega, rfl, hs⟩
            case measure => simp; omega
        · have hx : hexC s[pos] = false := by simpa using hx
          have hres := Lib.hid (idB_no s (fun _ => all_of_not s hexC pos hp hx))
          have hd : ∃ (r n : Nat), (∀ ty, (Instr.next (.pointer (some ⟨w.heap.size, 0, none⟩)) true ty).run Tryz.prog (w.iter s pos) = .ok (.tuple #[.bool true, .int .i64 pos, .int .i32 r]) (w.iter s n)) ∧ (r < 48 ∨ 57 < r) ∧ (r < 97 ∨ 102 < r) := by
            by_cases ha : s[pos].toNat < 128
            · refine ⟨s[pos].toNat, pos + 1, fun ty => run_next_ascii w s pos ty hp ha, ?_⟩
              simp [hexC] at hx
              omega
            · have := (decode_high s pos hp (by omega)).1
              exact ⟨_, _, fun ty => run_next_any w s pos ty hp, by omega, by omega⟩
          obtain ⟨r, n, hnx, d1, d2⟩ := hd
          clear hx
          by_cases hr : r < 97
          · have e1 : decide ((r : Int) < 97) = true := by simp; omega
            go_wp2_with (go_at_call 119; refine (isDigit_no _ _ (by omega)).mono ?_; rintro e w' ⟨rfl, rfl⟩)
            go_ret
            exact ⟨by rw [hres.out]; rfl, q_iter _ _ _⟩
          · have e1 : decide ((r : Int) < 97) = false := by simp; omega
            have e2 : (102 : Int) < (r : Int) := by omega
            go_wp2_with (go_at_call 119; refine (isDigit_no _ _ (by omega)).mono ?_; rintro e w' ⟨rfl, rfl⟩)
            go_ret
            exact ⟨by rw [hres.out]; rfl, q_iter _ _ _⟩
      · have hnx : ∀ ty, (Instr.next (.pointer (some ⟨w.heap.size, 0, none⟩)) true ty).run Tryz.prog (w.iter s pos) = _ := fun ty => run_next_end w s pos ty hp
        have hres : Hid (idB s = true) := by
          refine Lib.hid ?_
          have := hall.out
          rw [List.take_of_length_le (by rw [ba_length]; omega)] at this
          simp [idB, H16.out, this]
        go_wp2
        go_ret
        exact ⟨by rw [hres.out]; rfl, q_iter _ _ _⟩
  · have hn : ((s.size : Int) != 16) = true := by simp; omega
    have hres := Lib.hid (idB_no s (fun h => absurd h h16))
    clear h16
    go_enter Tryz.func86, Tryz.ntmps86
    go_wp2
    go_ret
    exact ⟨by rw [hres.out]; rfl, Q.refl _⟩

def digI (c : Int) : Bool := decide (48 ≤ c) && decide (c ≤ 57)
theorem isDigit_any (c : Int) (w : World) : Calls Tryz.prog 119 #[.int .i32 c] w fun e w' => e = .returned (.bool (digI c)) ∧ w = w' := by
  by_cases h : 48 ≤ c ∧ c ≤ 57
  · have : digI c = true := by simp [digI, h]
    rw [this]
    exact isDigit_yes c w h.1 h.2
  · have : digI c = false := by
      simp only [digI, Bool.and_eq_false_iff, decide_eq_false_iff_not]
      omega
    rw [this]
    exact isDigit_no c w (by omega)
theorem nameL_snoc (l : List UInt8) (c : UInt8) (h : l ≠ []) : nameL (l ++ [c]) = (nameL l && tailC c) := by
  cases l with
  | nil => exact absurd rfl h
  | cons a r => simp [nameL, List.all_append, Bool.and_assoc]
theorem nameL_prefix : ∀ (l r : List UInt8), l ≠ [] → nameL l = false → nameL (l ++ r) = false := by
  intro l r h hf
  cases l with
  | nil => exact absurd rfl h
  | cons a l =>
    simp only [nameL, List.cons_append, List.all_append] at *
    cases h1 : lowC a
    · rfl
    · rw [h1, Bool.true_and] at hf
      rw [hf]
      rfl
theorem nameB_empty (s : ByteArray) (h : ¬ 0 < s.size) : nameB s = false := by
  have : s.data.toList = [] := List.eq_nil_of_length_eq_zero (by rw [ba_length]; omega)
  simp [nameB, this, nameL]
theorem nameB_long (s : ByteArray) (h : 24 < s.size) : nameB s = false := by
  simp [nameB]; omega
/-- One byte more. -/
theorem name_step (s : ByteArray) (k : Nat) (h : k < s.size) (hk : 0 < k → nameL (s.data.toList.take k) = true) (hs : s.size ≤ 24) :
    ((if k = 0 then lowC s[k] else tailC s[k]) = true → nameL (s.data.toList.take (k + 1)) = true) ∧ ((if k = 0 then lowC s[k] else tailC s[k]) = false → nameB s = false) := by
  have hl : k < s.data.toList.length := by rw [ba_length]; exact h
  have hg : s.data.toList[k] = s[k] := rfl
  have ht : s.data.toList.take (k + 1) = s.data.toList.take k ++ [s[k]] := by rw [List.take_succ_eq_append_getElem hl, hg]
  have hall : nameL (s.data.toList.take (k + 1)) = if k = 0 then lowC s[k] else tailC s[k] := by
    rw [ht]
    by_cases h0 : k = 0
    · subst h0; simp [nameL]
    · rw [nameL_snoc _ _ (by intro hn; have := congrArg List.length hn; rw [List.length_take, List.length_nil] at this; omega), hk (by omega), if_neg h0]; rfl
  refine ⟨fun h1 => hall.trans h1, fun h1 => ?_⟩
  have := nameL_prefix (s.data.toList.take (k + 1)) (s.data.toList.drop (k + 1)) (by rw [ht]; simp) (hall.trans h1)
  rw [List.take_append_drop] at this
  simp [nameB, this]

set_option maxHeartbeats 2000000 in
theorem name_any (s : ByteArray) (w : World) : Calls Tryz.prog 128 #[.string s] w fun e w' => e = .returned (.bool (nameB s)) ∧ Q w w' := by
  by_cases hz : 0 < s.size
  · have hem : s.toList.isEmpty = false := by
      rw [ByteArray.toList_eq]
      cases h : s.data.toList with
      | nil => exact absurd (congrArg List.length h) (by rw [ba_length, List.length_nil]; omega)
      | cons a b => rfl
    by_cases hs : s.size ≤ 24
    · have hlen : ¬ (24 : Int) < (s.size : Int) := by omega
      go_enter Tryz.func128, Tryz.ntmps128
      go_wp2
      clear hem
      go_loopw [3, 4, 5] (fun _ _ _ wr => ∃ pos, pos ≤ s.size ∧ wr = w.iter s pos ∧ Hid (0 < pos → nameL (s.data.toList.take pos) = true)) (fun _ _ _ wr => s.size - wr.iterPos w.heap.size)
      case atStart => exact ⟨0, Nat.zero_le _, rfl, Lib.hid (by simp)⟩
      case round =>
        obtain ⟨pos, hpos, rfl, hall⟩ := hrel
        by_cases hp : pos < s.size
        · have hb : s[pos].toNat < 256 := s[pos].toNat_lt
          have hst := name_step s pos hp hall.out hs
          have hd : ∃ (r n : Nat), (∀ ty, (Instr.next (.pointer (some ⟨w.heap.size, 0, none⟩)) true ty).run Tryz.prog (w.iter s pos) = .ok (.tuple #[.bool true, .int .i64 pos, .int .i32 r]) (w.iter s n)) ∧
              Hid (((97 ≤ r ∧ r ≤ 122) ∨ (pos ≠ 0 ∧ ((48 ≤ r ∧ r ≤ 57) ∨ r = 95))) → n = pos + 1 ∧ nameL (s.data.toList.take (pos + 1)) = true) ∧ Hid (¬ ((97 ≤ r ∧ r ≤ 122) ∨ (pos ≠ 0 ∧ ((48 ≤ r ∧ r ≤ 57) ∨ r = 95))) → nameB s = false) := by
            by_cases ha : s[pos].toNat < 128
            · refine ⟨s[pos].toNat, pos + 1, fun ty => run_next_ascii w s pos ty hp ha, Lib.hid fun h => ⟨rfl, hst.1 ?_⟩, Lib.hid fun h => hst.2 ?_⟩
              · by_cases h0 : pos = 0
                · rw [if_pos h0]; simp only [lowC, Bool.and_eq_true, Bool.or_eq_true, decide_eq_true_eq]; omega
                · rw [if_neg h0]; simp only [lowC, tailC, Bool.and_eq_true, Bool.or_eq_true, decide_eq_true_eq]; omega
              · by_cases h0 : pos = 0
                · rw [if_pos h0]; simp only [lowC, Bool.and_eq_false_iff, decide_eq_false_iff_not]; omega
                · rw [if_neg h0]; simp only [lowC, tailC, Bool.and_eq_false_iff, Bool.or_eq_false_iff, decide_eq_false_iff_not]; omega
            · have hh := decode_high s pos hp (by omega)
              refine ⟨_, _, fun ty => run_next_any w s pos ty hp, Lib.hid fun h => by omega, Lib.hid fun h => hst.2 ?_⟩
              by_cases h0 : pos = 0
              · rw [if_pos h0]; simp only [lowC, Bool.and_eq_false_iff, decide_eq_false_iff_not]; omega
              · rw [if_neg h0]; simp only [lowC, tailC, Bool.and_eq_false_iff, Bool.or_eq_false_iff, decide_eq_false_iff_not]; omega
          obtain ⟨r, n, hnx, hgood, hbad⟩ := hd
          clear hst hb hall
          go_wp2_with (go_at_call 119; refine (isDigit_any _ _).mono ?_; rintro e w' ⟨rfl, rfl⟩)
          all_goals clear hnx
          all_goals try simp only [digI, Bool.and_eq_true, Bool.or_eq_true, decide_eq_true_eq, Bool.not_eq_true, Bool.and_eq_false_iff, decide_eq_false_iff_not, beq_iff_eq, bne_iff_ne, ne_eq, Bool.not_eq_true', Bool.not_eq_false', beq_eq_false_iff_ne, bne_eq_false_iff_eq] at *
          all_goals
            first
              | (exfalso; omega)
              | (have hh := hgood.out (by omega)
                 obtain ⟨rfl, hh2⟩ := hh
                 exact ⟨⟨pos + 1, by omega, rfl, Lib.hid fun _ => hh2⟩, by simp; omega⟩)
              | (go_ret
                 exact ⟨by rw [hbad.out (by omega)]; rfl, q_iter _ _ _⟩)
        · have hnx : ∀ ty, (Instr.next (.pointer (some ⟨w.heap.size, 0, none⟩)) true ty).run Tryz.prog (w.iter s pos) = _ := fun ty => run_next_end w s pos ty hp
          have hres : Hid (nameB s = true) := by
            refine Lib.hid ?_
            have := hall.out (by omega)
            rw [List.take_of_length_le (by rw [ba_length]; omega)] at this
            simp [nameB, hs, this]
          go_wp2
          go_ret
          exact ⟨by rw [hres.out]; rfl, q_iter _ _ _⟩
    · have hlen : (24 : Int) < (s.size : Int) := by omega
      have hres := Lib.hid (nameB_long s (by omega))
      go_enter Tryz.func128, Tryz.ntmps128
      go_wp2
      go_ret
      exact ⟨by rw [hres.out]; rfl, Q.refl _⟩
  · have hem : s.toList.isEmpty = true := by
      rw [ByteArray.toList_eq]
      rw [List.eq_nil_of_length_eq_zero (show s.data.toList.length = 0 by rw [ba_length]; omega)]; rfl
    have hres := Lib.hid (nameB_empty s hz)
    go_enter Tryz.func128, Tryz.ntmps128
    go_wp2
    go_ret
    exact ⟨by rw [hres.out]; rfl, Q.refl _⟩
end Go.Proofs.YtjfcllanochhmaaGreatDoor.Item
