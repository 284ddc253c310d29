/-
  The order of strings; the contract of ident.Ids.
-/
import Derived.Test.YtjfcllanochhmaaGreatDoorIdent
import Derived.Sort.Walk0
set_option linter.unusedVariables false
set_option linter.unusedSimpArgs false
namespace Go.Proofs.YtjfcllanochhmaaGreatDoor.Item
open Go.RowKit Grp Mem _root_.Go.Proofs.YtjfcllanochhmaaGreatDoor.Code Sha Sign

/-! ### The order of strings -/
theorem lessB_eq (a b : ByteArray) : lessB a b = decide (a.data.toList < b.data.toList) := by
  unfold lessB
  rw [ByteArray.toList_eq, ByteArray.toList_eq]
  exact _root_.Go.Proofs.bytesLess_eq _ _
theorem lessB_irrefl (a : ByteArray) : lessB a a = false := by
  rw [lessB_eq, decide_eq_false_iff_not]
  exact List.lt_irrefl _
theorem lessB_trans {a b c : ByteArray} (h : lessB a b = true) (k : lessB b c = true) : lessB a c = true := by
  rw [lessB_eq, decide_eq_true_eq] at *
  exact List.lt_trans h k
theorem lessB_asymm {a b : ByteArray} (h : lessB a b = true) : lessB b a = false := by
  rw [Bool.eq_false_iff]
  intro k
  have := lessB_trans h k
  rw [lessB_irrefl] at this
  cases this
theorem lessB_three (a b : ByteArray) : lessB a b = true ∨ a = b ∨ lessB b a = true := by
  simp only [lessB_eq, decide_eq_true_eq]
  rcases Std.lt_trichotomy a.data.toList b.data.toList with h | h | h
  · exact .inl h
  · exact .inr (.inl (ba_ext h))
  · exact .inr (.inr h)
theorem lessB_empty (a : ByteArray) : lessB ⟨#[]⟩ a = decide (0 < a.size) := by
  rw [lessB_eq, ← ba_length]
  cases h : a.data.toList <;> simp
/-- As the walk spells 'a <= b'. -/
theorem leqB_eq (a b : ByteArray) : (Op.bytesLess a.toList b.toList || a.toList == b.toList) = !lessB b a := by
  show (lessB a b || _) = _
  rcases lessB_three a b with h | rfl | h
  · rw [h, lessB_asymm h]; rfl
  · rw [lessB_irrefl]; simp
  · have hne : (a.toList == b.toList) = false := by
      rw [beq_eq_false_iff_ne]
      intro e
      rw [ByteArray.toList_eq, ByteArray.toList_eq] at e
      rw [ba_ext e, lessB_irrefl] at h
      cases h
    rw [lessB_asymm h, h, hne]; rfl

/-! ### Ids -/
theorem ascB_snoc : ∀ (l : List ByteArray) (b : ByteArray), ascB (l ++ [b]) = (ascB l && match l.getLast? with | some a => lessB a b | none => true) := by
  intro l
  induction l with
  | nil => intro b; rfl
  | cons a l ih =>
    intro b
    cases l with
    | nil => simp [ascB]
    | cons c r =>
      have := ih b
      simp only [List.cons_append, ascB] at *
      rw [this, Bool.and_assoc]
      simp
theorem ascB_prefix : ∀ (l r : List ByteArray), ascB l = false → ascB (l ++ r) = false := by
  intro l
  induction l with
  | nil => intro r h; cases h
  | cons a l ih =>
    intro r h
    cases l with
    | nil => cases h
    | cons c t =>
      simp only [List.cons_append, ascB, Bool.and_eq_false_iff] at *
      rcases h with h | h
      · exact .inl h
      · exact .inr (ih r h)
def idsTo (l : List ByteArray) : Bool := l.all idB && ascB l
theorem idsTo_false (l : List ByteArray) (k : Nat) (h : idsTo (l.take k) = false) : idsB l = false := by
  have hl : l.take k ++ l.drop k = l := List.take_append_drop _ _
  unfold idsTo at h
  rw [Bool.and_eq_false_iff] at h
  unfold idsB
  rw [← hl]
  rcases h with h | h
  · rw [List.all_append, h]; simp
  · rw [ascB_prefix _ _ h]; simp
theorem idsTo_step (l : List ByteArray) (k : Nat) (h : k < l.length) : idsTo (l.take (k + 1)) = (idsTo (l.take k) && (idB l[k] && (decide (k = 0) || lessB (l.getD (k - 1) ⟨#[]⟩) l[k]))) := by
  have ht : l.take (k + 1) = l.take k ++ [l[k]] := List.take_succ_eq_append_getElem h
  unfold idsTo
  rw [ht, List.all_append, ascB_snoc]
  have hlast : (match (l.take k).getLast? with | some a => lessB a l[k] | none => true) = (decide (k = 0) || lessB (l.getD (k - 1) ⟨#[]⟩) l[k]) := by
    by_cases h0 : k = 0
    · subst h0; simp
    · have : (l.take k).getLast? = some (l.getD (k - 1) ⟨#[]⟩) := by
        rw [List.getLast?_eq_getElem?, List.length_take, Nat.min_eq_left (by omega), List.getElem?_take, if_pos (by omega), List.getD_eq_getElem?_getD, List.getElem?_eq_getElem (by omega)]
        rfl
      rw [this]
      simp [h0]
  rw [hlast]
  simp only [List.all_cons, List.all_nil, Bool.and_true]
  cases (l.take k).all idB <;> cases idB l[k] <;> cases ascB (l.take k) <;> simp
theorem idsB_long (l : List ByteArray) (h : 64 < l.length) : idsB l = false := by
  unfold idsB
  rw [show decide (l.length ≤ 64) = false by simp; omega]
  rfl

set_option maxHeartbeats 2000000 in
theorem ids_any (A : Option Addr) (c : Nat) (l : List ByteArray) (w : World) (hS : Strs w A l) (hc : l.length ≤ 9223372036854775807) : Calls Tryz.prog 131 #[.slice A l.length c] w fun e w' => e = .returned (.bool (idsB l)) ∧ Q w w' := by
  by_cases hl : l.length ≤ 64
  · have hlen : ¬ (64 : Int) < (l.length : Int) := by omega
    go_enter Tryz.func131, Tryz.ntmps131
    go_wp2_with fail
    go_loopw [3, 4, 10] (fun _ _ i wr => ∃ k : Nat, i = .int .i64 k ∧ k ≤ l.length ∧ Hid (idsTo (l.take k) = true) ∧ Q w wr) (fun _ _ i _ => l.length - (intOf i).toNat)
    case atStart => exact ⟨0, rfl, Nat.zero_le _, Lib.hid rfl, Q.refl _⟩
    case round =>
      obtain ⟨k, rfl, hk, hto, hq⟩ := hrel
      obtain ⟨w1, x, rfl, hq1⟩ := Wd.enter hq
      by_cases hlt : k < l.length
      · obtain ⟨b, o, rfl, hb, hcell⟩ := (hS.q hq1) (by omega)
        have hst := idsTo_step l k hlt
        rw [hto.out, Bool.true_and] at hst
        have c1 : ∀ y : Wd w1, y.w.cell? ⟨b, o + k, none⟩ = some (.string l[k]) := fun y => (y.cell hb).trans (hcell k hlt)
        by_cases h0 : k = 0
        · have n0 : ¬ (0 : Int) < (k : Int) := by omega
          have HST : Hid (idsTo (l.take (k + 1)) = idB l[k]) := Lib.hid (by rw [hst]; simp [h0])
          have HF := Lib.hid (idsTo_false l (k + 1))
          clear hst hcell hto h0
          generalize l[k] = z at *
          go_wp2_with (go_at_call 86; refine (idRight_any _ _).mono ?_; rintro e w' ⟨rfl, hq1⟩; obtain ⟨y, rfl⟩ := Wd.next _ hq1; clear hq1)
          all_goals
            first
              | (go_ret
                 exact ⟨by rw [HF.out (by rw [HST.out]; simp [*])]; rfl, Q.trans hq1 (Wd.q _)⟩)
              | exact ⟨⟨k + 1, by go_num, by omega, Lib.hid (by rw [HST.out]; simp [*]), Q.trans hq1 (Wd.q _)⟩, by simp only [intOf]; omega⟩
        · have hk1 : (k : Int) - 1 < (l.length : Int) := by omega
          have hk2 : (0 : Int) ≤ (k : Int) - 1 := by omega
          have n0 : (0 : Int) < (k : Int) := by omega
          have c2 : ∀ y : Wd w1, y.w.cell? ⟨b, o + (k - 1), none⟩ = some (.string (l.getD (k - 1) ⟨#[]⟩)) := fun y => by
            rw [y.cell hb, hcell (k - 1) (by omega), List.getD_eq_getElem?_getD, List.getElem?_eq_getElem (by omega)]
            rfl
          have HST : Hid (idsTo (l.take (k + 1)) = (idB l[k] && lessB (l.getD (k - 1) ⟨#[]⟩) l[k])) := Lib.hid (by rw [hst]; simp [h0])
          have HF := Lib.hid (idsTo_false l (k + 1))
          clear hst hcell hto h0
          generalize l[k] = z at *
          generalize l.getD (k - 1) ⟨#[]⟩ = z1 at *
          have hle := leqB_eq z z1
          go_wp2_with (go_at_call 86; refine (idRight_any _ _).mono ?_; rintro e w' ⟨rfl, hq1⟩; obtain ⟨y, rfl⟩ := Wd.next _ hq1; clear hq1)
          all_goals try simp only [Bool.not_eq_true', Bool.not_eq_false', Bool.not_eq_true] at *
          all_goals
            first
              | (go_ret
                 exact ⟨by rw [HF.out (by rw [HST.out]; simp [*])]; rfl, Q.trans hq1 (Wd.q _)⟩)
              | exact ⟨⟨k + 1, by go_num, by omega, Lib.hid (by rw [HST.out]; simp [*]), Q.trans hq1 (Wd.q _)⟩, by simp only [intOf]; omega⟩
      · have hks : k = l.length := by omega
        have hres : Hid (idsB l = true) := by
          refine Lib.hid ?_
          have := hto.out
          rw [hks, List.take_length] at this
          unfold idsTo at this
          unfold idsB
          rw [Bool.and_eq_true] at this
          rw [this.1, this.2]
          simp [hl]
        clear hks
        go_wp2
        go_ret
        exact ⟨by rw [hres.out]; rfl, hq⟩
  · have hlen : (64 : Int) < (l.length : Int) := by omega
    have hres := Lib.hid (idsB_long l (by omega))
    go_enter Tryz.func131, Tryz.ntmps131
    go_wp2
    go_ret
    exact ⟨by rw [hres.out]; rfl, Q.refl _⟩
end Go.Proofs.YtjfcllanochhmaaGreatDoor.Item
