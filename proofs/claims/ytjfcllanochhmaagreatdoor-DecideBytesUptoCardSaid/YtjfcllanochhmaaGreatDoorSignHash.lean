/-
  The contracts of package sign's hash, reduce, challenge, and the plain words of layer 5.
-/
import Derived.Test.YtjfcllanochhmaaGreatDoorShelfJoin
import Derived.Test.YtjfcllanochhmaaGreatDoorCode
import Derived.Test.YtjfcllanochhmaaGreatDoorSha
import Derived.Test.YtjfcllanochhmaaGreatDoorSumNum
set_option linter.unusedVariables false
set_option linter.unusedSimpArgs false
namespace Go.Proofs.YtjfcllanochhmaaGreatDoor.Sign
open Go.RowKit Grp Mem _root_.Go.Proofs.YtjfcllanochhmaaGreatDoor.Code Sha

theorem join_flat (ls : List (List UInt8)) : Lib.join ls [] = ls.flatten := by
  induction ls with
  | nil => rfl
  | cons x r ih =>
    cases r with
    | nil => simp [Lib.join]
    | cons y r => rw [List.flatten_cons, ← ih]; simp [Lib.join]

/-- The concatenation of strings. -/
def cat (l : List ByteArray) : ByteArray := ⟨(l.map (·.data.toList)).flatten.toArray⟩
theorem cat_size (l : List ByteArray) : (cat l).size = (l.map (·.size)).sum := by
  rw [cat, ba_size, List.length_flatten, List.map_map]
  congr 1
theorem empty_list : (ByteArray.mk #[]).data.toList = [] := rfl

theorem Join_any (A : Option Addr) (l : List ByteArray) (c : Nat) (w : World) (hS : Strs w A l) (hc : l.length ≤ c) (hn : l.length ≤ 140737488355328) (hs : (cat l).size ≤ 140737488355328) :
    Calls Tryz.prog 118 #[.slice A l.length c, .string ⟨#[]⟩] w fun e w' => e = .returned (.string (cat l)) ∧ Q w w' := by
  cases l with
  | nil => exact (Tryz.strings_Join_none A c ⟨#[]⟩ w).mono fun e w' ⟨he, hw⟩ => ⟨he, hw ▸ Q.refl _⟩
  | cons x r =>
    obtain ⟨b, o, rfl, hb, hcell⟩ := hS (by simp)
    refine (Tryz.strings_Join b o c (x :: r) ⟨#[]⟩ w ?_ hb hn hc ?_).mono ?_
    · intro j y hj
      obtain ⟨h1, h2⟩ := List.getElem?_eq_some_iff.mp hj
      rw [hcell j h1, h2]
    · rw [empty_list, join_flat]
      unfold cat at hs
      rw [ba_size] at hs
      exact hs
    · rintro e w' ⟨rfl, hq⟩
      rw [empty_list, join_flat]
      exact ⟨rfl, hq⟩

/-- The integer of a string's digest. -/
def hashI (s : ByteArray) : Int := numOf (sha s)
theorem hashI_bd (s : ByteArray) : 0 ≤ hashI s ∧ hashI s < 2305843009213693952 := numOf_bd _

theorem hash_any (A : Option Addr) (l : List ByteArray) (c : Nat) (w : World) (hT : Tab w) (hS : Strs w A l) (hc : l.length ≤ c) (hn : l.length ≤ 140737488355328) (hs : (cat l).size ≤ 140737488355327) :
    Calls Tryz.prog 83 #[.slice A l.length c] w fun e w' => e = .returned (.int .i64 (hashI (cat l))) ∧ Q w w' := by
  go_enter Tryz.func83, Tryz.ntmps83
  go_wp2_with fail
  refine (Join_any _ l _ _ (by with_reducible assumption) hc hn (by omega)).mono ?_
  rintro e w1 ⟨rfl, hq1⟩
  have hT1 := hT.q hq1
  go_wp2_with fail
  refine (Sha_any _ _ hT1 hs).mono ?_
  rintro e w2 ⟨rfl, hq2⟩
  have hz := sha_size (cat l)
  go_wp2_with fail
  refine (sumNum_any _ _ (by omega)).mono ?_
  rintro e w3 ⟨rfl, rfl⟩
  go_wp2
  go_ret
  exact ⟨rfl, Q.trans hq1 hq2⟩

/-- The secret of a hash. -/
def redI (h : Int) : Int := 1 + h % 2305843009213693949
theorem redI_bd (h : Int) : 1 ≤ redI h ∧ redI h ≤ 2305843009213693949 := by unfold redI; omega

theorem reduce_any (h : Int) (w : World) (h0 : 0 ≤ h) (h1 : h ≤ 9223372036854775807) :
    Calls Tryz.prog 82 #[.int .i64 h] w fun e w' => e = .returned (.int .i64 (redI h)) ∧ Q w w' := by
  go_enter Tryz.func82, Tryz.ntmps82
  go_wp2
  go_ret
  exact ⟨rfl, Q.refl _⟩
end Go.Proofs.YtjfcllanochhmaaGreatDoor.Sign
