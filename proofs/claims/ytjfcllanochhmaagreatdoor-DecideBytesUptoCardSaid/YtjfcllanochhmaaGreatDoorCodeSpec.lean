/-
  The encoding of layer 2, in plain Lean. No program in this text.
-/
import Derived.Lib.Strings
set_option linter.unusedVariables false
set_option linter.unusedSimpArgs false
namespace Go.Proofs.YtjfcllanochhmaaGreatDoor.Code

/-- The varint, with fuel. -/
def vint : Nat → Nat → List UInt8
  | 0, n => [UInt8.ofNat n]
  | f + 1, n => if n < 128 then [UInt8.ofNat n] else UInt8.ofNat (128 + n % 128) :: vint f (n / 128)
def varint (n : Nat) : List UInt8 := vint 9 n
def numB (n : Int) : ByteArray := if n < 0 then ⟨#[]⟩ else ⟨(varint n.toNat).toArray⟩
def textL (s : ByteArray) : List UInt8 := varint s.size ++ s.data.toList
def textB (s : ByteArray) : ByteArray := ⟨(textL s).toArray⟩
def listL (l : List ByteArray) : List UInt8 := varint l.length ++ l.flatMap textL
def listB (l : List ByteArray) : ByteArray := ⟨(listL l).toArray⟩

theorem vint_length : ∀ (f n : Nat), (vint f n).length ≤ f + 1 := by
  intro f
  induction f with
  | zero => intro n; exact Nat.le_refl _
  | succ f ih =>
    intro n
    rw [vint]
    split
    · simp
    · have := ih (n / 128)
      rw [List.length_cons]
      omega
theorem varint_length (n : Nat) : (varint n).length ≤ 10 := vint_length 9 n
theorem varint_pos (n : Nat) : 0 < (varint n).length := by
  unfold varint vint
  split <;> simp
theorem ba_size (l : List UInt8) : (⟨l.toArray⟩ : ByteArray).size = l.length := by simp [ByteArray.size]
theorem ba_list (l : List UInt8) : (⟨l.toArray⟩ : ByteArray).data.toList = l := by simp
theorem ba_length (s : ByteArray) : s.data.toList.length = s.size := by rw [Array.length_toList]; rfl
theorem ba_ext {a b : ByteArray} (h : a.data.toList = b.data.toList) : a = b := by
  cases a; cases b
  congr 1
  exact Array.toList_inj.1 h
theorem ba_append (a b : ByteArray) : (a ++ b).data.toList = a.data.toList ++ b.data.toList := by
  rw [ByteArray.data_append, Array.toList_append]
theorem numB_size (n : Int) : (numB n).size ≤ 10 := by
  unfold numB
  split
  · exact Nat.zero_le _
  · rw [ba_size]; exact varint_length _
theorem textB_eq (s : ByteArray) : numB (s.size : Int) ++ s = textB s := by
  apply ba_ext
  rw [ba_append]
  unfold numB textB textL
  rw [if_neg (by omega)]
  simp
theorem textL_length (s : ByteArray) : (textL s).length ≤ s.size + 10 := by
  unfold textL
  have := varint_length s.size
  rw [List.length_append, ba_length]
  omega

end Go.Proofs.YtjfcllanochhmaaGreatDoor.Code
