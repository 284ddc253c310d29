/-
  What package seal computes, in plain Lean, and its laws. No program in this text.
-/
import Derived.Test.YtppbplchdfhnkaaDoorCodeSpec
import Derived.Test.YtppbplchdfhnkaaDoorSumNum
import Derived.Test.YtppbplchdfhnkaaDoorSha
import Derived.Test.YtppbplchdfhnkaaDoorGrpLaw
set_option linter.unusedVariables false
set_option linter.unusedSimpArgs false
namespace Go.Proofs.YtppbplchdfhnkaaDoor.Seal
open Go.RowKit Grp Mem _root_.Go.Proofs.YtppbplchdfhnkaaDoor.Code Sha

def lit (l : List UInt8) : ByteArray := ⟨l.toArray⟩
/-- The digest of a list of parts. -/
def sealH (l : List ByteArray) : ByteArray := sha (listB l)
theorem sealH_size (l : List ByteArray) : (sealH l).size = 32 := sha_size _
theorem listL_length (l : List ByteArray) : (listL l).length ≤ 10 + (l.map (fun s => s.size + 10)).sum := by
  unfold listL
  rw [List.length_append]
  have h1 := varint_length l.length
  have h2 : ∀ l : List ByteArray, (l.flatMap textL).length ≤ (l.map (fun s => s.size + 10)).sum := by
    intro l
    induction l with
    | nil => simp
    | cons s r ih =>
      have := textL_length s
      rw [List.flatMap_cons, List.length_append, List.map_cons, List.sum_cons]
      omega
  have := h2 l
  omega
def streamT : ByteArray := lit [115, 116, 114, 101, 97, 109]
def tagT : ByteArray := lit [116, 97, 103]
def wrapT : ByteArray := lit [119, 114, 97, 112]
def ephT : ByteArray := lit [101, 112, 104]
def nonceT : ByteArray := lit [110, 111, 110, 99, 101]
/-- Block i of the stream; the stream's byte i. -/
def streamB (key nonce : ByteArray) (i : Nat) : ByteArray := sealH [streamT, key, nonce, numB (i : Int)]
def strAt (key nonce : ByteArray) (i : Nat) : UInt8 := (streamB key nonce (i / 32)).data.toList.getD (i % 32) 0
def maskTo (key nonce s : ByteArray) (k : Nat) : List UInt8 := (List.range k).map fun i => s.data.toList.getD i 0 ^^^ strAt key nonce i
def maskB (key nonce s : ByteArray) : ByteArray := ⟨(maskTo key nonce s s.size).toArray⟩
theorem maskTo_length (key nonce s : ByteArray) (k : Nat) : (maskTo key nonce s k).length = k := by simp [maskTo]
theorem maskTo_succ (key nonce s : ByteArray) (k : Nat) : maskTo key nonce s (k + 1) = maskTo key nonce s k ++ [s.data.toList.getD k 0 ^^^ strAt key nonce k] := by simp [maskTo, List.range_succ]
theorem maskB_size (key nonce s : ByteArray) : (maskB key nonce s).size = s.size := by unfold maskB; rw [ba_size, maskTo_length]
theorem maskB_list (key nonce s : ByteArray) : (maskB key nonce s).data.toList = maskTo key nonce s s.size := ba_list _
theorem maskTo_get (key nonce s : ByteArray) (k i : Nat) (h : i < k) : (maskTo key nonce s k).getD i 0 = s.data.toList.getD i 0 ^^^ strAt key nonce i := by
  simp [maskTo, List.getD_eq_getElem?_getD, h]
theorem maskB_twice (key nonce s : ByteArray) : maskB key nonce (maskB key nonce s) = s := by
  apply ba_ext
  rw [maskB_list, maskB_size]
  apply List.ext_getElem
  · rw [maskTo_length, ba_length]
  · intro i h1 h2
    rw [maskTo_length] at h1
    simp only [maskTo, List.getElem_map, List.getElem_range]
    rw [maskB_list, maskTo_get _ _ _ _ _ h1, UInt8.xor_assoc, UInt8.xor_self, UInt8.xor_zero, List.getD_eq_getElem?_getD, List.getElem?_eq_getElem h2]
    rfl
theorem maskB_get (key nonce s : ByteArray) (i : Nat) (h : i < s.size) : (maskB key nonce s).data.toList.getD i 0 = s.data.toList.getD i 0 ^^^ strAt key nonce i := by
  rw [maskB_list, maskTo_get _ _ _ _ _ h]
def tagB (key nonce data : ByteArray) : ByteArray := (sealH [tagT, key, nonce, data]).extract 0 16
theorem tagB_size (key nonce data : ByteArray) : (tagB key nonce data).size = 16 := by
  unfold tagB
  rw [ByteArray.size_extract, sealH_size]
  rfl
abbrev BoxV := ByteArray × ByteArray × ByteArray
def sealB (key nonce plain : ByteArray) : BoxV := (nonce, maskB key nonce plain, tagB key nonce (maskB key nonce plain))
def openB (key : ByteArray) (b : BoxV) : ByteArray × Bool := if b.2.2 = tagB key b.1 b.2.1 then (maskB key b.1 b.2.1, true) else (lit [], false)
theorem open_seal (key nonce plain : ByteArray) : openB key (sealB key nonce plain) = (plain, true) := by
  unfold openB sealB
  rw [if_pos rfl, maskB_twice]
theorem open_tag (key n d t : ByteArray) : (openB key (n, d, t)).2 = decide (t = tagB key n d) := by
  unfold openB
  by_cases h : t = tagB key n d <;> simp [h]
theorem open_no (key : ByteArray) (b : BoxV) (h : b.2.2 ≠ tagB key b.1 b.2.1) : openB key b = (lit [], false) := if_neg h
theorem open_yes (key : ByteArray) (b : BoxV) (h : b.2.2 = tagB key b.1 b.2.1) : openB key b = (maskB key b.1 b.2.1, true) := if_pos h
theorem seal_open (key : ByteArray) (b : BoxV) (h : b.2.2 = tagB key b.1 b.2.1) : sealB key b.1 (maskB key b.1 b.2.1) = b := by
  unfold sealB
  rw [maskB_twice, ← h]
/-! ### Wraps -/
def isPubI (n : Int) : Bool := decide (1 ≤ n) && decide (n ≤ 2305843009213693950)
def isSecI (n : Int) : Bool := decide (1 ≤ n) && decide (n ≤ 2305843009213693949)
def wkB (to eph shared : Int) : ByteArray := sealH [wrapT, numB to, numB eph, numB shared]
def ephI (seed : ByteArray) (pub : Int) : Int := 1 + numOf (sealH [ephT, seed, numB pub]) % 2305843009213693949
theorem ephI_bd (seed : ByteArray) (pub : Int) : 1 ≤ ephI seed pub ∧ ephI seed pub ≤ 2305843009213693949 := by unfold ephI; omega
abbrev WrapV := Int × Int × BoxV
def wrapB (pub : Int) (seed plain : ByteArray) : WrapV :=
  (pub, gexp 37 (ephI seed pub), sealB (wkB pub (gexp 37 (ephI seed pub)) (gexp pub (ephI seed pub))) (sealH [nonceT, wkB pub (gexp 37 (ephI seed pub)) (gexp pub (ephI seed pub))]) plain)
def wrapI (pub : Int) (seed plain : ByteArray) : WrapV × Bool := if isPubI pub = true then (wrapB pub seed plain, true) else ((0, 0, lit [], lit [], lit []), false)
def unwrapOk (sec : Int) (w : WrapV) : Bool := isSecI sec && decide (w.1 = gexp 37 sec) && isPubI w.2.1
def unwrapI (sec : Int) (w : WrapV) : ByteArray × Bool := if unwrapOk sec w = true then openB (wkB w.1 w.2.1 (gexp w.2.1 sec)) w.2.2 else (lit [], false)
theorem gexp_pub (e : Int) (h0 : -9223372036854775808 ≤ e) (h : e ≤ 9223372036854775807) : isPubI (gexp 37 e) = true := by
  have h1 := gexp_bd 37 e
  have h2 := gexp_ne 37 e h (by decide)
  unfold isPubI
  simp
  omega
theorem shared_eq (sec e : Int) (hs : sec ≤ 9223372036854775807) (he : e ≤ 9223372036854775807) : gexp (gexp 37 sec) e = gexp (gexp 37 e) sec := by
  rw [gexp_gexp 37 sec e hs he (by decide), gexp_gexp 37 e sec he hs (by decide), Int.mul_comm]
theorem unwrap_wrap (sec : Int) (seed plain : ByteArray) (h : isSecI sec = true) : unwrapI sec (wrapB (gexp 37 sec) seed plain) = (plain, true) := by
  have hs : 1 ≤ sec ∧ sec ≤ 2305843009213693949 := by simpa [isSecI] using h
  have he := ephI_bd seed (gexp 37 sec)
  unfold unwrapI
  rw [if_pos]
  · unfold wrapB
    dsimp only
    rw [← shared_eq sec _ (by omega) (by omega), open_seal]
  · unfold unwrapOk wrapB
    simp only [Bool.and_eq_true, decide_eq_true_eq]
    exact ⟨⟨h, trivial⟩, gexp_pub _ (by omega) (by omega)⟩
end Go.Proofs.YtppbplchdfhnkaaDoor.Seal
