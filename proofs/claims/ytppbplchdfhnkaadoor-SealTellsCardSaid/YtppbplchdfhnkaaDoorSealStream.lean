/-
  The contract of package seal's stream.
-/
import Derived.Test.YtppbplchdfhnkaaDoorSealHash
import Derived.Test.YtppbplchdfhnkaaDoorRangeEnds
import Derived.Shelf.Abstract
import Derived.Shelf.RegionOpen
import Derived.WalkKit
import Derived.OwnWalkIn
import Derived.TacticsInMore
import Derived.LoopNIn
import Derived.LoopIn
set_option linter.unusedVariables false
set_option linter.unusedSimpArgs false
namespace Go.Proofs.YtppbplchdfhnkaaDoor.Seal
open Go.RowKit Grp Mem _root_.Go.Proofs.YtppbplchdfhnkaaDoor.Code Sha Rng
open Sign (q_new Strs.of)

attribute [local go_sem] Oper.semAt_some

/-- The first k bytes of the stream. -/
def strL (key nonce : ByteArray) (k : Nat) : List UInt8 := (List.range k).map (strAt key nonce)
theorem strL_succ (key nonce : ByteArray) (k : Nat) : strL key nonce (k + 1) = strL key nonce k ++ [strAt key nonce k] := by simp [strL, List.range_succ]
theorem strL_length (key nonce : ByteArray) (k : Nat) : (strL key nonce k).length = k := by simp [strL]
theorem strAt_block (key nonce : ByteArray) (i j : Nat) (hj : j < 32) (h : j < (streamB key nonce i).size) : strAt key nonce (32 * i + j) = (streamB key nonce i)[j] := by
  unfold strAt
  rw [show (32 * i + j) / 32 = i by omega, show (32 * i + j) % 32 = j by omega, List.getD_eq_getElem?_getD, List.getElem?_eq_getElem (by rw [ba_length]; exact h)]
  rfl
theorem grown_of_q {W W' : World} (h : Q W W') : W.grownBy W' none := ⟨h.os, h.tape, h.output, h.size, fun i hi _ => h.block i hi⟩
theorem boxed_q {W W' : World} {B : Nat} {t : TypeId} {v : Value} (h : Boxed W B t v) (hq : Q W W') : Boxed W' B t v := (hq.block B h.lt).trans h

set_option maxRecDepth 100000 in
set_option maxHeartbeats 2000000 in
theorem stream_in (n : Nat) (hn : 2 ≤ n) (l bk bn : Nat) (key nonce : ByteArray) (wt : World) (hT : Tab wt) (M : Nat) (hM9 : M ≤ 140737488355328) (hz : key.size + nonce.size ≤ 140737488355000) (J Jx : List UInt8 → World → Prop) (W : World) (hq : Q wt W) (hk : Boxed W bk 9 (.string key)) (hnn : Boxed W bn 9 (.string nonce))
    (hJ : AbidesFrom W.heap.size J) (hM : ∀ pre W1, J pre W1 → pre.length < M)
    (hY : ∀ pre x W1, J pre W1 → YieldAt Fence.wide (n - 1) Tryd.prog l #[.int .u8 (x.toNat : Int)] W1 fun e W' =>
      (e = .returned (.bool true) ∧ J (pre ++ [x]) W' ∧ KeepTwo wt.heap.size bk bn W1 W') ∨ (e = .returned (.bool false) ∧ Jx (pre ++ [x]) W'))
    (h0 : J [] W) :
    CallsIn Fence.wide n Tryd.prog 118 #[.func (.yield l) #[] #[], .pointer (some ⟨bk, 0, none⟩), .pointer (some ⟨bn, 0, none⟩)] W fun e W' => (∃ v, e = .returned v) ∧ ∃ pre, pre = strL key nonce pre.length ∧ Jx pre W' := by
  have hmx : Tryd.prog.follows .mixedOrders = true := by kernel_rfl
  have hwf : ∀ f, Fence.wide.fn f := fun _ => trivial
  have hn1 : 1 ≤ n := by omega
  have hn2 : 1 ≤ n - 1 := by omega
  refine callsIn_of_wp Tryd.func118 rfl trivial ?_ rfl
  simp only [Tryd.ntmps118, List.size_toArray, List.length_cons, List.length_nil, Nat.reduceAdd, Nat.reduceSub, Array.replicate_succ, Array.replicate_zero, List.push_toArray, List.append_toArray, List.nil_append, List.cons_append]
  gi_wp2
  gi_loopw [4] (fun i wr => ∃ k : Nat, i = .int .i64 k ∧ Q wt wr ∧ Boxed wr bk 9 (.string key) ∧ Boxed wr bn 9 (.string nonce) ∧ J (strL key nonce (32 * k)) wr) (fun i _ => M - 32 * (intOf i).toNat)
  case atStart => exact ⟨0, rfl, hq, hk, hnn, h0⟩
  case round =>
    obtain ⟨k, rfl, hq, hk, hnn, hj⟩ := hrel
    have hlt := hM _ _ hj
    rw [strL_length] at hlt
    have h4 := list4 streamT key nonce (numB (k : Int))
    have h5 : streamT.size = 6 := rfl
    have h6 := numB_size (k : Int)
    have HZ := Lib.hid (show (listL [streamT, key, nonce, numB (k : Int)]).length ≤ 140737488355327 by omega)
    have hkd := boxed_q hk (Q.refl wr).drew
    have hnd := boxed_q hnn (Q.refl wr).drew
    have hck := hkd.cell
    have hcn := hnd.cell
    clear h4 h5 h6
    obtain ⟨wo, rfl⟩ : ∃ wo : World, wo = wr := ⟨_, rfl⟩
    gi_wp2
    gi_region_with_o (first
      | (gi_at_call 34; refine (callsIn_wide.2 (Num_any _ _ (by omega))).mono ?_; rintro e w1 ⟨rfl, hq1⟩; have hk1 := boxed_q hkd hq1; have hn1 := boxed_q hnd hq1; have hck1 := hk1.cell; have hcn1 := hn1.cell)
      | (gi_at_call 71; refine (callsIn_wide.2 (Shash_new [streamT, key, nonce, numB (k : Int)] 4 _ _ _ (hT.q (Q.trans hq (Q.trans (Q.refl wo).drew hq1))) rfl rfl (by decide) HZ.out)).mono ?_; rintro e w2 ⟨rfl, hq2⟩))
    all_goals
      have hqq : Q wo w2 := Q.trans (Q.refl wo).drew (Q.trans hq1 hq2)
      have hqz := Q.trans hq hqq
      have hkz := boxed_q hk hqq
      have hnz := boxed_q hnn hqq
      have hjz := hJ _ _ _ none hj (grown_of_q hqq) (fun r e => by cases e)
      have hbz : (sealH [streamT, key, nonce, numB (k : Int)]).size = 32 := sealH_size _
      have hat : ∀ j (hj : j < 32) (h : j < (sealH [streamT, key, nonce, numB (k : Int)]).size), strAt key nonce (32 * k + j) = (sealH [streamT, key, nonce, numB (k : Int)])[j] := fun j hj h => strAt_block key nonce k j hj h
      generalize sealH [streamT, key, nonce, numB (k : Int)] = blk at *
      have HB := Lib.hid hbz
      have HAT := Lib.hid hat
      have hbl : blk.size ≤ 32 := by omega
      have hbl2 : 32 ≤ blk.size := by omega
      clear hbz hat hck hcn hkd hnd hq hk hnn hj hq1 hq2 hck1 hcn1 hk1 hqq
      gi_wp2
      gi_loopw [17] (fun j wr => ∃ q : Nat, j = .int .i64 q ∧ q ≤ blk.size ∧ Q wt wr ∧ Boxed wr bk 9 (.string key) ∧ Boxed wr bn 9 (.string nonce) ∧ J (strL key nonce (32 * k + q)) wr) (fun j _ => 32 - (intOf j).toNat)
      case atStart => exact ⟨0, rfl, Nat.zero_le _, hqz, hkz, hnz, hjz⟩
      case round =>
        obtain ⟨q, rfl, hql, hq, hk, hnn, hj⟩ := hrel
        by_cases hlt2 : q < blk.size
        · obtain ⟨fn, tmps, assign, body, hy, hR⟩ := hY _ blk[q] _ hj
          have hs : strL key nonce (32 * k + q) ++ [blk[q]] = strL key nonce (32 * k + (q + 1)) := by rw [← HAT.out q (by omega) hlt2, ← strL_succ]; rfl
          have HS := Lib.hid hs
          clear hs
          have q0 : (0 : Int) ≤ (q : Int) := by omega
          have q1 : (q : Int) < (blk.size : Int) := by omega
          gi_wp2
          refine hR.mono ?_
          rintro e W3 (⟨rfl, hJ3, hk3⟩ | ⟨rfl, hJx3⟩)
          · rw [HS.out] at hJ3
            have hq3 : Q wt W3 := Below.trans hq hk3.1
            have hkk : Boxed W3 bk 9 (.string key) := hk3.2.1 _ _ _ hk
            have hnk : Boxed W3 bn 9 (.string nonce) := hk3.2.2 _ _ _ hnn
            gi_wp2
            exact ⟨⟨q + 1, by go_num, by omega, hq3, hkk, hnk, hJ3⟩, by simp only [intOf]; omega⟩
          · rw [HS.out] at hJx3
            gi_wp2
            refine bodyPost_ret (results_none rfl _ _ _) rfl ?_
            exact ⟨⟨_, rfl⟩, strL key nonce (32 * k + (q + 1)), by rw [strL_length], hJx3⟩
        · have hq32 : 32 * k + q = 32 * (k + 1) := by omega
          rw [hq32] at hj
          clear hq32
          gi_wp2
          exact ⟨⟨k + 1, by go_num, hq, hk, hnn, hj⟩, by simp only [intOf]; omega⟩
theorem stream_ends (n : Nat) (hn : 2 ≤ n) (bk bn : Nat) (key nonce : ByteArray) (wt : World) (hT : Tab wt) (M : Nat) (hM9 : M ≤ 140737488355328) (hz : key.size + nonce.size ≤ 140737488355000) (w : World) (hq : Q wt w) (hk : Boxed w bk 9 (.string key)) (hnn : Boxed w bn 9 (.string nonce)) :
    SeqEnds Fence.wide n Tryd.prog 118 #[.pointer (some ⟨bk, 0, none⟩), .pointer (some ⟨bn, 0, none⟩)] (fun x : UInt8 => #[.int .u8 (x.toNat : Int)]) (KeepTwo wt.heap.size bk bn) (fun pre => pre = strL key nonce pre.length) M w :=
  fun l J Jx W hW hJ hJx hM hY h0 => stream_in n hn l bk bn key nonce wt hT M hM9 hz J Jx W (Q.trans hq hW) (boxed_q hk hW) (boxed_q hnn hW) hJ hM hY h0

theorem stream_any (key nonce : ByteArray) (w : World) :
    Calls Tryd.prog 106 #[.string key, .string nonce] w fun e w' => e = .returned (.func (.func 118) #[] #[.pointer (some ⟨w.heap.size, 0, none⟩), .pointer (some ⟨w.heap.size + 1, 0, none⟩)]) ∧ w' = (w.alloc (.cells #[.string key] 9)).alloc (.cells #[.string nonce] 9) := by
  go_enter Tryd.func106, Tryd.ntmps106
  go_wp2
  go_ret
  exact ⟨rfl, rfl⟩
end Go.Proofs.YtppbplchdfhnkaaDoor.Seal
