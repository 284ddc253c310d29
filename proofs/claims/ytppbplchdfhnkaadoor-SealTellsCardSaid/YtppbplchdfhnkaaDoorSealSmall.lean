/-
  The contracts of agoralaw06's few and small.
-/
import Derived.Test.YtppbplchdfhnkaaDoorSealUnwrap2
set_option linter.unusedVariables false
set_option linter.unusedSimpArgs false
namespace Go.Proofs.YtppbplchdfhnkaaDoor.Seal
open Go.RowKit Grp Mem _root_.Go.Proofs.YtppbplchdfhnkaaDoor.Code Sha
open Sign (q_new Strs.of)

def sumTo (l : List ByteArray) (k : Nat) : Nat := ((l.take k).map ByteArray.size).sum
theorem sumTo_succ (l : List ByteArray) (k : Nat) (h : k < l.length) : sumTo l (k + 1) = sumTo l k + l[k].size := by
  unfold sumTo
  rw [List.take_add_one, List.getElem?_eq_getElem h, List.map_append, List.sum_append]
  show _ + ([l[k]].map ByteArray.size).sum = _
  simp only [List.map_cons, List.map_nil, List.sum_cons, List.sum_nil, Nat.add_zero]
theorem sumTo_le (l : List ByteArray) (B : Nat) (hB : ∀ s ∈ l, s.size ≤ B) (k : Nat) (h : k ≤ l.length) : sumTo l k ≤ k * B := by
  induction k with
  | zero => simp [sumTo]
  | succ k ih =>
    rw [sumTo_succ l k (by omega), Nat.succ_mul]
    have h1 := ih (by omega)
    have h2 := hB l[k] (List.getElem_mem _)
    omega
theorem sumTo_all (l : List ByteArray) : sumTo l l.length = (l.map ByteArray.size).sum := by unfold sumTo; rw [List.take_length]

set_option maxHeartbeats 1000000 in
theorem few_any (A : Option Addr) (c n : Nat) (l : List ByteArray) (w : World) (r : Bool) (hS : Strs w A l) (hn : l.length = n) (hn1 : n ≤ 20) (hB : ∀ s ∈ l, s.size ≤ 281474976710656) (hr : decide ((l.map ByteArray.size).sum ≤ 2000) = r) :
    Calls Tryd.prog 21 #[.slice A n c] w fun e w' => e = .returned (.bool r) ∧ Q w w' := by
  subst hn
  have hall := sumTo_all l
  have hle := sumTo_le l _ hB
  have HR := Lib.hid hr
  clear hr
  go_enter Tryd.func21, Tryd.ntmps21
  go_wp2_with fail
  go_loopw [3, 4] (fun s i wr => ∃ k : Nat, s = .int .i64 (sumTo l k) ∧ i = .int .i64 k ∧ k ≤ l.length ∧ Q w wr) (fun _ i _ => l.length - (intOf i).toNat)
  case atStart => exact ⟨0, rfl, rfl, Nat.zero_le _, Q.refl _⟩
  case round =>
    obtain ⟨k, rfl, rfl, hk, hq⟩ := hrel
    by_cases hlt : k < l.length
    · obtain ⟨b, o, rfl, hb, hcell⟩ := (hS.q hq) (by omega)
      have hce := hcell k hlt
      clear hcell
      have h1 := hle k hk
      have h2 := hB l[k] (List.getElem_mem _)
      have hst := sumTo_succ l k hlt
      generalize l[k] = s at *
      have hw : IntKind.i64.wrap ((sumTo l k : Int) + (s.size : Int)) = (sumTo l (k + 1) : Int) := by
        rw [hst]
        exact (IntWalk.i64_in _ ⟨by omega, by omega⟩).trans (by omega)
      clear h1 h2 hst hle hall
      go_wp2
      exact ⟨⟨k + 1, rfl, by go_num, by omega, hq⟩, by simp only [intOf]; omega⟩
    · have hks : k = l.length := by omega
      have hfin : (sumTo l k : Int) = (((l.map ByteArray.size).sum : Nat) : Int) := by rw [hks, hall]
      have hrr : decide ((((l.map ByteArray.size).sum : Nat) : Int) ≤ 2000) = r := by rw [← HR.out]; simp only [decide_eq_decide]; omega
      generalize (l.map ByteArray.size).sum = Z at *
      clear hks hle hall
      rw [hfin]
      go_wp2
      go_ret
      exact ⟨rfl, hq⟩
theorem few_new (l : List ByteArray) (n : Nat) (cs : Array Value) (t : TypeId) (w : World) (r : Bool) (hn : l.length = n) (hcs : (l.map Value.string).toArray = cs) (h1 : n ≤ 20) (hB : ∀ s ∈ l, s.size ≤ 281474976710656) (hr : decide ((l.map ByteArray.size).sum ≤ 2000) = r) :
    Calls Tryd.prog 21 #[.slice (some ⟨w.heap.size, 0, none⟩) n n] (w.alloc (.cells cs t)) fun e w' => e = .returned (.bool r) ∧ Q w w' := by
  subst hcs
  refine (few_any _ n n l _ r (Strs.of (Blk.new w t _)) hn h1 hB hr).mono fun e w' ⟨h1, h2⟩ => ⟨h1, Q.trans (q_new w _ t) h2⟩

/-! ### Flat contracts -/
theorem Seal_at (key nonce plain x y z : ByteArray) (w : World) (hr : sealB key nonce plain = (x, y, z)) (hT : Tab w) (hz : key.size + nonce.size + plain.size ≤ 140737488355000) :
    Calls Tryd.prog 28 #[.string key, .string nonce, .string plain] w fun e w' => e = .returned (.agg #[.string x, .string y, .string z]) ∧ Q w w' := by
  have := Seal_any key nonce plain w hT hz
  rw [hr] at this
  exact this
theorem Open_at (key x y z p : ByteArray) (o : Bool) (w : World) (hr : openB key (x, y, z) = (p, o)) (hT : Tab w) (hz : key.size + x.size + y.size ≤ 140737488355000) :
    Calls Tryd.prog 22 #[.string key, .agg #[.string x, .string y, .string z]] w fun e w' => e = .returned (.tuple #[.string p, .bool o]) ∧ Q w w' := by
  have := Open_any key x y z w hT hz
  rw [hr] at this
  exact this
theorem Wrap_at (pub a b : Int) (seed plain n d t : ByteArray) (o : Bool) (w : World) (hr : wrapI pub seed plain = ((a, b, n, d, t), o)) (hT : Tab w) (hpub : pub ≤ 9223372036854775807) (hs : seed.size ≤ 140737488354000) (hp : plain.size ≤ 140737488354000) :
    Calls Tryd.prog 24 #[.int .i64 pub, .string seed, .string plain] w fun e w' => e = .returned (.tuple #[.agg #[.int .i64 a, .int .i64 b, .string n, .string d, .string t], .bool o]) ∧ Q w w' := by
  unfold wrapI at hr
  by_cases h : isPubI pub = true
  · rw [if_pos h] at hr
    have h1 : wrapB pub seed plain = (a, b, n, d, t) := (Prod.mk.inj hr).1
    have h2 : true = o := (Prod.mk.inj hr).2
    subst h2
    have := Wrap_yes pub seed plain w hT h hs hp hpub
    rw [h1] at this
    exact this
  · rw [if_neg h] at hr
    cases hr
    exact Wrap_no pub seed plain w (by simpa using h)
theorem RWrap_at (pub a b : Int) (seed plain n d t : ByteArray) (o : Bool) (w : World) (hr : wrapI pub seed plain = ((a, b, n, d, t), o)) (hs : seed.size ≤ 140737488353000) (hp : plain.size ≤ 140737488353000) :
    Calls Tryd.prog 25 #[.int .i64 pub, .string seed, .string plain] w fun e w' => e = .returned (.tuple #[.agg #[.int .i64 a, .int .i64 b, .string n, .string d, .string t], .bool o]) ∧ Q w w' := by
  unfold wrapI at hr
  by_cases h : isPubI pub = true
  · rw [if_pos h] at hr
    have h1 : wrapB pub seed plain = (a, b, n, d, t) := (Prod.mk.inj hr).1
    have h2 : true = o := (Prod.mk.inj hr).2
    subst h2
    simp [isPubI] at h
    have := RWrap_yes pub seed plain w (by omega) (by omega) hs hp
    rw [h1] at this
    exact this
  · rw [if_neg h] at hr
    cases hr
    simp [isPubI] at h
    exact RWrap_no pub seed plain w (by omega)

theorem small_ok : isPubI 50653 = true ∧ gexp 37 3 = 50653 := by decide +kernel
theorem wrap_no (pub : Int) (seed plain : ByteArray) (h : isPubI pub = false) : wrapI pub seed plain = ((0, 0, ⟨#[]⟩, ⟨#[]⟩, ⟨#[]⟩), false) := by unfold wrapI; rw [h]; rfl
theorem wrap_ok (pub : Int) (seed plain : ByteArray) (h : isPubI pub = true) : wrapI pub seed plain = (wrapB pub seed plain, true) := if_pos h
theorem openB_no (key n d t : ByteArray) (h : t ≠ tagB key n d) : openB key (n, d, t) = (lit [], false) := open_no key (n, d, t) h
theorem len_append (a b : ByteArray) : (a ++ b).size = a.size + b.size := ByteArray.size_append

set_option maxRecDepth 100000 in
set_option maxHeartbeats 4000000 in
theorem small_core (w : World) (hT : Tab w) (n D T p2 : ByteArray) (G : Int) (b1 b2 b3 : ByteArray) (hS : sealB ⟨#[107]⟩ ⟨#[110]⟩ ⟨#[104, 101, 108, 108, 111]⟩ = (⟨#[110]⟩, D, T)) (hO : openB ⟨#[107]⟩ (⟨#[110]⟩, D, T) = (⟨#[104, 101, 108, 108, 111]⟩, true))
    (hO2 : openB ⟨#[107]⟩ (⟨#[110]⟩, D, T ++ ⟨#[120]⟩) = (p2, false)) (hD : (D.size : Int) = 5) (hT16 : (T.size : Int) = 16)
    (hW1 : wrapI 0 ⟨#[115]⟩ ⟨#[120]⟩ = ((0, 0, ⟨#[]⟩, ⟨#[]⟩, ⟨#[]⟩), false)) (hW2 : wrapI 2305843009213693951 ⟨#[115]⟩ ⟨#[120]⟩ = ((0, 0, ⟨#[]⟩, ⟨#[]⟩, ⟨#[]⟩), false))
    (hW3 : wrapI 50653 ⟨#[115]⟩ ⟨#[120]⟩ = ((50653, G, b1, b2, b3), true)) (hU : unwrapI 3 (50653, G, b1, b2, b3) = (⟨#[120]⟩, true)) (hG : G ≤ 9223372036854775807) (hb : b1.size + b2.size ≤ 1000) :
    Calls Tryd.prog 20 #[] w fun e w' => e = .returned (.bool true) ∧ Q w w' := by
  have hs1 : (⟨#[107]⟩ : ByteArray).size = 1 := rfl
  have hs2 : (⟨#[110]⟩ : ByteArray).size = 1 := rfl
  have hap : (T.size : Int) + 1 ≤ 9223372036854775807 := by omega
  go_enter Tryd.func20, Tryd.ntmps20
  go_wp2_with fail
  refine (Seal_at _ _ _ _ _ _ _ hS hT (by decide)).mono ?_
  rintro e w1 ⟨rfl, hq1⟩
  have hX : BoxH w (w1.alloc (.cells #[.string ⟨#[110]⟩, .string D, .string T] 23)) w1.heap.size ⟨#[110]⟩ D T := ⟨Q.trans hq1 (q_new _ _ _), (hT.q hq1).q (q_new _ _ _), Blk.new _ _ _⟩
  obtain ⟨c0, c1, c2, -⟩ := hX.held
  clear hq1
  go_wp2_with fail
  refine (Open_at _ _ _ _ _ _ _ hO hX.2.1 (by omega)).mono ?_
  rintro e w2 ⟨rfl, hq⟩
  have hX := hX.q hq
  clear c0 c1 c2 hq
  obtain ⟨c0, c1, c2, -⟩ := hX.held
  go_wp2_with fail
  refine (Open_at _ _ _ _ _ _ _ hO2 hX.2.1 (by omega)).mono ?_
  rintro e w3 ⟨rfl, hq⟩
  have hX := hX.q hq
  clear c0 c1 c2 hq
  go_wp2_with fail
  refine (Wrap_at _ _ _ _ _ _ _ _ _ _ hW1 hX.2.1 (by decide) (by decide) (by decide)).mono ?_
  rintro e w4 ⟨rfl, hq⟩
  have hX := (hX.q hq).q (q_new w4 #[.int .i64 0, .int .i64 0, .string ⟨#[]⟩, .string ⟨#[]⟩, .string ⟨#[]⟩] 25)
  clear hq
  go_wp2_with fail
  refine (Wrap_at _ _ _ _ _ _ _ _ _ _ hW2 hX.2.1 (by decide) (by decide) (by decide)).mono ?_
  rintro e w5 ⟨rfl, hq⟩
  have hX := (hX.q hq).q (q_new w5 #[.int .i64 0, .int .i64 0, .string ⟨#[]⟩, .string ⟨#[]⟩, .string ⟨#[]⟩] 25)
  clear hq
  go_wp2_with fail
  refine (Wrap_at _ _ _ _ _ _ _ _ _ _ hW3 hX.2.1 (by decide) (by decide) (by decide)).mono ?_
  rintro e w6 ⟨rfl, hq⟩
  have hX := (hX.q hq).q (q_new w6 #[.int .i64 50653, .int .i64 G, .string b1, .string b2, .string b3] 25)
  clear hq
  have hY := UwH.held ⟨Q.refl _, hX.2.1, Blk.new w6 25 #[.int .i64 50653, .int .i64 G, .string b1, .string b2, .string b3]⟩
  obtain ⟨d0, d1, d2, d3, d4, hY⟩ := hY
  go_wp2_with fail
  refine (Unwrap_any _ _ _ _ _ _ _ _ _ hX.2.1 (by decide) hG (by omega) hU).mono ?_
  rintro e w7 ⟨rfl, hq⟩
  have hX := hX.q hq
  have hY := hY.q hq
  clear d0 d1 d2 d3 d4 hq
  obtain ⟨c0, c1, c2, -⟩ := hX.held
  obtain ⟨d0, d1, d2, d3, d4, -⟩ := hY.held
  go_wp2
  go_ret
  exact ⟨rfl, hX.1⟩

theorem small_any (w : World) (hT : Tab w) : Calls Tryd.prog 20 #[] w fun e w' => e = .returned (.bool true) ∧ Q w w' := by
  have hD := maskB_size ⟨#[107]⟩ ⟨#[110]⟩ ⟨#[104, 101, 108, 108, 111]⟩
  have hT16 := tagB_size ⟨#[107]⟩ ⟨#[110]⟩ (maskB ⟨#[107]⟩ ⟨#[110]⟩ ⟨#[104, 101, 108, 108, 111]⟩)
  have hO := open_seal ⟨#[107]⟩ ⟨#[110]⟩ ⟨#[104, 101, 108, 108, 111]⟩
  have hW := unwrap_wrap 3 ⟨#[115]⟩ ⟨#[120]⟩ (by decide)
  rw [small_ok.2] at hW
  have hGb := gexp_bd 37 (ephI ⟨#[115]⟩ 50653)
  have hm := maskB_size (wkB 50653 (gexp 37 (ephI ⟨#[115]⟩ 50653)) (gexp 50653 (ephI ⟨#[115]⟩ 50653))) (sealH [nonceT, wkB 50653 (gexp 37 (ephI ⟨#[115]⟩ 50653)) (gexp 50653 (ephI ⟨#[115]⟩ 50653))]) ⟨#[120]⟩
  refine small_core w hT ⟨#[110]⟩ _ _ _ _ _ _ _ rfl hO ((openB_no _ _ _ _ ?_).trans rfl) (by rw [hD]; rfl) (by rw [hT16]; rfl) (wrap_no _ _ _ (by decide)) (wrap_no _ _ _ (by decide)) (wrap_ok _ _ _ small_ok.1) hW (by omega) ?_
  · intro h
    have := congrArg ByteArray.size h
    rw [len_append, hT16] at this
    exact absurd this (by decide)
  · rw [sealH_size]
    have : (⟨#[120]⟩ : ByteArray).size = 1 := rfl
    omega
end Go.Proofs.YtppbplchdfhnkaaDoor.Seal
