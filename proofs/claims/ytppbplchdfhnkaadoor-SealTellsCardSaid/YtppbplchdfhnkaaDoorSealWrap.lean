/-
  The contracts of package seal's Wrap and of package agoraref06's Wrap.
-/
import Derived.Test.YtppbplchdfhnkaaDoorSealOpen
import Derived.Test.YtppbplchdfhnkaaDoorGrpWalk
import Derived.Test.YtppbplchdfhnkaaDoorGrpRef
import Derived.Laws.ResultCell
set_option linter.unusedVariables false
set_option linter.unusedSimpArgs false
namespace Go.Proofs.YtppbplchdfhnkaaDoor.Seal
open Go.RowKit Grp Mem _root_.Go.Proofs.YtppbplchdfhnkaaDoor.Code Sha
open Sign (q_new Strs.of)

theorem results_cell_row_tmp {P : Program} {fn : Func} {p u : Tmp} {ty : TypeId} (h : fn.results = #[.cell p ty, .tmp u]) (tmps : Array Value) (w : World) (g : Nat) (t : TypeId) (cs : Array Value) (fr : Nat × Nat) (d : TypeDesc) (v : Value)
    (hp : tmps.getD p undef = .pointer (some ⟨g, 0, none⟩)) (hv : tmps.getD u undef = v) (hg : w.heap[g]? = some (.cells cs t fr))
    (hu : P.underlying ty = some d) (hd : (match d with | .struct _ | .array _ _ => true | _ => false) = true) (hi : (P.info? ty).map (·.size) = some cs.size) :
    (results fn tmps).run P w = .ok (.tuple #[.agg cs, v]) w := by
  rw [results_cell_tmp h, hp, hv]
  simp [asAddr, Result.andThen, run_loadVar_row w g t ty cs fr d hg hu hd hi]

def wrapCs (v : WrapV) : Array Value := #[.int .i64 v.1, .int .i64 v.2.1, .string v.2.2.1, .string v.2.2.2.1, .string v.2.2.2.2]
def wrapV (v : WrapV) : Value := .agg (wrapCs v)
theorem wrap_all (v : WrapV) : (wrapCs v).all (·.oneCell') = true := by simp [wrapCs, Value.oneCell']
def wrap0 : WrapV := (0, 0, ⟨#[]⟩, ⟨#[]⟩, ⟨#[]⟩)

set_option maxHeartbeats 1000000 in
theorem Wrap_no (pub : Int) (seed plain : ByteArray) (w : World) (h : isPubI pub = false) :
    Calls Tryd.prog 24 #[.int .i64 pub, .string seed, .string plain] w fun e w' => e = .returned (.tuple #[wrapV wrap0, .bool false]) ∧ Q w w' := by
  have hb0 := Blk.new w 25 (wrapCs wrap0)
  have hq0 := q_new w (wrapCs wrap0) 25
  go_enter Tryd.func24, Tryd.ntmps24
  go_wp2_with fail
  refine (isPublic_any _ _).mono ?_
  rintro e w1 ⟨rfl, rfl⟩
  rw [h]
  go_wp2_with (refine wpList_store_row rfl 25 _ _ rfl w.heap.size (wrapCs wrap0) rfl rfl 25 (wrapCs wrap0) hb0 (by kernel_rfl) (by kernel_rfl) (wrap_all _) ?_)
  all_goals exact bodyPost_ret (results_cell_row_tmp rfl _ _ w.heap.size 25 (wrapCs wrap0) (0, 0) _ _ rfl rfl (Blk.setRow hb0 _) Tryd.underlying25 rfl (by kernel_rfl)) rfl ⟨rfl, below_setRow hq0 (Nat.le_refl _) _⟩

theorem Exp_at (a e r : Int) (w : World) (h : gexp a e = r) (h0 : -9223372036854775808 ≤ e) (h1 : e ≤ 9223372036854775807) : Calls Tryd.prog 30 #[.int .i64 a, .int .i64 e] w fun e' w' => e' = .returned (.int .i64 r) ∧ Q w w' := h ▸ Exp_any a e w h0 h1
theorem RExp_at (a e r : Int) (w : World) (h : gexp a e = r) (h0 : -9223372036854775808 ≤ e) (h1 : e ≤ 9223372036854775807) : Calls Tryd.prog 76 #[.int .i64 a, .int .i64 e] w fun e' w' => e' = .returned (.int .i64 r) ∧ Q w w' := h ▸ RExp_any a e w h0 h1
theorem ephB_size (seed : ByteArray) (pub : Int) (h : seed.size ≤ 140737488354000) : (listL [ephT, seed, numB pub]).length ≤ 140737488355100 := by
  have h4 := list3 ephT seed (numB pub)
  have h5 : ephT.size = 3 := rfl
  have k1 := numB_size pub
  omega
theorem nonceB_size (k : ByteArray) (h : k.size = 32) : (listL [nonceT, k]).length ≤ 140737488355100 := by
  have h4 := list2 nonceT k
  have h5 : nonceT.size = 5 := rfl
  omega
theorem wkB_size (a b c : Int) : (wkB a b c).size = 32 := sealH_size _

set_option maxRecDepth 100000 in
set_option maxHeartbeats 4000000 in
theorem Wrap_yes (pub : Int) (seed plain : ByteArray) (w : World) (hT : Tab w) (h : isPubI pub = true) (hs : seed.size ≤ 140737488354000) (hp : plain.size ≤ 140737488354000) (hpub : pub ≤ 9223372036854775807) :
    Calls Tryd.prog 24 #[.int .i64 pub, .string seed, .string plain] w fun e w' => e = .returned (.tuple #[wrapV (wrapB pub seed plain), .bool true]) ∧ Q w w' := by
  have hb := Blk.new w 25 (wrapCs wrap0)
  have hq0 := q_new w (wrapCs wrap0) 25
  have hk := Lib.hid (wrap_all (wrapB pub seed plain))
  have HE := Lib.hid (ephB_size seed pub hs)
  obtain ⟨E, hE⟩ : ∃ E, ephI seed pub = E := ⟨_, rfl⟩
  have hEb := hE ▸ ephI_bd seed pub
  obtain ⟨G, hG⟩ : ∃ G, gexp 37 E = G := ⟨_, rfl⟩
  have hGb := hG ▸ gexp_bd 37 E
  obtain ⟨Z, hZ⟩ : ∃ Z, gexp pub E = Z := ⟨_, rfl⟩
  have hZb := hZ ▸ gexp_bd pub E
  obtain ⟨K, hK⟩ : ∃ K, wkB pub G Z = K := ⟨_, rfl⟩
  have hKs : K.size = 32 := hK ▸ wkB_size pub G Z
  obtain ⟨N, hN⟩ : ∃ N, sealH [nonceT, K] = N := ⟨_, rfl⟩
  have hNs : N.size = 32 := hN ▸ sealH_size [nonceT, K]
  have HN := Lib.hid (nonceB_size K hKs)
  have hW : wrapB pub seed plain = (pub, G, sealB K N plain) := by unfold wrapB; rw [hE, hG, hZ, hK, hN]
  rw [hW] at hk ⊢
  clear hW
  obtain ⟨⟨b1, b2, b3⟩, hB⟩ : ∃ B, sealB K N plain = B := ⟨_, rfl⟩
  rw [hB] at hk ⊢
  have HH := Lib.hid hE
  go_enter Tryd.func24, Tryd.ntmps24
  go_wp2_with fail
  refine (isPublic_any _ _).mono ?_
  rintro e w1 ⟨rfl, rfl⟩
  rw [h]
  go_wp2_with fail
  refine (Num_any _ _ hpub).mono ?_
  rintro e w2 ⟨rfl, hq2⟩
  have hb := hb.q hq2
  have hq2 := Q.trans hq0 hq2
  go_wp2_with fail
  refine (Shash_new [ephT, seed, numB pub] 3 _ _ _ (hT.q hq2) rfl rfl (by decide) (Nat.le_trans HE.out (by decide))).mono ?_
  rintro e w3 ⟨rfl, hq3⟩
  have hb := hb.q hq3
  have hq3 := Q.trans hq2 hq3
  clear hq0 hq2
  have hsz := sealH_size [ephT, seed, numB pub]
  have hnb := numOf_bd (sealH [ephT, seed, numB pub])
  have hEE : 1 + numOf (sealH [ephT, seed, numB pub]) % 2305843009213693949 = E := HH.out
  generalize sealH [ephT, seed, numB pub] = H at *
  generalize hn : numOf H = n at *
  have f2 : n.tmod 2305843009213693949 = E - 1 := by rw [Int.tmod_eq_emod_of_nonneg (by omega)]; omega
  have f3 : IntKind.i64.wrap (E - 1) = E - 1 := IntWalk.i64_in _ ⟨by omega, by omega⟩
  have f4 : 1 + (E - 1) = E := by omega
  have f5 : IntKind.i64.wrap E = E := IntWalk.i64_in _ ⟨by omega, by omega⟩
  clear hEE
  go_wp2_with fail
  refine (sumNum_any _ _ (by omega)).mono ?_
  rintro e w4 ⟨rfl, rfl⟩
  rw [hn]
  clear hsz hn
  go_wp2_with fail
  refine (Exp_at 37 E G _ hG (by omega) (by omega)).mono ?_
  rintro e w5 ⟨rfl, hq4⟩
  have hb := hb.q hq4
  have hq4 := Q.trans hq3 hq4
  clear hq3
  go_wp2_with fail
  refine (Exp_at pub E Z _ hZ (by omega) (by omega)).mono ?_
  rintro e w6 ⟨rfl, hq5⟩
  have hb := hb.q hq5
  have hq5 := Q.trans hq4 hq5
  clear hq4
  go_wp2_with fail
  refine (wk_any pub G Z _ (hT.q hq5) hpub (by omega) (by omega)).mono ?_
  rintro e w7 ⟨rfl, hq6⟩
  rw [hK]
  have hb := hb.q hq6
  have hq6 := Q.trans hq5 hq6
  clear hq5
  go_wp2_with fail
  refine (Shash_new [nonceT, K] 2 _ _ _ (hT.q hq6) rfl rfl (by decide) (Nat.le_trans HN.out (by decide))).mono ?_
  rintro e w8 ⟨rfl, hq7⟩
  rw [hN]
  have hb := hb.q hq7
  have hq7 := Q.trans hq6 hq7
  clear hq6
  go_wp2_with fail
  refine (Seal_any K N plain _ (hT.q hq7) (by omega)).mono ?_
  rintro e w9 ⟨rfl, hq8⟩
  rw [hB]
  have hb := hb.q hq8
  have hq8 := Q.trans hq7 hq8
  clear hq7
  unfold boxV boxCs
  go_wp2_with (refine wpList_store_row rfl 25 _ _ rfl w.heap.size (wrapCs (pub, G, b1, b2, b3)) rfl rfl 25 (wrapCs wrap0) hb (by kernel_rfl) (by kernel_rfl) hk.out ?_)
  exact bodyPost_ret (results_cell_row_tmp rfl _ _ w.heap.size 25 (wrapCs (pub, G, b1, b2, b3)) (0, 0) _ _ rfl rfl (Blk.setRow hb _) Tryd.underlying25 rfl (by kernel_rfl)) rfl ⟨rfl, below_setRow hq8 (Nat.le_refl _) _⟩
end Go.Proofs.YtppbplchdfhnkaaDoor.Seal
