/-
  What an argument's type gives: a struct of two integers. How the contract of a law becomes its row: the law returns true, and below the heap's old size nothing has changed, so every argument reads as before. What the rows' list of tables gives: package sum's two tables hold what the text says; and a world for the witness.
  The statement KnownEqual holds. The tables of package sum hold what the text lays.
-/
import Derived.Test.YtomkeaeegdjhnaaGreatDoorProg
import Derived.WideShapes
import Derived.ProofKit
import Derived.OpenShut
import Derived.OpenVars
import Derived.Test.YtomkeaeegdjhnaaGreatDoorCards
import Derived.Test.YtomkeaeegdjhnaaGreatDoorTie
import Derived.Test.YtomkeaeegdjhnaaGreatDoorShaMix
import Derived.Deep.DeepHandedRow
import Derived.Lib.LaidTab
import Derived.Test.YtomkeaeegdjhnaaGreatDoorMgEq
import Derived.Test.YtomkeaeegdjhnaaGreatDoorMgItKn
import Derived.ChangeMaps5
set_option linter.unusedVariables false
set_option linter.unusedSimpArgs false
namespace Go.Proofs.YtomkeaeegdjhnaaGreatDoor.Laid

theorem cell_int {P : Program} {W : World} {r : Reach} {base : Nat} {i : TypeId} {v : Value} (hi : P.underlying i = some (.int .i64)) (h : Cell.okWide P W r base i v) :
    ∃ a : Int, v = .int .i64 a ∧ -9223372036854775808 ≤ a ∧ a ≤ 9223372036854775807 := by
  simp only [Cell.okWide, hi] at h
  cases v with
  | int k n =>
    simp only [Cell.ok, hi] at h
    obtain ⟨rfl, h1, h2⟩ := h
    exact ⟨n, rfl, h1, h2⟩
  | _ => simp [Cell.ok, hi] at h
theorem open_pair {P : Program} {W : World} {r : Reach} {base : Nat} {v : Value} {t i : TypeId} {fs : Array Field} (hu : P.underlying t = some (.struct fs)) (hct : P.cellTypes P.depth t = some [i, i]) (hc : P.cellsOf t = 2) (hi : P.underlying i = some (.int .i64))
    (h : Value.okWide P W r base t v) : ∃ a b : Int, v = .agg #[.int .i64 a, .int .i64 b] ∧ (-9223372036854775808 ≤ a ∧ a ≤ 9223372036854775807) ∧ -9223372036854775808 ≤ b ∧ b ≤ 9223372036854775807 := by
  simp only [Value.okWide, hu] at h
  obtain ⟨cs, rfl, hsz, ts, hts, -, hcell⟩ := h
  rw [hct] at hts
  obtain rfl := Option.some.inj hts
  rw [hc] at hsz
  obtain ⟨l⟩ := cs
  match l, hsz with
  | [c0, c1], _ =>
    obtain ⟨u0, h0, k0⟩ := hcell 0 c0 rfl
    obtain ⟨u1, h1, k1⟩ := hcell 1 c1 rfl
    obtain rfl := Option.some.inj h0
    obtain rfl := Option.some.inj h1
    obtain ⟨a, rfl, ha⟩ := cell_int hi k0
    obtain ⟨b, rfl, hb⟩ := cell_int hi k1
    exact ⟨a, b, rfl, ha, hb⟩
theorem open_i64 {P : Program} {W : World} {r : Reach} {base : Nat} {i : TypeId} {v : Value} (hi : P.underlying i = some (.int .i64)) (h : Value.okWide P W r base i v) :
    ∃ a : Int, v = .int .i64 a ∧ -9223372036854775808 ≤ a ∧ a ≤ 9223372036854775807 := by
  simp only [Value.okWide, hi] at h
  exact cell_int hi h
end Go.Proofs.YtomkeaeegdjhnaaGreatDoor.Laid

namespace Go.Proofs.YtomkeaeegdjhnaaGreatDoor.Post
open Go.ChangeShapes Go.WideShapes Go.ChangeAt Go.RowKit

theorem trodAll_below {H : Type} {enc : TypeId × Value → H} {P : Program} (hl : laidOutB P = true) {W W' : World} (hb : Below W.heap.size W W') :
    ∀ {ts : List TypeId} {vs : List Value} {ds : List (DataW H)} {ps : List MemPlace}, ts.all (fun t => P.readableRec t && decide (t < P.types.size)) = true → (∀ x ∈ ps, x.block < W.heap.size) →
      DataW.TrodAll enc P W 0 (fun _ => true) true ts vs ds ps → DataW.TrodAll enc P W' 0 (fun b => decide (b < W.heap.size)) true ts vs ds ps := by
  intro ts
  induction ts with
  | nil =>
    intro vs ds ps _ _ h
    obtain ⟨rfl, rfl, rfl⟩ := trodAll_nil h
    exact trodAll_mk0
  | cons t ts ih =>
    intro vs ds ps hr hlt h
    obtain ⟨v, vs', d, ds', p, q, rfl, rfl, rfl, h1, h2⟩ := trodAll_cons h
    simp only [List.all_cons, Bool.and_eq_true, decide_eq_true_eq] at hr
    exact trodAll_cons_mk (Below.trod hl hr.1.1 hr.1.2 h1 hb (fun x hx => hlt x (List.mem_append_left _ hx))) (ih (by simpa using hr.2) (fun x hx => hlt x (List.mem_append_right _ hx)) h2)

theorem law_post {H : Type} {enc : TypeId × Value → H} {P : Program} {f : Func} {s : ChangeSpec} {apart : Bool} {W W' : World} {args : Array Value} {ds gs : List (DataW H)} {before : List MemPlace} {tb : TypeId}
    (hl : laidOutB P = true) (hts : f.params.toList.all (fun t => P.readableRec t && decide (t < P.types.size)) = true) (hvs : varsRowed P s.vars = true)
    (hrt : f.resultTypes.toList = [tb]) (hn : f.resultTypes.size = 1) (hub : P.underlying tb = some .bool)
    (hW : DataW.Whole enc P f.params.toList s.vars apart W args.toList ds gs before)
    (hr : (s.fn H (ds ++ gs)).results = [.lit (.bool true)]) (ha : (s.fn H (ds ++ gs)).args = ds) (hv : (s.fn H (ds ++ gs)).vars = gs)
    (hb : Below W.heap.size W W') :
    s.post enc P f apart true false false W args (.bool true) W' := by
  have hW' := hW
  have hlt := hW.lt
  obtain ⟨p, q, hA, hV, rfl, hfz, hnd⟩ := hW
  refine ⟨ds, gs, p ++ q, [], p, q, hW', ?_, ?_, ?_, hb.frame _, fun h => by cases h⟩
  · rw [hr, hrt, hn]
    exact trodAll_mk1 (shut_bool hub true)
  · rw [ha]
    exact trodAll_below hl hb hts (fun x hx => hlt x (List.mem_append_left _ hx)) hA
  · rw [hv]
    exact Below.trodVars hl hb hvs hV

end Go.Proofs.YtomkeaeegdjhnaaGreatDoor.Post

namespace Go.Proofs.YtomkeaeegdjhnaaGreatDoor.Laid
open Go.ChangeShapes Go.WideShapes Go.ChangeAt Go.RowKit

theorem own : ownKnob Tryz.prog.godebug = none := by kernel_rfl
theorem laidOut : laidOutB Tryz.prog = true := by kernel_rfl
theorem gCon : Tryz.prog.globalNamed "agora/sum.constants" = some 1 := by kernel_rfl
theorem gIni : Tryz.prog.globalNamed "agora/sum.initial" = some 0 := by kernel_rfl
theorem gConType : (Tryz.prog.globals[(1 : Nat)]?).map (·.type) = some 146 := by kernel_rfl
theorem gIniType : (Tryz.prog.globals[(0 : Nat)]?).map (·.type) = some 89 := by kernel_rfl
theorem cells64 : Tryz.prog.cellsOf 146 = 64 := by kernel_rfl
theorem cells8 : Tryz.prog.cellsOf 89 = 8 := by kernel_rfl
theorem cells1 : Tryz.prog.cellsOf 88 = 1 := by kernel_rfl

theorem laidMet_rest {P : Program} {W : World} {x : String × DataW Unit} {name : String} {k : IntKind} {zs : List Int} {g : Nat} {t e : TypeId} {n : Nat}
    (hg : P.globalNamed name = some g) (hty : (P.globals[g]?).map (·.type) = some t) (ht : P.underlying t = some (.array n e)) (he : P.underlying e = some (.int k)) (hce : P.cellsOf e = 1) (hct : P.cellsOf t = n)
    (h : laidMet P [x, (name, Lib.tabData k zs)] W) : Lib.TabIs P W name k zs := by
  obtain ⟨ps, ⟨g', t', cs, fuel, p, q, hg', ht', hvar, hd, ⟨g2, t2, cs2, fuel2, p2, q2, hg2, ht2, hvar2, hd2, _, _⟩, _⟩, _⟩ := h
  obtain rfl := Option.some.inj (hg.symm.trans hg2)
  obtain rfl := Option.some.inj (hty.symm.trans ht2)
  unfold Lib.TabIs
  rw [hvar2, ← Lib.cells_of_tab ht he hce hct hd2]

theorem block_of {P : Program} {W : World} {name : String} {cs : Array Value} {g : Nat} (hg : P.globalNamed name = some g) (h : W.var? P name = some cs) : ∃ t fr, W.heap[g]? = some (.cells cs t fr) := by
  simp only [World.var?, hg, Option.bind_some] at h
  split at h
  · rename_i cs' t fr hh
    obtain rfl := Option.some.inj h
    exact ⟨t, fr, hh⟩
  · cases h
theorem lt_of {W : World} {g : Nat} {o : Obj} (h : W.heap[g]? = some o) : g < W.heap.size := (Array.getElem?_eq_some_iff.mp h).1

theorem tab {W : World} (h : laidMetH Tryz.prog [("agora/sum.constants", Rows.laid_agora_sum_constants), ("agora/sum.initial", Rows.laid_agora_sum_initial)] W) : Sha.Tab W := by
  have hc : Lib.TabIs Tryz.prog W "agora/sum.constants" .u32 Sha.KL := Lib.tabIs_of_head (rest := [("agora/sum.initial", Rows.laid_agora_sum_initial)]) gCon gConType Tryz.underlying146 Tryz.underlying88 cells1 cells64 h
  have hi : Lib.TabIs Tryz.prog W "agora/sum.initial" .u32 Sha.HL := laidMet_rest (x := ("agora/sum.constants", Rows.laid_agora_sum_constants)) gIni gIniType Tryz.underlying89 Tryz.underlying88 cells1 cells8 h
  obtain ⟨t1, f1, h1⟩ := block_of gCon hc
  obtain ⟨t2, f2, h2⟩ := block_of gIni hi
  exact ⟨⟨t2, f2, h2⟩, fun i hi => hc.cell gCon i hi, lt_of h2, lt_of h1⟩

/- A world for the witness: the settled one, the tables holding what the text lays. -/
def put (cs : Array Value) : Obj → Obj
  | .cells _ t frozen => .cells cs t frozen
  | o => o
noncomputable def laidWorld (os : Os) (args : Array Value) : World :=
  { World.holding Tryz.prog os ⟨#[], args, []⟩ with heap := ((World.holding Tryz.prog os ⟨#[], args, []⟩).heap.modify 1 (put (Sha.KL.map fun z => Value.int .u32 z).toArray)).modify 0 (put (Sha.HL.map fun z => Value.int .u32 z).toArray) }
end Go.Proofs.YtomkeaeegdjhnaaGreatDoor.Laid

namespace Go.Proofs.YtomkeaeegdjhnaaGreatDoor.knownEqual
open Go.ChangeShapes Go.WideShapes Go.ChangeAt Go.RowKit
open Go.ChangeMaps (open_string)

theorem open_sl {α : Type} {H : Type} {enc : TypeId × Value → H} {P : Program} {W : World} {r : Reach} {b0 base : Nat} {held : Bool} {t e : TypeId} {k : Nat} {f : α → List Value} {G : α → Prop} {v : Value} {d : DataW H} {p : List MemPlace}
    (ht : P.underlying t = some (.slice e)) (hO : Mem.Opens enc P W base (fun _ => true) held t Mem.SliceR.cells (Mem.SliceR.Good W k f G)) (hval : Value.okWide P W r b0 t v) (h : DataW.Trod enc P W base (fun _ => true) held t v d p) :
    ∃ (A : Option Addr) (c : Nat) (l : List α), v = .slice A l.length c ∧ l.length ≤ c ∧ c ≤ maxLen ∧ Mem.RowsAt W A k f l ∧ ∀ a ∈ l, G a := by
  obtain ⟨A, n, c, rfl⟩ := okWide_slice ht hval
  obtain ⟨fuel, hf⟩ := h
  obtain ⟨s, hs, hg⟩ := hO fuel _ _ hf
  simp [Value.cells, Mem.SliceR.cells] at hs
  obtain ⟨rfl, rfl, rfl⟩ := hs
  exact ⟨s.A, s.c, s.l, rfl, hg.le, hg.cap, hg.rows, hg.all⟩

theorem laid_met (os : Os) : laidMet Tryz.prog Rows.knownEqualRow.laid ((Laid.laidWorld os #[.agg #[.slice none 0 0, .slice none 0 0], .agg #[.slice none 0 0, .slice none 0 0]]).forCall (fun _ _ => 0) ⟨#[], #[.agg #[.slice none 0 0, .slice none 0 0], .agg #[.slice none 0 0, .slice none 0 0]], []⟩).memory :=
  laidMet_of_run' 8 (by kernel_rfl) (by kernel_rfl)
theorem reads (os : Os) {H : Type} (enc : TypeId × Value → H) : ∃ places, DataW.whole enc Tryz.prog ((Laid.laidWorld os #[.agg #[.slice none 0 0, .slice none 0 0], .agg #[.slice none 0 0, .slice none 0 0]]).forCall (fun _ _ => 0) ⟨#[], #[.agg #[.slice none 0 0, .slice none 0 0], .agg #[.slice none 0 0, .slice none 0 0]], []⟩).memory Tryz.f3.params.toList Rows.knownEqualSpec.vars false #[Value.agg #[.slice none 0 0, .slice none 0 0], .agg #[.slice none 0 0, .slice none 0 0]].toList 8 = some ([.agg [.nil, .nil], .agg [.nil, .nil]], [], places) :=
  ⟨[], by kernel_rfl⟩

set_option maxRecDepth 100000 in
theorem contract (H : Type) (enc : TypeId × Value → H) (W : World) (base : Nat) (args : Array Value) (ds gs : List (DataW H)) (before : List MemPlace)
    (hval : ∀ (j : Nat) t v, Tryz.f3.params[j]? = some t → args[j]? = some v → Value.okWide Tryz.prog W .any base t v)
    (hW : DataW.Whole enc Tryz.prog Tryz.f3.params.toList Rows.knownEqualSpec.vars false W args.toList ds gs before) (hL : laidMetH Tryz.prog Rows.knownEqualRow.laid W) :
    Calls Tryz.prog 3 args W fun e W' => ∃ v, e = .returned v ∧ Rows.knownEqualSpec.post enc Tryz.prog Tryz.f3 false true false false W args v W' := by
  have hW' := hW
  obtain ⟨p, q, hA0, hV, rfl, hfz, hnd⟩ := hW
  have hA : DataW.TrodAll enc Tryz.prog W 0 (fun _ => true) true Tryz.f3.params.toList args.toList ds p := hA0
  rw [Tryz.params3] at hA hval
  obtain ⟨v0, vs0, d0, ds0, p0, q0, hargs, rfl, rfl, h0, r0⟩ := trodAll_cons hA
  obtain ⟨v1, vs1, d1, ds1, p1, q1, rfl, rfl, rfl, h1, r1⟩ := trodAll_cons r0
  obtain ⟨rfl, rfl, rfl⟩ := trodAll_nil r1
  obtain rfl : args = #[v0, v1] := by cases args; simp_all
  obtain ⟨rfl, rfl⟩ := trodVars_none hV
  obtain ⟨k0, rfl, in0, ok0⟩ := Known.open_kn (hval 0 25 v0 rfl rfl) h0
  obtain ⟨k1, rfl, in1, ok1⟩ := Known.open_kn (hval 1 25 v1 rfl rfl) h1
  clear hA0
  refine (Known.equal_walk k0 k1 W (Laid.tab hL) in0 in1 ok0 ok1).mono fun e W' ⟨he, hg⟩ => ?_
  subst he
  exact ⟨_, rfl, Post.law_post (tb := 4) Laid.laidOut (by kernel_rfl) (by kernel_rfl) (by kernel_rfl) (by kernel_rfl) Tryz.underlying4 hW' rfl rfl rfl hg⟩

set_option maxRecDepth 100000 in
theorem lifted (os : Os) (started : os.Started) (H : Type) (enc : TypeId × Value → H) (F : Stop.Interp) :
    ReturnsInHanded {} Tryz.checked os 3 .any ((OpenSpec.ofChange Rows.knownEqualSpec).preRow enc Tryz.prog Tryz.f3 Rows.knownEqualRow.domain false Rows.knownEqualRow.laid) (((OpenSpec.ofChange Rows.knownEqualSpec).at F).post enc Tryz.prog Tryz.f3 false true false false) := by
  obtain ⟨places, hx⟩ := reads os enc
  refine returnsInHanded_of_row (C := Tryz.checked) (s := OpenSpec.ofChange Rows.knownEqualSpec) Laid.own started (by kernel_rfl) Tryz.func3
    (witness_row_at (enc := enc) (C := Tryz.checked) false (Laid.laidWorld os #[.agg #[.slice none 0 0, .slice none 0 0], .agg #[.slice none 0 0, .slice none 0 0]]) #[.agg #[.slice none 0 0, .slice none 0 0], .agg #[.slice none 0 0, .slice none 0 0]] rfl (by kernel_rfl) (by kernel_rfl) (by kernel_rfl)
      (OpenSpec.preRow_of_cond 8 hx (by kernel_rfl) (fun k hk => by cases hk) (by kernel_rfl) (laid_met os))) ?_
  intro W base args ds gs before hval hW _ _ _ hL _ _
  exact contract H enc W base args ds gs before hval hW hL

theorem c10 : (Rows.knownEqualRow.inPlace == Tryz.prog.inPlace 3) = true := by kernel_rfl
theorem c11 : (Rows.knownEqualRow.unfollowed == Tryz.prog.unfollowed 3) = true := by kernel_rfl
theorem c12 : (Rows.knownEqualRow.recurses == Tryz.prog.recurses 3) = true := by kernel_rfl
theorem c13 : (Rows.knownEqualRow.named == Tryz.prog.varsNamed 3) = true := by kernel_rfl
theorem closed : joinedFacts Tryz.prog 3 Tryz.f3 (OpenSpec.ofChange Rows.knownEqualSpec).bare Rows.knownEqualRow = true := by
  unfold joinedFacts
  rw [c10, c11, c12, c13]
  kernel_rfl
set_option maxRecDepth 100000 in
theorem said : Rows.KnownEqualSaid :=
  OpenClaim.holds_of_cond 3 Tryz.f3 rfl rfl rfl rfl rfl rfl rfl ⟨rfl, rfl, rfl, rfl, rfl⟩ rfl rfl rfl rfl rfl (by kernel_rfl) Tryz.func3 closed
    (of_decide_eq_true (by kernel_rfl)) (by unfold Func.isWrapper; first | (rw [if_pos (by decide +kernel)]; kernel_rfl) | (rw [if_neg (by decide +kernel)]; exact ⟨rfl, rfl⟩))
    (fun os started H enc _ F => by rw [OpenClaim.pre_eq_preRow]; exact lifted os started H enc F)

theorem plain (f : FuncId) (fn : Func) (hf : Tryz.pinned.checked.prog.funcNamed "agora/agoralaw14.KnownEqual" = some f) (hfn : Tryz.pinned.checked.prog.funcs[f]? = some fn) :
    false = Tryz.pinned.checked.prog.looks [] ∧ ∀ (j : Nat) t, fn.params[j]? = some t → Tryz.pinned.checked.prog.wantsStandIn t = false := by
  obtain rfl : f = 3 := Option.some.inj ((show Tryz.prog.funcNamed "agora/agoralaw14.KnownEqual" = some 3 by kernel_rfl).symm.trans hf) |>.symm
  obtain rfl : fn = Tryz.f3 := (Option.some.inj (Tryz.func3.symm.trans hfn)).symm
  refine ⟨by kernel_rfl, fun j t ht => ?_⟩
  rw [Tryz.params3] at ht
  have hm := Array.mem_of_getElem? ht
  have hall : (#[25, 25] : Array TypeId).all (fun t => !Tryz.prog.wantsStandIn t) = true := by kernel_rfl
  have hb := (Array.all_eq_true_iff_forall_mem.mp hall) t hm
  show Tryz.prog.wantsStandIn t = false
  simpa using hb

theorem proved : Rows.KnownEqualCardSaid :=
  Claim7.holds_tied_plain_at .later [] _ _ _ _ said (fun _ h => by cases h) (by kernel_rfl) (fun _ h => by cases h) knownEqual_row_tie rfl ⟨rfl, rfl⟩ (by kernel_rfl) rfl plain (by kernel_rfl)
#print axioms proved
end Go.Proofs.YtomkeaeegdjhnaaGreatDoor.knownEqual
