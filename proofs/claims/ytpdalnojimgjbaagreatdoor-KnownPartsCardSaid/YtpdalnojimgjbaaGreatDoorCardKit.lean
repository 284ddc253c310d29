/-
  What an argument's type gives: a struct of two integers.
  How the contract of a law becomes its row: the law returns true, and below the heap's old size nothing has changed, so every argument reads as before.
  What the rows' list of tables gives: package sum's two tables hold what the text says; and a world for the witness.
-/
import Derived.Test.YtpdalnojimgjbaaGreatDoorProg
import Derived.WideShapes
import Derived.ProofKit
import Derived.OpenShut
import Derived.OpenVars
import Derived.Test.YtpdalnojimgjbaaGreatDoorCards
import Derived.Test.YtpdalnojimgjbaaGreatDoorTie
import Derived.Test.YtpdalnojimgjbaaGreatDoorShaMix
import Derived.Deep.DeepHandedRow
import Derived.Lib.LaidTab
set_option linter.unusedVariables false
set_option linter.unusedSimpArgs false
namespace Go.Proofs.YtpdalnojimgjbaaGreatDoor.Laid

theorem cell_int {P : Program} {W : World} {r : Reach} {base : Nat} {i : TypeId} {v : Value} (hi : P.underlying i = some (.int .i64)) (h : Cell.okWide P W r base i v) :
    ∃ a : Int, v = .int .i64 a ∧ -9223372036854775808 ≤ a ∧ a ≤ 9223372036854775807 := by
  simp only [Cell.okWide, hi] at h
  cases v with
  | int k n =>
    simp only [Cell.ok, hi] at h
    obtain ⟨rfl, h1, h2⟩ := h
    exact ⟨n, rfl, h1, h2⟩
  | _ => simp [Cell.ok, hi] at h
theorem open_pair {P : Program} {W : World} {r : Reach} {base : Nat} {v : Value} {t i : TypeId} {fs : Array Field} (hu : P.underlying t = some (.struct fs)) (hct : P.cellTypes P.depth t = some [i, i]) (hc : P.cellsOf t = 2) (hi : P.underlying i = some (.int .i64))
    (h : Value.okWide P W r base t v) : ∃ a b : Int, v = .agg #[.int .i64 a, .int .i64 b] ∧ (-9223372036854775808 ≤ a ∧ a ≤ 9223372036854775807) ∧ -9223372036854775808 ≤ b ∧ b ≤ 9223372036854775807 := by
  simp only [Value.okWide, hu] at h
  obtain ⟨cs, rfl, hsz, ts, hts, -, hcell⟩ := h
  rw [hct] at hts
  obtain rfl := Option.some.inj hts
  rw [hc] at hsz
  obtain ⟨l⟩ := cs
  match l, hsz with
  | [c0, c1], _ =>
    obtain ⟨u0, h0, k0⟩ := hcell 0 c0 rfl
    obtain ⟨u1, h1, k1⟩ := hcell 1 c1 rfl
    obtain rfl := Option.some.inj h0
    obtain rfl := Option.some.inj h1
    obtain ⟨a, rfl, ha⟩ := cell_int hi k0
    obtain ⟨b, rfl, hb⟩ := cell_int hi k1
    exact ⟨a, b, rfl, ha, hb⟩
theorem open_i64 {P : Program} {W : World} {r : Reach} {base : Nat} {i : TypeId} {v : Value} (hi : P.underlying i = some (.int .i64)) (h : Value.okWide P W r base i v) :
    ∃ a : Int, v = .int .i64 a ∧ -9223372036854775808 ≤ a ∧ a ≤ 9223372036854775807 := by
  simp only [Value.okWide, hi] at h
  exact cell_int hi h
end Go.Proofs.YtpdalnojimgjbaaGreatDoor.Laid

namespace Go.Proofs.YtpdalnojimgjbaaGreatDoor.Post
open Go.ChangeShapes Go.WideShapes Go.ChangeAt Go.RowKit

theorem trodAll_below {H : Type} {enc : TypeId × Value → H} {P : Program} (hl : laidOutB P = true) {W W' : World} (hb : Below W.heap.size W W') :
    ∀ {ts : List TypeId} {vs : List Value} {ds : List (DataW H)} {ps : List MemPlace}, ts.all (fun t => P.readableRec t && decide (t < P.types.size)) = true → (∀ x ∈ ps, x.block < W.heap.size) →
      DataW.TrodAll enc P W 0 (fun _ => true) true ts vs ds ps → DataW.TrodAll enc P W' 0 (fun b => decide (b < W.heap.size)) true ts vs ds ps := by
  intro ts
  induction ts with
  | nil =>
    intro vs ds ps _ _ h
    obtain ⟨rfl, rfl, rfl⟩ := trodAll_nil h
    exact trodAll_mk0
  | cons t ts ih =>
    intro vs ds ps hr hlt h
    obtain ⟨v, vs', d, ds', p, q, rfl, rfl, rfl, h1, h2⟩ := trodAll_cons h
    simp only [List.all_cons, Bool.and_eq_true, decide_eq_true_eq] at hr
    exact trodAll_cons_mk (Below.trod hl hr.1.1 hr.1.2 h1 hb (fun x hx => hlt x (List.mem_append_left _ hx))) (ih (by simpa using hr.2) (fun x hx => hlt x (List.mem_append_right _ hx)) h2)

theorem law_post {H : Type} {enc : TypeId × Value → H} {P : Program} {f : Func} {s : ChangeSpec} {apart : Bool} {W W' : World} {args : Array Value} {ds gs : List (DataW H)} {before : List MemPlace} {tb : TypeId}
    (hl : laidOutB P = true) (hts : f.params.toList.all (fun t => P.readableRec t && decide (t < P.types.size)) = true) (hvs : varsRowed P s.vars = true)
    (hrt : f.resultTypes.toList = [tb]) (hn : f.resultTypes.size = 1) (hub : P.underlying tb = some .bool)
    (hW : DataW.Whole enc P f.params.toList s.vars apart W args.toList ds gs before)
    (hr : (s.fn H (ds ++ gs)).results = [.lit (.bool true)]) (ha : (s.fn H (ds ++ gs)).args = ds) (hv : (s.fn H (ds ++ gs)).vars = gs)
    (hb : Below W.heap.size W W') :
    s.post enc P f apart true false false W args (.bool true) W' := by
  have hW' := hW
  have hlt := hW.lt
  obtain ⟨p, q, hA, hV, rfl, hfz, hnd⟩ := hW
  refine ⟨ds, gs, p ++ q, [], p, q, hW', ?_, ?_, ?_, hb.frame _, fun h => by cases h⟩
  · rw [hr, hrt, hn]
    exact trodAll_mk1 (shut_bool hub true)
  · rw [ha]
    exact trodAll_below hl hb hts (fun x hx => hlt x (List.mem_append_left _ hx)) hA
  · rw [hv]
    exact Below.trodVars hl hb hvs hV

end Go.Proofs.YtpdalnojimgjbaaGreatDoor.Post

namespace Go.Proofs.YtpdalnojimgjbaaGreatDoor.Laid
open Go.ChangeShapes Go.WideShapes Go.ChangeAt Go.RowKit

theorem own : ownKnob Tryz.prog.godebug = none := by kernel_rfl
theorem laidOut : laidOutB Tryz.prog = true := by kernel_rfl
theorem gCon : Tryz.prog.globalNamed "agora/sum.constants" = some 1 := by kernel_rfl
theorem gIni : Tryz.prog.globalNamed "agora/sum.initial" = some 0 := by kernel_rfl
theorem gConType : (Tryz.prog.globals[(1 : Nat)]?).map (·.type) = some 182 := by kernel_rfl
theorem gIniType : (Tryz.prog.globals[(0 : Nat)]?).map (·.type) = some 111 := by kernel_rfl
theorem cells64 : Tryz.prog.cellsOf 182 = 64 := by kernel_rfl
theorem cells8 : Tryz.prog.cellsOf 111 = 8 := by kernel_rfl
theorem cells1 : Tryz.prog.cellsOf 110 = 1 := by kernel_rfl

theorem laidMet_rest {P : Program} {W : World} {x : String × DataW Unit} {name : String} {k : IntKind} {zs : List Int} {g : Nat} {t e : TypeId} {n : Nat}
    (hg : P.globalNamed name = some g) (hty : (P.globals[g]?).map (·.type) = some t) (ht : P.underlying t = some (.array n e)) (he : P.underlying e = some (.int k)) (hce : P.cellsOf e = 1) (hct : P.cellsOf t = n)
    (h : laidMet P [x, (name, Lib.tabData k zs)] W) : Lib.TabIs P W name k zs := by
  obtain ⟨ps, ⟨g', t', cs, fuel, p, q, hg', ht', hvar, hd, ⟨g2, t2, cs2, fuel2, p2, q2, hg2, ht2, hvar2, hd2, _, _⟩, _⟩, _⟩ := h
  obtain rfl := Option.some.inj (hg.symm.trans hg2)
  obtain rfl := Option.some.inj (hty.symm.trans ht2)
  unfold Lib.TabIs
  rw [hvar2, ← Lib.cells_of_tab ht he hce hct hd2]

theorem block_of {P : Program} {W : World} {name : String} {cs : Array Value} {g : Nat} (hg : P.globalNamed name = some g) (h : W.var? P name = some cs) : ∃ t fr, W.heap[g]? = some (.cells cs t fr) := by
  simp only [World.var?, hg, Option.bind_some] at h
  split at h
  · rename_i cs' t fr hh
    obtain rfl := Option.some.inj h
    exact ⟨t, fr, hh⟩
  · cases h
theorem lt_of {W : World} {g : Nat} {o : Obj} (h : W.heap[g]? = some o) : g < W.heap.size := (Array.getElem?_eq_some_iff.mp h).1

theorem tab {W : World} (h : laidMetH Tryz.prog [("agora/sum.constants", Rows.laid_agora_sum_constants), ("agora/sum.initial", Rows.laid_agora_sum_initial)] W) : Sha.Tab W := by
  have hc : Lib.TabIs Tryz.prog W "agora/sum.constants" .u32 Sha.KL := Lib.tabIs_of_head (rest := [("agora/sum.initial", Rows.laid_agora_sum_initial)]) gCon gConType Tryz.underlying182 Tryz.underlying110 cells1 cells64 h
  have hi : Lib.TabIs Tryz.prog W "agora/sum.initial" .u32 Sha.HL := laidMet_rest (x := ("agora/sum.constants", Rows.laid_agora_sum_constants)) gIni gIniType Tryz.underlying111 Tryz.underlying110 cells1 cells8 h
  obtain ⟨t1, f1, h1⟩ := block_of gCon hc
  obtain ⟨t2, f2, h2⟩ := block_of gIni hi
  exact ⟨⟨t2, f2, h2⟩, fun i hi => hc.cell gCon i hi, lt_of h2, lt_of h1⟩

/- A world for the witness: the settled one, the tables holding what the text lays. -/
def put (cs : Array Value) : Obj → Obj
  | .cells _ t frozen => .cells cs t frozen
  | o => o
noncomputable def laidWorld (os : Os) (args : Array Value) : World :=
  { World.holding Tryz.prog os ⟨#[], args, []⟩ with heap := ((World.holding Tryz.prog os ⟨#[], args, []⟩).heap.modify 1 (put (Sha.KL.map fun z => Value.int .u32 z).toArray)).modify 0 (put (Sha.HL.map fun z => Value.int .u32 z).toArray) }
end Go.Proofs.YtpdalnojimgjbaaGreatDoor.Laid
