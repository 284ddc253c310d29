/-
  What an argument's type gives, with the bound on its strings that the form's reach gives.
  What an argument's type gives: a poll (layer 18).
  What an argument's type gives: a struct of two integers. How the contract of a law becomes its row: the law returns true, and below the heap's old size nothing has changed, so every argument reads as before. What the rows' list of tables gives: package sum's two tables hold what the text says; and a world for the witness.
-/
import Derived.Test.YtflgkplneekpfaaGreatDoorOpenItem
import Derived.SizedLaws
import Derived.Test.YtflgkplneekpfaaGreatDoorMgVa
import Derived.Test.YtflgkplneekpfaaGreatDoorProg
import Derived.WideShapes
import Derived.ProofKit
import Derived.OpenShut
import Derived.OpenVars
import Derived.Test.YtflgkplneekpfaaGreatDoorCards
import Derived.Test.YtflgkplneekpfaaGreatDoorTie
import Derived.Test.YtflgkplneekpfaaGreatDoorShaMix
import Derived.Deep.DeepHandedRow
import Derived.Lib.LaidTab
set_option linter.unusedVariables false
set_option linter.unusedSimpArgs false
namespace Go.Proofs.YtflgkplneekpfaaGreatDoor.Mem
open Go.RowKit Go.ChangeShapes Go.WideShapes Go.Deep Grp _root_.Go.Proofs.YtflgkplneekpfaaGreatDoor.Code Sha Sign

theorem mem_weightsAll {H : Type} {P : Program} {e : TypeId} {n : Nat} : ∀ {l : List (DataW H)} {d : DataW H}, d ∈ l → n ∈ d.weights P e → n ∈ DataW.weightsAll P e l
  | a :: l, d, hd, hn => by
    simp only [DataW.weightsAll, List.mem_append]
    rcases List.mem_cons.1 hd with rfl | hd
    · exact .inl hn
    · exact .inr (mem_weightsAll hd hn)
section
variable {H : Type} {enc : TypeId × Value → H} {P : Program} {W : World} {base : Nat} {spare : Nat → Bool} {held : Bool}
/-- Whatever reads at type t, with weights in reach, is f of something good. -/
def OpensW {α : Type} (enc : TypeId × Value → H) (P : Program) (W : World) (base : Nat) (spare : Nat → Bool) (held : Bool) (t : TypeId) (f : α → List Value) (G : α → Prop) : Prop :=
  ∀ (fuel : Nat) (cs : List Value) (x : DataW H × List MemPlace), DataW.trod enc P W base spare held fuel t cs = some x → (∀ n ∈ x.1.weights P t, n ≤ reachBytes) → ∃ a, cs = f a ∧ G a
theorem Opens.wide {α : Type} {t : TypeId} {f : α → List Value} {G : α → Prop} (h : Opens enc P W base spare held t f G) : OpensW enc P W base spare held t f G := fun fuel cs x hx _ => h fuel cs x hx
theorem opensW_str {t : TypeId} (ht : P.underlying t = some .string) : OpensW enc P W base spare held t (fun s : ByteArray => [.string s]) fun s => s.size ≤ reachBytes := fun fuel cs x h hw => by
  obtain ⟨s, rfl, rfl, hs⟩ := DataW.trod_string ht h
  refine ⟨s, rfl, ?_⟩
  have := hw s.data.toList.length (by simp [DataW.weights])
  rwa [ba_length] at this
theorem opensW_slice {α : Type} [Inhabited α] {t e : TypeId} {k : Nat} {f : α → List Value} {G : α → Prop} (ht : P.underlying t = some (.slice e)) (hk : P.cellsOf e = k) (h0 : 0 < k) (hO : OpensW enc P W base spare held e f G) :
    OpensW enc P W base spare held t SliceR.cells (SliceR.Good W k f G) := fun fuel cs x h hw => by
  rcases DataW.trod_slice ht h with ⟨rfl, -⟩ | ⟨a, len, cap, elems, rest, n, -, rfl, hx, hb, hl, hm, hel, hx1, -, -⟩
  · exact ⟨⟨none, [], 0⟩, rfl, ⟨Nat.le_refl _, Nat.zero_le _, by simp, RowsAt.nil _ _ _ _⟩⟩
  have each : ∀ i, i < len → ∃ y : α, G y ∧ W.cells? base (a.add (i * k)) k = some (f y) := by
    intro i hi
    have h1 := hx1 i hi
    rw [hk, List.getElem?_eq_getElem (show i < elems.length by omega)] at h1
    obtain ⟨cs', h2, h3⟩ := Option.bind_eq_some_iff.1 h1
    obtain ⟨y, rfl, hy⟩ := hO _ _ _ h3 (fun m hm => hw m (by
      rw [hx]
      simp only [DataW.weights, ht, List.mem_cons, List.mem_append]
      exact .inr (.inl (mem_weightsAll (List.mem_map.2 ⟨_, List.getElem_mem _, rfl⟩) hm))))
    exact ⟨y, hy, h2⟩
  obtain ⟨g, hg⟩ := choose_lt each
  have hlen : ((List.range len).map g).length = len := by simp
  refine ⟨⟨some a, (List.range len).map g, cap⟩, by unfold SliceR.cells; rw [hlen], ⟨by rw [hlen]; exact hl, hm, fun y hy => ?_, fun h1 => ?_⟩⟩
  · obtain ⟨i, hi, rfl⟩ := List.mem_map.1 hy
    exact (hg i (List.mem_range.1 hi)).1
  · dsimp only at h1
    rw [hlen] at h1
    have hc := fun i hi => World.cells?_some (hg i hi).2
    obtain ⟨b, o, s⟩ := a
    have hs : s = none ∧ b < W.heap.size := by
      obtain ⟨_, hl0, hc0⟩ := hc 0 h1
      have h2 := hc0 0 h0
      rw [List.getElem?_eq_getElem (show 0 < (f (g 0)).length by omega)] at h2
      simp only [Nat.zero_mul, Addr.add] at h2
      unfold World.cell? at h2
      simp only [if_true] at h2
      split at h2
      · rename_i hh
        cases s with
        | none => exact ⟨rfl, (Array.getElem?_eq_some_iff.1 hh).1⟩
        | some x => simp at h2
      · cases h2
    obtain ⟨rfl, hbl⟩ := hs
    refine ⟨b, o, rfl, hbl, fun j hj i v hv => ?_⟩
    have hj' : j < len := by dsimp only at hj; rwa [hlen] at hj
    obtain ⟨_, hl1, hc1⟩ := hc j hj'
    dsimp only at hv
    rw [List.getElem_map, List.getElem_range] at hv
    have hik : i < k := by rw [← hl1]; exact (List.getElem?_eq_some_iff.1 hv).1
    have := hc1 i hik
    rw [hv, add_add, Addr.add_mid] at this
    rw [Nat.add_assoc]
    exact this
/-- A field of a struct, with its weights. -/
theorem fieldW_opens {α : Type} {n i off k : Nat} {xs : List (DataW H × List MemPlace)} {x : DataW H × List MemPlace} {cs : List Value} {t u : TypeId} {fs : Array Field} {F : Field} {ps : List MemPlace} {f : α → List Value} {G : α → Prop}
    (ht : P.underlying t = some (.struct fs)) (hx : x = (.agg (xs.map (·.1)), ps)) (hw : ∀ n ∈ x.1.weights P t, n ≤ reachBytes) (hF : fs[i]? = some F) (hu : F.type = u)
    (hf : DataW.trod enc P W base spare held n u ((cs.drop off).take (P.cellsOf u)) = xs[i]?) (hi : i < xs.length) (hk : P.cellsOf u = k) (hO : OpensW enc P W base spare held u f G) : ∃ a, (cs.drop off).take k = f a ∧ G a := by
  rw [hk, List.getElem?_eq_getElem hi] at hf
  refine hO _ _ _ hf fun m hm => hw m ?_
  rw [hx]
  simp only [DataW.weights, ht]
  refine DataW.weights_mem_each (j := i) (t := u) (d := xs[i].1) ?_ ?_ m hm
  · rw [List.getElem?_map, Array.getElem?_toList, hF, ← hu]
    rfl
  · rw [List.getElem?_map, List.getElem?_eq_getElem hi]
    rfl
end
end Go.Proofs.YtflgkplneekpfaaGreatDoor.Mem

namespace Go.Proofs.YtflgkplneekpfaaGreatDoor.Vot
open Go.RowKit Go.ChangeShapes Go.WideShapes Go.Deep Grp Mem _root_.Go.Proofs.YtflgkplneekpfaaGreatDoor.Code Sha Sign _root_.Go.Proofs.YtflgkplneekpfaaGreatDoor.Item _root_.Go.Proofs.YtflgkplneekpfaaGreatDoor.Known

instance : Inhabited ClaimV := ⟨claim0⟩
section
variable {H : Type} {enc : TypeId × Value → H} {W : World} {base : Nat} {spare : Nat → Bool} {held : Bool}
set_option maxRecDepth 100000 in
theorem w_claim : OpensW enc Tryz.prog W base spare held 37 ClaimV.cells (fun c => ClaimOk c ∧ c.actor.size ≤ reachBytes) := fun fuel cs x h hw => by
  obtain ⟨c, rfl, hc⟩ := o_claim fuel cs x h
  obtain ⟨xs, n, -, hx, -, hxl, hf⟩ := DataW.trod_struct Tryz.underlying37 h
  have hxl : xs.length = 8 := hxl
  obtain ⟨s, hs, hz⟩ := fieldW_opens (i := 0) (off := 0) Tryz.underlying37 hx hw rfl rfl (show DataW.trod enc Tryz.prog W base spare held n 9 ((c.cells.drop 0).take (Tryz.prog.cellsOf 9)) = xs[0]? from hf 0 _ rfl) (by omega) k_str (opensW_str Tryz.underlying9)
  have he : c.actor = s := by
    simp [ClaimV.cells] at hs
    exact hs
  exact ⟨c, rfl, hc, he ▸ hz⟩
theorem k_claims : Tryz.prog.cellsOf 22 = 1 := by kernel_rfl
theorem w_claims : OpensW enc Tryz.prog W base spare held 22 SliceR.cells (SliceR.Good W 9 ClaimV.cells fun c => ClaimOk c ∧ c.actor.size ≤ reachBytes) := opensW_slice Tryz.underlying22 k_claim (by decide) w_claim
theorem k_vote : Tryz.prog.cellsOf 84 = 2 := by kernel_rfl
set_option maxRecDepth 100000 in
theorem o_vote : Opens enc Tryz.prog W base spare held 84 voteC (fun v => I64 v.1 ∧ I64 v.2) := fun fuel cs x h => by
  obtain ⟨xs, n, -, -, hcl, hxl, hf⟩ := DataW.trod_struct Tryz.underlying84 h
  rw [k_vote] at hcl
  have hxl : xs.length = 2 := hxl
  obtain ⟨n1, e0, g0⟩ := field_opens (off := 0) (show DataW.trod enc Tryz.prog W base spare held n 3 ((cs.drop 0).take (Tryz.prog.cellsOf 3)) = xs[0]? from hf 0 _ rfl) (by omega) k_int o_int
  obtain ⟨n2, e1, g1⟩ := field_opens (off := 1) (show DataW.trod enc Tryz.prog W base spare held n 3 ((cs.drop 1).take (Tryz.prog.cellsOf 3)) = xs[1]? from hf 1 _ rfl) (by omega) k_int o_int
  have t2 : cs.drop 2 = [] := List.drop_eq_nil_of_le (by omega)
  have t1 := drop_step e1
  simp only [Nat.reduceAdd] at t1
  rw [t2] at t1
  have t0 := drop_step e0
  simp only [Nat.reduceAdd] at t0
  rw [t1] at t0
  rw [List.drop_zero] at t0
  exact ⟨(n1, n2), by rw [t0]; rfl, g0, g1⟩
theorem k_votes : Tryz.prog.cellsOf 23 = 1 := by kernel_rfl
theorem o_votes : Opens enc Tryz.prog W base spare held 23 SliceR.cells (SliceR.Good W 2 voteC fun v => I64 v.1 ∧ I64 v.2) := opens_slice Tryz.underlying23 k_vote (by decide) o_vote
theorem k_poll : Tryz.prog.cellsOf 25 = 4 := by kernel_rfl
/-- What the type of a poll promises. -/
structure PollOk (p : PollR) : Prop where
  big : ∀ c ∈ p.claims, c.actor.size ≤ 140737488351232 ∧ c.gen ≤ 9223372036854775807
  many : I64 p.many
  votes : ∀ v ∈ p.votes, I64 v.1 ∧ I64 v.2
set_option maxRecDepth 100000 in
set_option maxHeartbeats 1000000 in
theorem w_poll : OpensW enc Tryz.prog W base spare held 25 PollR.cells (fun p => PollIn W p ∧ PollOk p) := fun fuel cs x h hw => by
  obtain ⟨xs, n, -, hx, hcl, hxl, hf⟩ := DataW.trod_struct Tryz.underlying25 h
  rw [k_poll] at hcl
  have hxl : xs.length = 4 := hxl
  obtain ⟨seed, e0, g0⟩ := field_opens (off := 0) (show DataW.trod enc Tryz.prog W base spare held n 9 ((cs.drop 0).take (Tryz.prog.cellsOf 9)) = xs[0]? from hf 0 _ rfl) (by omega) k_str o_str
  obtain ⟨many, e1, g1⟩ := field_opens (off := 1) (show DataW.trod enc Tryz.prog W base spare held n 3 ((cs.drop 1).take (Tryz.prog.cellsOf 3)) = xs[1]? from hf 1 _ rfl) (by omega) k_int o_int
  obtain ⟨s2, e2, g2⟩ := fieldW_opens (i := 2) (off := 2) Tryz.underlying25 hx hw rfl rfl (show DataW.trod enc Tryz.prog W base spare held n 22 ((cs.drop 2).take (Tryz.prog.cellsOf 22)) = xs[2]? from hf 2 _ rfl) (by omega) k_claims w_claims
  obtain ⟨s3, e3, g3⟩ := field_opens (off := 3) (show DataW.trod enc Tryz.prog W base spare held n 23 ((cs.drop 3).take (Tryz.prog.cellsOf 23)) = xs[3]? from hf 3 _ rfl) (by omega) k_votes o_votes
  have t4 : cs.drop 4 = [] := List.drop_eq_nil_of_le (by omega)
  have t3 := drop_step e3
  simp only [Nat.reduceAdd] at t3
  rw [t4] at t3
  have t2 := drop_step e2
  simp only [Nat.reduceAdd] at t2
  rw [t3] at t2
  have t1 := drop_step e1
  simp only [Nat.reduceAdd] at t1
  rw [t2] at t1
  have t0 := drop_step e0
  simp only [Nat.reduceAdd] at t0
  rw [t1] at t0
  rw [List.drop_zero] at t0
  refine ⟨⟨seed, many, s2.l, s2.A, s2.c, s3.l, s3.A, s3.c⟩, by rw [t0]; rfl, ⟨g2.rows, g3.rows, ⟨g2.le, g2.cap⟩, ⟨g3.le, g3.cap⟩⟩, fun c hc => ?_, g1, g3.all⟩
  obtain ⟨h1, h2⟩ := g2.all c hc
  have hr : reachBytes = 140737488351232 := rfl
  exact ⟨by omega, (h1.ints c.gen (by simp)).2⟩
set_option maxRecDepth 100000 in
theorem open_poll {r : Reach} {b0 : Nat} {v : Value} {ts : List TypeId} {ds : List (DataW H)} {j : Nat} {d : DataW H} {p : List MemPlace} (hz : (DataW.weightsEach Tryz.prog ts ds).all (· ≤ reachBytes) = true) (htj : ts[j]? = some 25) (hdj : ds[j]? = some d)
    (hval : Value.okWide Tryz.prog W r b0 25 v) (h : DataW.Trod enc Tryz.prog W base spare held 25 v d p) : ∃ k : PollR, v = .agg (pollA k) ∧ PollIn W k ∧ PollOk k := by
  simp only [Value.okWide, Tryz.underlying25] at hval
  obtain ⟨cs, rfl, -⟩ := hval
  obtain ⟨fuel, hf⟩ := h
  obtain ⟨k, hk, g1, g2⟩ := w_poll fuel _ _ hf (fun n hn => by
    have := List.all_eq_true.1 hz _ (DataW.weights_mem_each htj hdj n hn)
    simpa using this)
  have hk : cs.toList = k.cells := hk
  exact ⟨k, by rw [pollA, ← hk], g1, g2⟩
end
end Go.Proofs.YtflgkplneekpfaaGreatDoor.Vot

namespace Go.Proofs.YtflgkplneekpfaaGreatDoor.Laid

theorem cell_int {P : Program} {W : World} {r : Reach} {base : Nat} {i : TypeId} {v : Value} (hi : P.underlying i = some (.int .i64)) (h : Cell.okWide P W r base i v) :
    ∃ a : Int, v = .int .i64 a ∧ -9223372036854775808 ≤ a ∧ a ≤ 9223372036854775807 := by
  simp only [Cell.okWide, hi] at h
  cases v with
  | int k n =>
    simp only [Cell.ok, hi] at h
    obtain ⟨rfl, h1, h2⟩ := h
    exact ⟨n, rfl, h1, h2⟩
  | _ => simp [Cell.ok, hi] at h
theorem open_pair {P : Program} {W : World} {r : Reach} {base : Nat} {v : Value} {t i : TypeId} {fs : Array Field} (hu : P.underlying t = some (.struct fs)) (hct : P.cellTypes P.depth t = some [i, i]) (hc : P.cellsOf t = 2) (hi : P.underlying i = some (.int .i64))
    (h : Value.okWide P W r base t v) : ∃ a b : Int, v = .agg #[.int .i64 a, .int .i64 b] ∧ (-9223372036854775808 ≤ a ∧ a ≤ 9223372036854775807) ∧ -9223372036854775808 ≤ b ∧ b ≤ 9223372036854775807 := by
  simp only [Value.okWide, hu] at h
  obtain ⟨cs, rfl, hsz, ts, hts, -, hcell⟩ := h
  rw [hct] at hts
  obtain rfl := Option.some.inj hts
  rw [hc] at hsz
  obtain ⟨l⟩ := cs
  match l, hsz with
  | [c0, c1], _ =>
    obtain ⟨u0, h0, k0⟩ := hcell 0 c0 rfl
    obtain ⟨u1, h1, k1⟩ := hcell 1 c1 rfl
    obtain rfl := Option.some.inj h0
    obtain rfl := Option.some.inj h1
    obtain ⟨a, rfl, ha⟩ := cell_int hi k0
    obtain ⟨b, rfl, hb⟩ := cell_int hi k1
    exact ⟨a, b, rfl, ha, hb⟩
theorem open_i64 {P : Program} {W : World} {r : Reach} {base : Nat} {i : TypeId} {v : Value} (hi : P.underlying i = some (.int .i64)) (h : Value.okWide P W r base i v) :
    ∃ a : Int, v = .int .i64 a ∧ -9223372036854775808 ≤ a ∧ a ≤ 9223372036854775807 := by
  simp only [Value.okWide, hi] at h
  exact cell_int hi h
end Go.Proofs.YtflgkplneekpfaaGreatDoor.Laid

namespace Go.Proofs.YtflgkplneekpfaaGreatDoor.Post
open Go.ChangeShapes Go.WideShapes Go.ChangeAt Go.RowKit

theorem trodAll_below {H : Type} {enc : TypeId × Value → H} {P : Program} (hl : laidOutB P = true) {W W' : World} (hb : Below W.heap.size W W') :
    ∀ {ts : List TypeId} {vs : List Value} {ds : List (DataW H)} {ps : List MemPlace}, ts.all (fun t => P.readableRec t && decide (t < P.types.size)) = true → (∀ x ∈ ps, x.block < W.heap.size) →
      DataW.TrodAll enc P W 0 (fun _ => true) true ts vs ds ps → DataW.TrodAll enc P W' 0 (fun b => decide (b < W.heap.size)) true ts vs ds ps := by
  intro ts
  induction ts with
  | nil =>
    intro vs ds ps _ _ h
    obtain ⟨rfl, rfl, rfl⟩ := trodAll_nil h
    exact trodAll_mk0
  | cons t ts ih =>
    intro vs ds ps hr hlt h
    obtain ⟨v, vs', d, ds', p, q, rfl, rfl, rfl, h1, h2⟩ := trodAll_cons h
    simp only [List.all_cons, Bool.and_eq_true, decide_eq_true_eq] at hr
    exact trodAll_cons_mk (Below.trod hl hr.1.1 hr.1.2 h1 hb (fun x hx => hlt x (List.mem_append_left _ hx))) (ih (by simpa using hr.2) (fun x hx => hlt x (List.mem_append_right _ hx)) h2)

theorem law_post {H : Type} {enc : TypeId × Value → H} {P : Program} {f : Func} {s : ChangeSpec} {apart : Bool} {W W' : World} {args : Array Value} {ds gs : List (DataW H)} {before : List MemPlace} {tb : TypeId}
    (hl : laidOutB P = true) (hts : f.params.toList.all (fun t => P.readableRec t && decide (t < P.types.size)) = true) (hvs : varsRowed P s.vars = true)
    (hrt : f.resultTypes.toList = [tb]) (hn : f.resultTypes.size = 1) (hub : P.underlying tb = some .bool)
    (hW : DataW.Whole enc P f.params.toList s.vars apart W args.toList ds gs before)
    (hr : (s.fn H (ds ++ gs)).results = [.lit (.bool true)]) (ha : (s.fn H (ds ++ gs)).args = ds) (hv : (s.fn H (ds ++ gs)).vars = gs)
    (hb : Below W.heap.size W W') :
    s.post enc P f apart true false false W args (.bool true) W' := by
  have hW' := hW
  have hlt := hW.lt
  obtain ⟨p, q, hA, hV, rfl, hfz, hnd⟩ := hW
  refine ⟨ds, gs, p ++ q, [], p, q, hW', ?_, ?_, ?_, hb.frame _, fun h => by cases h⟩
  · rw [hr, hrt, hn]
    exact trodAll_mk1 (shut_bool hub true)
  · rw [ha]
    exact trodAll_below hl hb hts (fun x hx => hlt x (List.mem_append_left _ hx)) hA
  · rw [hv]
    exact Below.trodVars hl hb hvs hV

end Go.Proofs.YtflgkplneekpfaaGreatDoor.Post

namespace Go.Proofs.YtflgkplneekpfaaGreatDoor.Laid
open Go.ChangeShapes Go.WideShapes Go.ChangeAt Go.RowKit

theorem own : ownKnob Tryz.prog.godebug = none := by kernel_rfl
theorem laidOut : laidOutB Tryz.prog = true := by kernel_rfl
theorem gCon : Tryz.prog.globalNamed "agora/sum.constants" = some 1 := by kernel_rfl
theorem gIni : Tryz.prog.globalNamed "agora/sum.initial" = some 0 := by kernel_rfl
theorem gConType : (Tryz.prog.globals[(1 : Nat)]?).map (·.type) = some 212 := by kernel_rfl
theorem gIniType : (Tryz.prog.globals[(0 : Nat)]?).map (·.type) = some 161 := by kernel_rfl
theorem cells64 : Tryz.prog.cellsOf 212 = 64 := by kernel_rfl
theorem cells8 : Tryz.prog.cellsOf 161 = 8 := by kernel_rfl
theorem cells1 : Tryz.prog.cellsOf 160 = 1 := by kernel_rfl

theorem laidMet_rest {P : Program} {W : World} {x : String × DataW Unit} {name : String} {k : IntKind} {zs : List Int} {g : Nat} {t e : TypeId} {n : Nat}
    (hg : P.globalNamed name = some g) (hty : (P.globals[g]?).map (·.type) = some t) (ht : P.underlying t = some (.array n e)) (he : P.underlying e = some (.int k)) (hce : P.cellsOf e = 1) (hct : P.cellsOf t = n)
    (h : laidMet P [x, (name, Lib.tabData k zs)] W) : Lib.TabIs P W name k zs := by
  obtain ⟨ps, ⟨g', t', cs, fuel, p, q, hg', ht', hvar, hd, ⟨g2, t2, cs2, fuel2, p2, q2, hg2, ht2, hvar2, hd2, _, _⟩, _⟩, _⟩ := h
  obtain rfl := Option.some.inj (hg.symm.trans hg2)
  obtain rfl := Option.some.inj (hty.symm.trans ht2)
  unfold Lib.TabIs
  rw [hvar2, ← Lib.cells_of_tab ht he hce hct hd2]

theorem block_of {P : Program} {W : World} {name : String} {cs : Array Value} {g : Nat} (hg : P.globalNamed name = some g) (h : W.var? P name = some cs) : ∃ t fr, W.heap[g]? = some (.cells cs t fr) := by
  simp only [World.var?, hg, Option.bind_some] at h
  split at h
  · rename_i cs' t fr hh
    obtain rfl := Option.some.inj h
    exact ⟨t, fr, hh⟩
  · cases h
theorem lt_of {W : World} {g : Nat} {o : Obj} (h : W.heap[g]? = some o) : g < W.heap.size := (Array.getElem?_eq_some_iff.mp h).1

theorem tab {W : World} (h : laidMetH Tryz.prog [("agora/sum.constants", Rows.laid_agora_sum_constants), ("agora/sum.initial", Rows.laid_agora_sum_initial)] W) : Sha.Tab W := by
  have hc : Lib.TabIs Tryz.prog W "agora/sum.constants" .u32 Sha.KL := Lib.tabIs_of_head (rest := [("agora/sum.initial", Rows.laid_agora_sum_initial)]) gCon gConType Tryz.underlying212 Tryz.underlying160 cells1 cells64 h
  have hi : Lib.TabIs Tryz.prog W "agora/sum.initial" .u32 Sha.HL := laidMet_rest (x := ("agora/sum.constants", Rows.laid_agora_sum_constants)) gIni gIniType Tryz.underlying161 Tryz.underlying160 cells1 cells8 h
  obtain ⟨t1, f1, h1⟩ := block_of gCon hc
  obtain ⟨t2, f2, h2⟩ := block_of gIni hi
  exact ⟨⟨t2, f2, h2⟩, fun i hi => hc.cell gCon i hi, lt_of h2, lt_of h1⟩

/- A world for the witness: the settled one, the tables holding what the text lays. -/
def put (cs : Array Value) : Obj → Obj
  | .cells _ t frozen => .cells cs t frozen
  | o => o
noncomputable def laidWorld (os : Os) (args : Array Value) : World :=
  { World.holding Tryz.prog os ⟨#[], args, []⟩ with heap := ((World.holding Tryz.prog os ⟨#[], args, []⟩).heap.modify 1 (put (Sha.KL.map fun z => Value.int .u32 z).toArray)).modify 0 (put (Sha.HL.map fun z => Value.int .u32 z).toArray) }
end Go.Proofs.YtflgkplneekpfaaGreatDoor.Laid
