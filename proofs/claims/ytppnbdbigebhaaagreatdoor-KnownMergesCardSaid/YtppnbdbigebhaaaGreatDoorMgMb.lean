/-
  The state of known.Union: the pool, the order and the set of digests, step by step.
  known.Union.
  DERIVED: THE SHELF's CONTRACTS AT THIS DUMP, IN PLAIN WORDS (tools/lay-plain.mjs out of 'TryzSort.lean', which tools/lay-shelf.mjs wrote): THE SAME DECLARATIONS UNDER THE SAME NAMES: 'import', 'namespace', 'open', 'def', 'theorem' AND NOTHING ELSE: no command of the shelf's: FOR A HAND-IN. Each laying: the table of numbers ('.._ren') and one theorem, a field a fact of the dump's own or the kernel's comparison; each contract: ONE APPLICATION.
  What pick lays down, and how it is sorted: cmp.Or, cmp.Compare at strings, pick's comparison at ballots. The stable sort of fewer than twenty ballots, as pick calls it. What known.Ballots wants of an item: its closure. known.pick at ballots: what is wanted of the items, sorted. known.Ballots. What a right key signs is accepted; the key of the seed "a". No walk in this text. The small example of the laws about known sets, as plain data: a signed ballot in a set of its own. No walk in this text. What the walk of the laws' small example asks of the program's functions. The walk of agoralaw14.small.
  What an argument's type gives: a struct of two integers. How the contract of a law becomes its row: the law returns true, and below the heap's old size nothing has changed, so every argument reads as before. What the rows' list of tables gives: package sum's two tables hold what the text says; and a world for the witness.
-/
import Derived.Test.YtppnbdbigebhaaaGreatDoorMgMa
import Derived.Deep.Cut
import Derived.Shelf.SlGeneric
import Derived.Shelf.SlSortCmp.InsertionK
import Derived.Ground.SlsfProg
import Derived.Test.YtppnbdbigebhaaaGreatDoorProg
import Derived.Test.YtppnbdbigebhaaaGreatDoorIdent2
import Derived.Test.YtppnbdbigebhaaaGreatDoorBld2
import Derived.Test.YtppnbdbigebhaaaGreatDoorItemZ
import Derived.Test.YtppnbdbigebhaaaGreatDoorItemD
import Derived.Test.YtppnbdbigebhaaaGreatDoorSignWalk
import Derived.WideShapes
import Derived.ProofKit
import Derived.OpenShut
import Derived.OpenVars
import Derived.Test.YtppnbdbigebhaaaGreatDoorCards
import Derived.Test.YtppnbdbigebhaaaGreatDoorTie
import Derived.Test.YtppnbdbigebhaaaGreatDoorShaMix
import Derived.Deep.DeepHandedRow
import Derived.Lib.LaidTab
set_option linter.unusedVariables false
set_option linter.unusedSimpArgs false
namespace Go.Proofs.YtppnbdbigebhaaaGreatDoor.Mem
open Go.RowKit Grp

theorem DSet.keep {w w' : World} {b : Nat} {ds : List ByteArray} (h : DSet w b ds) (hb : w'.heap[b]? = w.heap[b]?) : DSet w' b ds := by
  obtain ⟨L, ⟨h0, es, clock, h1, h2⟩, h3, h4⟩ := h
  exact ⟨L, ⟨h0, es, clock, hb.trans h1, h2⟩, h3, h4⟩
/-- append onto an own row: it stays where it is, or goes to a new block. -/
theorem run_append_new {P : Program} (w : World) (base : Nat) (t ty e : TypeId) (i : TypeInfo) (z : Value) (size bytes : Nat) (ht : P.underlying t = some (.slice e)) (hi : P.info? e = some i) (hz : i.zero = some z)
    (hsize : i.size = size) (hby : i.bytes = bytes) (hzs : z.cells.size = size) (hsz : 0 < size)
    (A : Option Addr) (n cap : Nat) (xs : List Value) (hown : Owns w base e size (.slice A n cap) n xs)
    (a : Addr) (m c : Nat) (news : List Value) (hl : news.length = m * size) (hnews : ∀ j u, news[j]? = some u → w.cell? (a.add j) = some u) (h1 : ∀ u ∈ news, u.oneCell' = true)
    (h63 : n + m ≤ maxLen) (hbytes : (n + m) * bytes ≤ 140737488355328) (hbase : base ≤ w.heap.size) :
    ∃ A' cap' w', (Builtin.append_ #[t, t] ty #[.slice A n cap, .slice (some a) m c]).run P w = .ok (.slice A' (n + m) cap') w' ∧ Owns w' base e size (.slice A' (n + m) cap') (n + m) (xs ++ news) ∧ w.grownBy w' (Value.slice A n cap).ownBlock ∧ ∀ k, (Value.slice A' (n + m) cap').ownBlock = some k → (Value.slice A n cap).ownBlock = some k ∨ w.heap.size ≤ k := by
  rcases hown.2 with ⟨hv, hn⟩ | ⟨g, cap0, cur, fz, hv, hbg, hg, hfz, hnc, hcm, hcs, htake⟩
  · injection hv with hA hN hC
    subst hA
    subst hn
    subst hC
    obtain ⟨v', w', h1, h2, h3⟩ := run_append_owns (P := P) w w.heap.size t ty e i z size bytes ht hi hz hsize hby hzs hsz (.slice none 0 0) 0 xs ⟨hown.1, .inl ⟨rfl, rfl⟩⟩ a m c news hl hnews h1 h63 hbytes (Nat.le_refl _)
    obtain ⟨A', cap', rfl, hc1, hc2⟩ := h2.shape
    exact ⟨A', cap', w', h1, h2.low hbase, h3, fun k hk => .inr (h2.lt k hk).1⟩
  · injection hv with hA hN hC
    subst hA
    subst hC
    by_cases hroom : n + m ≤ cap
    · obtain ⟨W, hst, hO, hF, hL⟩ := hown.store_ext (P := P) (n * size) (n + m) news (Nat.le_refl _) (by rw [hl, Nat.add_mul]) hroom h1
      have hr := run_append_of t ty e i size g n cap a m c news ht hi hsize hl hnews hroom hst
      rw [List.take_of_length_le (by rw [hown.1]; exact Nat.le_refl _)] at hO
      refine ⟨_, _, W, hr, hO, ?_, fun k hk => .inl hk⟩
      have hb := hL 0 (Nat.zero_le _)
      exact ⟨hb.os, hb.tape, hb.output, hb.size, fun k _ hk => hF k fun e => hk (by simp [Value.ownBlock, e])⟩
    · subst hsize
      subst hby
      have holds : ∀ j u, xs[j]? = some u → w.cell? ((⟨g, 0, none⟩ : Addr).add j) = some u := hown.cells (g := g) rfl
      have hlen : (xs ++ news).length = (n + m) * i.size := by rw [List.length_append, hown.1, hl, Nat.add_mul]
      have hr := run_append_grow (P := P) w t ty e i z ht hi hz ⟨g, 0, none⟩ n cap xs hown.1 holds a m c news hl hnews (by omega) (by simp only [maxLen] at h63; omega) (growslice_fits (by omega) hbytes)
      have hge := grownCap_ge w (n + m) cap e
      have hcm2 : grownCap w (n + m) cap e ≤ maxLen := grownCap_le_maxLen w (n + m) cap e h63
      refine ⟨_, _, _, hr, ⟨hlen, .inr ⟨w.heap.size, _, _, (0, 0), rfl, hbase, heap_alloc_new w.drew _, .inl rfl, hge, hcm2, ?_, ?_⟩⟩, ⟨rfl, rfl, rfl, by simp, fun k hk _ => Below.heap_alloc w.drew _ k hk⟩, fun k hk => .inr (by simp [Value.ownBlock] at hk; omega)⟩
      · simp only [Array.size_append, List.size_toArray, size_zeroCells, hzs, hown.1, hl, ← Nat.add_mul]
        congr 1
        omega
      · simp only [Array.toList_append, List.append_assoc]
        rw [← List.append_assoc, ← hlen]
        exact List.take_left
end Go.Proofs.YtppnbdbigebhaaaGreatDoor.Mem

namespace Go.Proofs.YtppnbdbigebhaaaGreatDoor.Known
open Go.RowKit Grp Mem _root_.Go.Proofs.YtppnbdbigebhaaaGreatDoor.Code Sha Sign _root_.Go.Proofs.YtppnbdbigebhaaaGreatDoor.Item

/-- One place behind the others, where there is room. -/
theorem append_pl (base g cap vb : Nat) (pl : List PlR) (p : PlR) (w : World) (hown : Owns w base 85 2 (.slice (some ⟨g, 0, none⟩) pl.length cap) pl.length (pl.flatMap plC)) (hroom : pl.length + 1 ≤ cap) (hv : Blk w vb 85 (plC p).toArray) :
    ∃ W, (∀ ty, (Builtin.append_ #[82, 82] ty #[.slice (some ⟨g, 0, none⟩) pl.length cap, .slice (some ⟨vb, 0, none⟩) 1 1]).run Tryz.prog w = .ok (.slice (some ⟨g, 0, none⟩) (pl.length + 1) cap) W) ∧ InsIs w W base g cap (pl ++ [p]) := by
  obtain ⟨i0, hi, hz0, hz1, hz2⟩ := info_parts place_info
  obtain ⟨W, hst, hO, hF, hL⟩ := hown.store_ext (P := Tryz.prog) (pl.length * 2) (pl.length + 1) (plC p) (Nat.le_refl _) (by rw [pl_len]; omega) hroom (pl_one p)
  refine ⟨W, fun ty => run_append_of 82 ty 85 i0 2 g pl.length cap ⟨vb, 0, none⟩ 1 1 (plC p) Tryz.underlying82 hi hz1 rfl (lit_src hv) hroom hst, ?_, fun k _ => hF k, hL⟩
  rw [← flatP_len, List.take_length] at hO
  rw [List.length_append, List.flatMap_append, List.flatMap_singleton]
  exact hO
structure UnSt (w3 z : World) (gO gM cap : Nat) (A : Option Addr) (c : Nat) (pool : List ItemR) (pl : List PlR) (ds : List ByteArray) : Prop where
  q : Q w3 z
  hO : w3.heap.size ≤ gO
  hM : w3.heap.size ≤ gM
  ne : gO ≠ gM
  capM : cap ≤ maxLen
  order : Owns z w3.heap.size 85 2 (.slice (some ⟨gO, 0, none⟩) pl.length cap) pl.length (pl.flatMap plC)
  map : DSet z gM ds
  row : Owns z w3.heap.size 54 49 (.slice A pool.length c) pool.length (pool.flatMap ItemR.cells)
  pnO : (Value.slice A pool.length c).ownBlock ≠ some gO
  pnM : (Value.slice A pool.length c).ownBlock ≠ some gM
section
variable {w3 z z1 : World} {gO gM cap c : Nat} {A : Option Addr} {pool : List ItemR} {pl : List PlR} {ds : List ByteArray}
theorem UnSt.on (h : UnSt w3 z gO gM cap A c pool pl ds) (hq : Q z z1) : UnSt w3 z1 gO gM cap A c pool pl ds :=
  ⟨Q.trans h.q hq, h.hO, h.hM, h.ne, h.capM, h.order.q hq, h.map.q hq, h.row.q hq, h.pnO, h.pnM⟩
/-- The order's row is written anew. -/
theorem UnSt.ins (h : UnSt w3 z gO gM cap A c pool pl ds) {W : World} {pl' : List PlR} (hi : InsIs z W w3.heap.size gO cap pl') : UnSt w3 W gO gM cap A c pool pl' ds :=
  ⟨Below.trans h.q (hi.low _ h.hO), h.hO, h.hM, h.ne, h.capM, hi.own, h.map.keep (hi.far gM h.map.lt (Ne.symm h.ne)), h.row.keep fun k hk => hi.far k (h.row.lt k hk).2 (fun e => h.pnO (e ▸ hk)), h.pnO, h.pnM⟩
theorem UnSt.snoc (h : UnSt w3 z gO gM cap A c pool pl ds) (p : PlR) (hroom : pl.length + 1 ≤ cap) : ∃ W, (∀ ty, (Builtin.append_ #[82, 82] ty #[.slice (some ⟨gO, 0, none⟩) pl.length cap, .slice (some ⟨z.heap.size, 0, none⟩) 1 1]).run Tryz.prog (z.alloc (.cells (plC p).toArray 85)) = .ok (.slice (some ⟨gO, 0, none⟩) (pl.length + 1) cap) W) ∧ UnSt w3 W gO gM cap A c pool (pl ++ [p]) ds := by
  have h1 := h.on (q_new z (plC p).toArray 85)
  obtain ⟨W, hr, hi⟩ := append_pl w3.heap.size gO cap z.heap.size pl p _ h1.order hroom (Blk.new z 85 (plC p).toArray)
  exact ⟨W, hr, h1.ins hi⟩
theorem UnSt.put (h : UnSt w3 z gO gM cap A c pool pl ds) (d : ByteArray) : ∃ W, (Instr.mapUpdate 83 (.map (some gM)) (.string d) (.bool true)).run Tryz.prog z = .ok () W ∧ (∀ g, g ≠ gM → W.heap[g]? = z.heap[g]?) ∧ UnSt w3 W gO gM cap A c pool pl (ds ++ [d]) := by
  obtain ⟨W, hr, hD, hs, hB, hf⟩ := h.map.put (P := Tryz.prog) Tryz.underlying83 Tryz.underlying9 d
  exact ⟨W, hr, hf, Below.trans h.q (hB _ h.hM), h.hO, h.hM, h.ne, h.capM, h.order.keep fun k hk => hf k (fun e => h.ne (by simp [Value.ownBlock] at hk; omega)), hD, h.row.keep fun k hk => hf k (fun e => h.pnM (e ▸ hk)), h.pnO, h.pnM⟩
theorem UnSt.add (h : UnSt w3 z gO gM cap A c pool pl ds) (x : ItemR) (hn : pool.length ≤ 100000) : ∃ A' c' W, (∀ ty, (Builtin.append_ #[23, 23] ty #[.slice A pool.length c, .slice (some ⟨z.heap.size, 0, none⟩) 1 1]).run Tryz.prog (z.alloc (.cells (itA x) 54)) = .ok (.slice A' (pool.length + 1) c') W) ∧ UnSt w3 W gO gM cap A' c' (pool ++ [x]) pl ds := by
  obtain ⟨i0, hi, hz0, hz1, hz2⟩ := info_parts item_info
  have h1 := h.on (q_new z (itA x) 54)
  have hsz := h1.q.size
  obtain ⟨A', c', W, hr, hO, hG, hN⟩ := run_append_new (P := Tryz.prog) (z.alloc (.cells (itA x) 54)) w3.heap.size 23 0 54 i0 _ 49 568 Tryz.underlying23 hi hz0 hz1 hz2 rfl (by decide) A pool.length c (pool.flatMap ItemR.cells) h1.row ⟨z.heap.size, 0, none⟩ 1 1 x.cells (by rw [it_len]) (lit_src (Blk.new z 54 (itA x))) (it_one x) (by simp only [maxLen]; omega) (by omega) hsz
  have hmg := h1.map.lt
  have hog := (h1.order.lt gO rfl).2
  have hne : ∀ k, k < (z.alloc (.cells (itA x) 54)).heap.size → (Value.slice A pool.length c).ownBlock ≠ some k → (Value.slice A' (pool.length + 1) c').ownBlock ≠ some k := fun k hk h2 h3 => by
    rcases hN k h3 with h4 | h4
    · exact h2 h4
    · omega
  refine ⟨A', c', W, fun ty => hr, Below.grown h1.q hG hsz fun k hk => (h1.row.lt k hk).1, h.hO, h.hM, h.ne, h.capM, h1.order.grown hG (.inl fun e => h.pnO (by rw [← e]; rfl)), h1.map.keep (hG.block gM hmg fun e => h.pnM e.symm), ?_, ?_, ?_⟩
  · rw [List.length_append, List.flatMap_append, List.flatMap_singleton]
    exact hO
  · rw [List.length_append]
    exact hne gO hog h.pnO
  · rw [List.length_append]
    exact hne gM hmg h.pnM
end

/-! ### The order of the items that are known so far -/
structure OrdIs (pool : List ItemR) (pl : List PlR) (cur : List ItemR) : Prop where
  digs : pl.map (fun x : PlR => x.1) = digs cur
  at_ : pl.map (fun p : PlR => pool[p.2]?) = cur.map some
theorem OrdIs.len {pool : List ItemR} {pl : List PlR} {cur : List ItemR} (h : OrdIs pool pl cur) : pl.length = cur.length := by
  have := congrArg List.length h.digs
  rwa [List.length_map, digs_len] at this
theorem OrdIs.get {pool : List ItemR} {pl : List PlR} {cur : List ItemR} (h : OrdIs pool pl cur) (j : Nat) (hj : j < pl.length) (hc : j < cur.length) : pool[pl[j].2]? = some cur[j] := by
  have h1 : (pl.map (fun p : PlR => pool[p.2]?))[j]? = (cur.map some)[j]? := by rw [h.at_]
  rw [List.getElem?_map, List.getElem?_map, List.getElem?_eq_getElem hj, List.getElem?_eq_getElem hc] at h1
  exact Option.some.inj h1
theorem OrdIs.nil (pool : List ItemR) : OrdIs pool [] [] := ⟨rfl, rfl⟩
theorem OrdIs.snoc {pl : List PlR} {l : List ItemR} {j : Nat} (h : OrdIs l pl (l.take j)) (hj : j < l.length) : OrdIs l (pl ++ [(digOf l[j], j)]) (l.take (j + 1)) := by
  rw [List.take_succ_eq_append_getElem hj]
  refine ⟨?_, ?_⟩
  · rw [List.map_append, h.digs]
    unfold Known.digs
    rw [List.map_append]
    rfl
  · rw [List.map_append, h.at_, List.map_append]
    simp [hj]
theorem OrdIs.ins {pool : List ItemR} {pl : List PlR} {cur : List ItemR} (h : OrdIs pool pl cur) (x : ItemR) : OrdIs (pool ++ [x]) (insP pl (idxP (digOf x) pl) (digOf x, pool.length)) (insK cur x) := by
  have hi : idxP (digOf x) pl = cutK (digOf x) (Known.digs cur) := by unfold idxP; rw [h.digs]
  have hk : pl.map (fun p : PlR => (pool ++ [x])[p.2]?) = cur.map some := by
    rw [← h.at_]
    refine List.map_congr_left fun p hp => ?_
    have hm : (pool[p.2]?) ∈ pl.map (fun p : PlR => pool[p.2]?) := List.mem_map.2 ⟨p, hp, rfl⟩
    rw [h.at_] at hm
    obtain ⟨y, _, hy⟩ := List.mem_map.1 hm
    have hlt : p.2 < pool.length := (List.getElem?_eq_some_iff.1 hy.symm).1
    exact List.getElem?_append_left hlt
  rw [hi]
  unfold insP insK
  refine ⟨?_, ?_⟩
  · rw [List.map_append, List.map_cons, List.map_take, List.map_drop, h.digs]
    simp [Known.digs]
  · rw [List.map_append, List.map_cons, List.map_take, List.map_drop, hk, List.map_append, List.map_cons, List.map_take, List.map_drop]
    simp
theorem memB_digs (l : List ItemR) (d : ByteArray) : memB (digs l) d = hasD l d := rfl
theorem memB_ins (cur : List ItemR) (x : ItemR) (ds : List ByteArray) (h : ∀ d, memB ds d = hasD cur d) (d : ByteArray) : memB (ds ++ [digOf x]) d = hasD (insK cur x) d := by
  rw [memB_snoc, h, Bool.eq_iff_iff, Bool.or_eq_true, hasD_iff, hasD_iff, decide_eq_true_eq]
  unfold digs
  simp only [List.mem_map]
  constructor
  · rintro (⟨y, hy, h⟩ | rfl)
    · exact ⟨y, (mem_insK cur x y).2 (.inr hy), h⟩
    · exact ⟨x, (mem_insK cur x x).2 (.inl rfl), rfl⟩
  · rintro ⟨y, hy, h⟩
    rcases (mem_insK cur x y).1 hy with rfl | hy
    · exact .inr h
    · exact .inl ⟨y, hy, h⟩
end Go.Proofs.YtppnbdbigebhaaaGreatDoor.Known

namespace Go.Proofs.YtppnbdbigebhaaaGreatDoor.Known
open Go.RowKit Grp Mem _root_.Go.Proofs.YtppnbdbigebhaaaGreatDoor.Code Sha Sign _root_.Go.Proofs.YtppnbdbigebhaaaGreatDoor.Item

set_option maxRecDepth 100000 in
set_option maxHeartbeats 2000000 in
theorem union_no (a b : KR) (w : World) (hT : Tab w) (hA : KIn w a) (hB : KIn w b) (hsv : decide (a.sv = b.sv) = false) : Calls Tryz.prog 10 #[.agg (knA a), .agg (knA b)] w (KnownIs a.sv (unionK a b) w) := by
  obtain ⟨w3, hC, hw3⟩ := UniCtx.new w a b
  have aS : ∀ y : Wd w3, y.w.cell? ⟨w.heap.size, 0, none⟩ = some (.slice a.sA a.sv.length a.sC) := fun y => (y.blk hC.ba).cell 0
  have bS : ∀ y : Wd w3, y.w.cell? ⟨w.heap.size + 1, 0, none⟩ = some (.slice b.sA b.sv.length b.sC) := fun y => (y.blk hC.bb).cell 0
  have hLa : ∀ y : Wd w3, (Instr.loadAt 25 (.pointer (some ⟨w.heap.size, 0, none⟩))).run Tryz.prog y.w = .ok (.agg (knA a)) y.w := Wd.load hC.ba.lt (Blk.range hC.ba) Tryz.underlying25 rfl (by kernel_rfl)
  have hBr : ∀ y : Wd w3, Blk y.w (w.heap.size + 1 + 1) 25 known0.cells.toArray := fun y => y.blk hC.br
  have hs1 : a.sv.length ≤ 9223372036854775807 := by have h8 := hA.svC.1; have h9 := hA.svC.2; simp only [maxLen] at h9; omega
  have hs2 : b.sv.length ≤ 9223372036854775807 := by have h8 := hB.svC.1; have h9 := hB.svC.2; simp only [maxLen] at h9; omega
  have hse := fun y : Wd w3 => eqInts_any a.sA b.sA a.sC b.sC a.sv b.sv y.w hs1 hs2 (hA.sv.q (Q.trans hC.q y.q)) (hB.sv.q (Q.trans hC.q y.q))
  have HQ := Lib.hid hC.q
  obtain ⟨u, hu⟩ : ∃ u : Wd w3, u.w = w3 := ⟨⟨w3, Q.refl _⟩, rfl⟩
  have HX := Lib.hid (hu.trans hw3)
  clear hu hw3 hC
  rw [hsv] at hse
  have HU := Lib.hid (show unionK a b = a.l by unfold unionK; rw [if_neg (of_decide_eq_false hsv)])
  have HK := Lib.hid (fun W (hq : Q w W) => hA.q hq)
  clear hsv hA hB
  go_enter Tryz.func10, Tryz.ntmps10
  go_upto_region 1 with (fail)
  refine (show Code.wp _ _ _ _ u.w → Code.wp _ _ _ _ _ from fun h => by rw [HX.out] at h; exact h) ?_
  go_wp2_with (first | (go_at_call 45; refine (hse _).mono ?_; rintro e w' ⟨rfl, hq2⟩; obtain ⟨y, rfl⟩ := Wd.next _ hq2; clear hq2) | (refine wpList_load_run 25 (.tmp 2) (.pointer (some ⟨w.heap.size, 0, none⟩)) (.agg (knA a)) ?_ ?_ ?_ ?_ ?_; rfl; rfl; rfl; exact hLa _) | (refine wpList_store_far (hBr _) rfl 25 (.tmp 4) (.tmp 24) a.cells rfl rfl rfl (by kernel_rfl) (kn_all _) (Nat.le_refl 2) ?_))
  intro W hW hbel hfar
  rw [splice_all _ _ (by rfl)] at hW
  have hqW : Q w W := hbel _ _ (by omega) (Q.trans HQ.out (Wd.q _))
  clear hbel hfar
  go_wp2_with fail
  exact bodyPost_ret (results_cell_row rfl _ _ (w.heap.size + 1 + 1) 25 (knA a) (0, 0) _ rfl hW Tryz.underlying25 rfl (by kernel_rfl)) rfl ⟨a, rfl, rfl, HU.out.symm, HK.out _ hqW, hqW⟩

/-- What holds of the pool, the order and the set after j items of b. -/
structure Un2 (a b : KR) (j : Nat) (pool : List ItemR) (pl : List PlR) (ds : List ByteArray) : Prop where
  ord : OrdIs pool pl (fillK a.sv a.l (b.l.take j))
  mem : ∀ d, memB ds d = hasD (fillK a.sv a.l (b.l.take j)) d
  len : pool.length ≤ a.l.length + j
  each : ∀ x ∈ pool, x ∈ a.l ∨ x ∈ b.l
theorem Un2.skip {a b : KR} {j : Nat} {pool : List ItemR} {pl : List PlR} {ds : List ByteArray} (h : Un2 a b j pool pl ds) (hj : j < b.l.length) (hk : addOk a.sv (fillK a.sv a.l (b.l.take j)) b.l[j] = false) : Un2 a b (j + 1) pool pl ds := by
  have e : fillK a.sv a.l (b.l.take (j + 1)) = fillK a.sv a.l (b.l.take j) := by
    rw [fill_at _ _ _ _ hj]
    unfold addK
    rw [hk]
    rfl
  exact ⟨by rw [e]; exact h.ord, by rw [e]; exact h.mem, by have := h.len; omega, h.each⟩
theorem Un2.take {a b : KR} {j : Nat} {pool : List ItemR} {pl : List PlR} {ds : List ByteArray} (h : Un2 a b j pool pl ds) (hj : j < b.l.length) (hk : addOk a.sv (fillK a.sv a.l (b.l.take j)) b.l[j] = true) : Un2 a b (j + 1) (pool ++ [b.l[j]]) (insP pl (idxP (digOf b.l[j]) pl) (digOf b.l[j], pool.length)) (ds ++ [digOf b.l[j]]) := by
  have e : fillK a.sv a.l (b.l.take (j + 1)) = insK (fillK a.sv a.l (b.l.take j)) b.l[j] := by
    rw [fill_at _ _ _ _ hj]
    unfold addK
    rw [hk]
    rfl
  refine ⟨by rw [e]; exact h.ord.ins _, by rw [e]; exact memB_ins _ _ _ h.mem, by have := h.len; rw [List.length_append, List.length_singleton]; omega, fun x hx => ?_⟩
  rcases List.mem_append.1 hx with hx | hx
  · exact h.each x hx
  · rw [List.mem_singleton] at hx
    rw [hx]
    exact .inr (List.getElem_mem hj)
theorem Un2.room {a b : KR} {j : Nat} {pool : List ItemR} {pl : List PlR} {ds : List ByteArray} (h : Un2 a b j pool pl ds) (hj : j < b.l.length) : pl.length + 1 ≤ a.l.length + b.l.length := by
  have h1 := h.ord.len
  have h2 := fillK_length a.sv (b.l.take j) a.l
  rw [List.length_take] at h2
  omega
theorem signed_not (sv : List Int) (x : ItemR) (h : itemRight x = false) : signedB sv x = false := by
  unfold signedB
  rw [h]
  rfl

set_option maxRecDepth 100000 in
set_option maxHeartbeats 8000000 in
theorem union_yes (a b : KR) (w : World) (hT : Tab w) (hA : KIn w a) (hB : KIn w b) (hn : a.l.length + b.l.length ≤ 100000) (hsv : decide (a.sv = b.sv) = true) : Calls Tryz.prog 10 #[.agg (knA a), .agg (knA b)] w (KnownIs a.sv (unionK a b) w) := by
  obtain ⟨w3, hC, hw3⟩ := UniCtx.new w a b
  have aS : ∀ y : Wd w3, y.w.cell? ⟨w.heap.size, 0, none⟩ = some (.slice a.sA a.sv.length a.sC) := fun y => (y.blk hC.ba).cell 0
  have aI : ∀ y : Wd w3, y.w.cell? ⟨w.heap.size, 1, none⟩ = some (.slice a.iA a.l.length a.iC) := fun y => (y.blk hC.ba).cell 1
  have bS : ∀ y : Wd w3, y.w.cell? ⟨w.heap.size + 1, 0, none⟩ = some (.slice b.sA b.sv.length b.sC) := fun y => (y.blk hC.bb).cell 0
  have bI : ∀ y : Wd w3, y.w.cell? ⟨w.heap.size + 1, 1, none⟩ = some (.slice b.iA b.l.length b.iC) := fun y => (y.blk hC.bb).cell 1
  have hBr : ∀ y : Wd w3, Blk y.w (w.heap.size + 1 + 1) 25 known0.cells.toArray := fun y => y.blk hC.br
  have hs1 : a.sv.length ≤ 9223372036854775807 := by have h8 := hA.svC.1; have h9 := hA.svC.2; simp only [maxLen] at h9; omega
  have hs2 : b.sv.length ≤ 9223372036854775807 := by have h8 := hB.svC.1; have h9 := hB.svC.2; simp only [maxLen] at h9; omega
  have hsl : a.sv.length ≤ maxLen := Nat.le_trans hA.svC.1 hA.svC.2
  have hse := fun y : Wd w3 => eqInts_any a.sA b.sA a.sC b.sC a.sv b.sv y.w hs1 hs2 (hA.sv.q (Q.trans hC.q y.q)) (hB.sv.q (Q.trans hC.q y.q))
  have hcl := fun y : Wd w3 => cloneI_any a.iA a.iC a.l y.w (hA.items.rows.q (Q.trans hC.q y.q)) (by omega)
  have hKa : ∀ y : Wd w3, KIn y.w a := fun y => hA.q (Q.trans hC.q y.q)
  have hKb : ∀ y : Wd w3, KIn y.w b := fun y => hB.q (Q.trans hC.q y.q)
  have hTy : ∀ y : Wd w3, Tab y.w := fun y => hT.q (Q.trans hC.q y.q)
  have hg3 := hC.br.lt
  have HQ := Lib.hid hC.q
  obtain ⟨u, hu⟩ : ∃ u : Wd w3, u.w = w3 := ⟨⟨w3, Q.refl _⟩, rfl⟩
  have HX := Lib.hid (hu.trans hw3)
  clear hu hw3 hC
  rw [hsv] at hse
  have HU := Lib.hid (show unionK a b = fillK a.sv a.l b.l by unfold unionK; rw [if_pos (of_decide_eq_true hsv)])
  have HA := Lib.hid hA
  have HB := Lib.hid hB
  clear hsv hA hB hT
  have hmm := @run_makeMap Tryz.prog
  have hw1 : IntKind.i64.wrap ((a.l.length : Int) + (b.l.length : Int)) = (a.l.length : Int) + (b.l.length : Int) := by rw [IntKind.wrap_i64]; omega
  obtain ⟨i1, hi, hz0, hz1, hz2⟩ := info_parts place_info
  obtain ⟨N, hN⟩ : ∃ N : Nat, N = a.l.length + b.l.length := ⟨_, rfl⟩
  have HN := Lib.hid hN
  clear hN
  go_enter Tryz.func10, Tryz.ntmps10
  go_upto_region 1 with (fail)
  refine (show Code.wp _ _ _ _ u.w → Code.wp _ _ _ _ _ from fun h => by rw [HX.out] at h; exact h) ?_
  go_upto_region 4 with (first | (go_at_call 45; refine (hse _).mono ?_; rintro e w' ⟨rfl, hq2⟩; obtain ⟨y, rfl⟩ := Wd.next _ hq2; clear hq2) | (go_at_call 46; refine (hcl _).mono ?_; rintro e w' ⟨A1, c1, rfl, hO1, hq2⟩; have hyz := y.q.size; obtain ⟨y2, rfl⟩ := Wd.next _ hq2; clear hq2))
  replace hO1 := hO1.low hyz
  clear hse hcl
  go_wp2_with (refine wpList_make_own _ rfl _ _ 82 rfl w3.heap.size 85 i1 _ 2 Tryz.underlying82 hi hz0 hz1 .i64 .i64 ((a.l.length : Int) + (b.l.length : Int)) N rfl rfl (by have := HN.out; omega) (by have := HN.out; rw [hz2]; omega) (by have := HN.out; simp only [maxLen]; omega) y2.q.size ?_)
  intro w4 hown0 hg0
  go_upto_region 6 with (fail)
  have hgw : y2.w.heap.size < w4.heap.size := ((Owns.of hown0).lt _ rfl).2
  have hq4 : Q w3 w4 := Below.grown y2.q hg0 y2.q.size (fun _ h => by cases h)
  have hq5 : Q w3 (w4.alloc (.map #[] 0)) := qa hq4 _
  have hS0 : UnSt w3 (w4.alloc (.map #[] 0)) y2.w.heap.size w4.heap.size N A1 c1 a.l [] ((digs a.l).take 0) :=
    ⟨hq5, y2.q.size, hq4.size, by omega, by have := HN.out; simp only [maxLen]; omega, (Owns.of hown0).alloc _, DSet.made w4, (hO1.grown hg0 (by
      cases hb : (Value.slice A1 a.l.length c1).ownBlock with
      | none => exact .inr rfl
      | some g => exact .inl (by simp))).alloc _, fun e => by have := (hO1.lt _ e).2; omega, fun e => by have := (hO1.lt _ e).2; omega⟩
  obtain ⟨y4, hy4⟩ : ∃ y4 : Wd w3, w4.alloc (.map #[] 0) = y4.w := ⟨⟨_, hq5⟩, rfl⟩
  rw [hy4] at hS0
  rw [hy4]
  generalize y2.w.heap.size = gO at *
  generalize w4.heap.size = gM at *
  clear hy4 hq5 hq4 hgw hown0 hg0 hO1 hyz
  go_wp2_with fail
  go_loopw [6, 39] (fun o i wr => ∃ (j : Nat) (pl : List PlR) (z : Wd w3), o = .slice (some ⟨gO, 0, none⟩) pl.length N ∧ i = .int .i64 j ∧ wr = z.w ∧ j ≤ a.l.length ∧ UnSt w3 z.w gO gM N A1 c1 a.l pl ((digs a.l).take j) ∧ Hid (OrdIs a.l pl (a.l.take j))) (fun _ i _ => a.l.length - (intOf i).toNat)
  case atStart => exact ⟨0, [], y4, rfl, rfl, rfl, Nat.zero_le _, hS0, Lib.hid (by rw [List.take_zero]; exact OrdIs.nil _)⟩
  case round =>
    obtain ⟨j, pl, z, rfl, rfl, rfl, hj, hS, hO⟩ := hrel
    by_cases hlt : j < a.l.length
    · have hpl : pl.length = j := by have := hO.out.len; rw [List.length_take] at this; omega
      have hIn : ItemsIn z.w A1 a.l := ⟨Owns.rows it_len hS.row rfl, fun x hx => (hKa z).items.each x hx⟩
      obtain ⟨bb, o, eA, hb, hld⟩ := hIn.load j hlt
      have hio := fun y : Wd z.w => (hIn.each _ (List.getElem_mem hlt)).q y.q
      have HTK := Lib.hid (digs_take a.l j hlt)
      have HOS := Lib.hid (hO.out.snoc hlt)
      have hroom : pl.length + 1 ≤ N := by have := HN.out; omega
      have HP := Lib.hid hpl
      have hjl : (j : Int) < (a.l.length : Int) := by omega
      clear hKa hKb hS0 hIn hpl hO
      generalize a.l[j] = it at *
      rw [eA]
      have HE := Lib.hid eA
      go_wp2_with (first | (refine wpList_load_run 54 (.tmp 42) (.pointer (some ⟨bb, o + j * 49, none⟩)) (.agg (itA it)) ?_ ?_ ?_ ?_ ?_; rfl; rfl; rfl; exact hld ⟨_, Q.refl _⟩) | (refine wpList_store_blk (Blk.new z.w 54 item0.cells.toArray) rfl 54 (.tmp 9) (.tmp 43) it.cells rfl rfl rfl (by kernel_rfl) (it_all _) (Nat.le_refl 49) ?_))
      intro W hW hbel
      rw [splice_all _ _ (by rfl)] at hW
      have hqz : Q z.w W := hbel _ _ (Nat.le_refl _) (q_new _ _ _)
      have hLi : ∀ y : Wd W, (Instr.loadAt 54 (.pointer (some ⟨z.w.heap.size, 0, none⟩))).run Tryz.prog y.w = .ok (.agg (itA it)) y.w := Wd.load hW.lt (Blk.range hW) Tryz.underlying54 rfl (by kernel_rfl)
      have hdg := fun y : Wd W => digest_any it y.w ((hTy z).q (Q.trans hqz y.q)) (hio ⟨y.w, Q.trans hqz y.q⟩)
      have hSW := hS.on hqz
      obtain ⟨v, hv⟩ := Wd.first W
      rw [hv]
      clear hW hbel hld hv hqz hio hTy hS
      generalize digOf it = d2 at *
      go_wp2_with (first | (refine wpList_load_run 54 (.tmp 9) (.pointer (some ⟨z.w.heap.size, 0, none⟩)) (.agg (itA it)) ?_ ?_ ?_ ?_ ?_; rfl; rfl; rfl; exact hLi _) | (go_at_call 40; refine (hdg _).mono ?_; rintro e w' ⟨rfl, hq2⟩; obtain ⟨y5, rfl⟩ := Wd.next _ hq2; clear hq2; obtain ⟨W6, hr6, hS6⟩ := (hSW.on y5.q).snoc (d2, j) hroom; obtain ⟨W7, hr7, hf7, hS7⟩ := hS6.put d2; clear hf7) | (at_builtin; refine wpList_append_runP (.tmp 46) (.tmp 50) 82 rfl rfl _ _ rfl rfl (hr6 _) ?_) | (refine wpList_mapUpdate_run 83 (.tmp 52) (.tmp 53) (.const (.bool true)) _ _ _ rfl rfl rfl rfl rfl hr7 ?_))
      exact ⟨⟨j + 1, pl ++ [(d2, j)], ⟨W7, hS7.q⟩, by rw [List.length_append]; rfl, by go_num, rfl, by omega, by rw [HTK.out, ← HE.out]; exact hS7, HOS⟩, by simp only [intOf]; omega⟩
    · have hjn : j = a.l.length := by omega
      have hO' := hO.out
      rw [hjn, List.take_length] at hO'
      rw [hjn, List.take_of_length_le (by rw [digs_len]; exact Nat.le_refl _)] at hS
      have hU0 : Un2 a b 0 a.l pl (digs a.l) := ⟨by rw [List.take_zero]; exact hO', fun d => by rw [List.take_zero]; exact memB_digs a.l d, Nat.le_refl _, fun x hx => .inl hx⟩
      have HU0 := Lib.hid hU0
      clear hjn hU0 hO' hO hS0
      go_wp2_with fail
      go_loopw [5, 6, 58] (fun p o i wr => ∃ (j : Nat) (pool : List ItemR) (pl : List PlR) (ds : List ByteArray) (A : Option Addr) (c : Nat) (z : Wd w3), p = .slice A pool.length c ∧ o = .slice (some ⟨gO, 0, none⟩) pl.length N ∧ i = .int .i64 j ∧ wr = z.w ∧ j ≤ b.l.length ∧ UnSt w3 z.w gO gM N A c pool pl ds ∧ Hid (Un2 a b j pool pl ds)) (fun _ _ i _ => b.l.length - (intOf i).toNat)
      case atStart => exact ⟨0, a.l, pl, digs a.l, A1, c1, z, rfl, rfl, rfl, rfl, Nat.zero_le _, hS, HU0⟩
      case round =>
        clear hS HU0 hj hlt
        obtain ⟨j2, pool, pl2, ds, A2, c2, z2, rfl, rfl, rfl, rfl, hj2, hS2, hU2⟩ := hrel
        by_cases hlt2 : j2 < b.l.length
        · obtain ⟨bb, o, eB, hb, hld⟩ := (hKb z2).items.load j2 hlt2
          have hio := fun y : Wd z2.w => ((hKb z2).items.each _ (List.getElem_mem hlt2)).q y.q
          have hjl : (j2 : Int) < (b.l.length : Int) := by omega
          have hroom := hU2.out.room hlt2
          have hpoolN : pool.length ≤ 100000 := by have := hU2.out.len; omega
          have HSK := Lib.hid (hU2.out.skip hlt2)
          have HTA := Lib.hid (hU2.out.take hlt2)
          have hmem := hU2.out.mem (digOf b.l[j2])
          have HOK : Hid (addOk a.sv (fillK a.sv a.l (b.l.take j2)) b.l[j2] = (signedB a.sv b.l[j2] && !hasD (fillK a.sv a.l (b.l.take j2)) (digOf b.l[j2]))) := Lib.hid rfl
          rw [← hmem] at HOK
          have hSg := signed_not a.sv b.l[j2]
          have hgoz : gO < z2.w.heap.size := (hS2.order.lt gO rfl).2
          have hgmz : gM < z2.w.heap.size := hS2.map.lt
          rw [eB]
          clear hKb eB hU2 hmem
          generalize addOk a.sv (fillK a.sv a.l (b.l.take j2)) b.l[j2] = ok at *
          generalize b.l[j2] = it at *
          go_wp2_with (first | (refine wpList_load_run 54 (.tmp 60) (.pointer (some ⟨bb, o + j2 * 49, none⟩)) (.agg (itA it)) ?_ ?_ ?_ ?_ ?_; rfl; rfl; rfl; exact hld ⟨_, Q.refl _⟩) | (refine wpList_store_blk (Blk.new z2.w 54 item0.cells.toArray) rfl 54 (.tmp 12) (.tmp 61) it.cells rfl rfl rfl (by kernel_rfl) (it_all _) (Nat.le_refl 49) ?_))
          intro W hW hbel
          rw [splice_all _ _ (by rfl)] at hW
          have hqz : Q z2.w W := hbel _ _ (Nat.le_refl _) (q_new _ _ _)
          have hLi : ∀ y : Wd W, (Instr.loadAt 54 (.pointer (some ⟨z2.w.heap.size, 0, none⟩))).run Tryz.prog y.w = .ok (.agg (itA it)) y.w := Wd.load hW.lt (Blk.range hW) Tryz.underlying54 rfl (by kernel_rfl)
          have hIW : ∀ y : Wd W, ItemIn y.w it := fun y => hio ⟨y.w, Q.trans hqz y.q⟩
          have hTW : ∀ y : Wd W, Tab y.w := fun y => (hTy z2).q (Q.trans hqz y.q)
          have haW : ∀ y : Wd W, y.w.cell? ⟨w.heap.size, 0, none⟩ = some (.slice a.sA a.sv.length a.sC) := fun y => aS ⟨y.w, Q.trans (Q.trans z2.q hqz) y.q⟩
          have hdg := fun y : Wd W => digest_any it y.w (hTW y) (hIW y)
          have hrt := fun y : Wd W => itemRight_any it y.w (hIW y)
          have hsg := fun y : Wd W => signed_any a.sA a.sC a.sv it y.w (hTW y) (hIW y) ((hKa ⟨y.w, Q.trans (Q.trans z2.q hqz) y.q⟩).sv) hsl
          have hSW := hS2.on hqz
          obtain ⟨v, hv⟩ := Wd.first W
          rw [hv]
          clear hbel hld hv hio hTy hS2 aS
          cases hr : itemRight it
          · have hs := hSg hr
            rw [hr] at hrt
            rw [hs] at HOK
            have HU3 := Lib.hid (HSK.out HOK.out)
            clear hsg hs hr hSg
            go_wp2_with (first | (refine wpList_load_run 54 (.tmp 12) (.pointer (some ⟨z2.w.heap.size, 0, none⟩)) (.agg (itA it)) ?_ ?_ ?_ ?_ ?_; rfl; rfl; rfl; exact hLi _) | (go_at_call 20; refine (hrt _).mono ?_; rintro e w' ⟨rfl, hq2⟩; obtain ⟨y5, rfl⟩ := Wd.next _ hq2; clear hq2))
            exact ⟨⟨j2 + 1, pool, pl2, ds, A2, c2, ⟨y5.w, (hSW.on y5.q).q⟩, rfl, rfl, by go_num, rfl, by omega, hSW.on y5.q, HU3⟩, by simp only [intOf]; omega⟩
          · rw [hr] at hrt
            clear hr hSg
            cases hs : signedB a.sv it
            · rw [hs] at HOK hsg
              have HU3 := Lib.hid (HSK.out HOK.out)
              clear hs
              go_wp2_with (first | (refine wpList_load_run 54 (.tmp 12) (.pointer (some ⟨z2.w.heap.size, 0, none⟩)) (.agg (itA it)) ?_ ?_ ?_ ?_ ?_; rfl; rfl; rfl; exact hLi _) | (go_at_call 20; refine (hrt _).mono ?_; rintro e w' ⟨rfl, hq2⟩; obtain ⟨y5, rfl⟩ := Wd.next _ hq2; clear hq2) | (go_at_call 47; refine (hsg _).mono ?_; rintro e w' ⟨rfl, hq2⟩; obtain ⟨y6, rfl⟩ := Wd.next _ hq2; clear hq2))
              exact ⟨⟨j2 + 1, pool, pl2, ds, A2, c2, ⟨y6.w, (hSW.on y6.q).q⟩, rfl, rfl, by go_num, rfl, by omega, hSW.on y6.q, HU3⟩, by simp only [intOf]; omega⟩
            · rw [hs] at HOK hsg
              clear hs
              go_upto_region 18 with (first | (refine wpList_load_run 54 (.tmp 12) (.pointer (some ⟨z2.w.heap.size, 0, none⟩)) (.agg (itA it)) ?_ ?_ ?_ ?_ ?_; rfl; rfl; rfl; exact hLi _) | (go_at_call 20; refine (hrt _).mono ?_; rintro e w' ⟨rfl, hq2⟩; obtain ⟨y5, rfl⟩ := Wd.next _ hq2; clear hq2) | (go_at_call 47; refine (hsg _).mono ?_; rintro e w' ⟨rfl, hq2⟩; obtain ⟨y6, rfl⟩ := Wd.next _ hq2; clear hq2) | (go_at_call 40; refine (hdg _).mono ?_; rintro e w' ⟨rfl, hq2⟩; obtain ⟨y7, rfl⟩ := Wd.next _ hq2; clear hq2))
              generalize z2.w.heap.size = g12 at *
              have h12 : g12 < W.heap.size := hW.lt
              have hS8 := (hSW.on y7.q).on (q_new y7.w #[.string (digOf it)] 9)
              have hb13 := Blk.new y7.w 9 #[.string (digOf it)]
              have hb12 := (hW.q y7.q).alloc (.cells #[.string (digOf it)] 9)
              have h13 : W.heap.size ≤ y7.w.heap.size := y7.q.size
              obtain ⟨W8, hW8⟩ : ∃ W8, y7.w.alloc (.cells #[.string (digOf it)] 9) = W8 := ⟨_, rfl⟩
              rw [hW8] at hS8 hb13 hb12
              rw [hW8]
              clear hW8 hW hLi hdg hrt hsg hSW haW
              generalize y7.w.heap.size = g13 at *
              generalize digOf it = d2 at *
              have hlk := hS8.map.lookup (P := Tryz.prog) Tryz.underlying83 Tryz.underlying9 (by intro w; kernel_rfl) d2
              have c13 : W8.cell? ⟨g13, 0, none⟩ = some (.string d2) := hb13.cell 0
              have HWq := Lib.hid (Q.trans z2.q hqz)
              clear hqz
              cases hM : memB ds d2
              rotate_left
              · rw [hM] at hlk HOK
                have HU3 := Lib.hid (HSK.out HOK.out)
                clear hM
                go_wp2_with fail
                exact ⟨⟨j2 + 1, pool, pl2, ds, A2, c2, ⟨W8, hS8.q⟩, rfl, rfl, by go_num, rfl, by omega, hS8, HU3⟩, by simp only [intOf]; omega⟩
              · rw [hM] at hlk HOK
                have HU3 := Lib.hid (HTA.out HOK.out)
                clear hM HSK HTA
                obtain ⟨W9, hr9, hf9, hS9⟩ := hS8.put d2
                have hb13b : Blk W9 g13 9 #[.string d2] := (hf9 g13 (by omega)).trans hb13
                have hb12b : Blk W9 g12 54 it.cells.toArray := (hf9 g12 (by omega)).trans hb12
                have hidx := idx_any (some ⟨gO, 0, none⟩) N pl2 d2 g13 W9 (Owns.rows pl_len hS9.order rfl) (by omega) (hb13b.cell 0) hb13b.lt
                clear hS8 hf9 hb13 hb12
                go_upto_region 21 with (first | (refine wpList_mapUpdate_run 83 (.tmp 77) (.tmp 78) (.const (.bool true)) _ _ _ rfl rfl rfl rfl rfl hr9 ?_) | (go_at_call 48; refine hidx.mono ?_; rintro e w10 ⟨rfl, hq10⟩))
                have hS10 := hS9.on hq10
                have hb12c := hb12b.q hq10
                have c13d : w10.cell? ⟨g13, 0, none⟩ = some (.string d2) := (hb13b.q hq10).cell 0
                have hS11 := hS10.on (q_new w10 (plC (d2, pool.length)).toArray 85)
                have hne10 : w10.heap.size ≠ gO := by have := (hS10.order.lt gO rfl).2; omega
                have hroomN : pl2.length + 1 ≤ N := by have := HN.out; omega
                have hile := idxP_le d2 pl2
                clear hidx hr9 hlk c13 hS9 hb12b hb13b
                obtain ⟨i, hix⟩ : ∃ i, idxP d2 pl2 = i := ⟨_, rfl⟩
                rw [hix] at hile
                by_cases hlt3 : i < pl2.length
                · have hV : idxV d2 pl2 = (i : Int) := by unfold idxV; rw [hix, if_pos hlt3]
                  rw [hV]
                  have HIX := Lib.hid hix
                  clear hV hix
                  go_upto_region 23 with (fail)
                  have hins := insert_mid w3.heap.size gO N w10.heap.size i pl2 (d2, pool.length) _ hS11.order hlt3 hroomN hS11.capM (Blk.new w10 85 (plC (d2, pool.length)).toArray) hne10
                  go_upto_region 24 with (go_at_call 50; refine hins.mono ?_; rintro e W12 ⟨rfl, hI12⟩)
                  have hS12 := hS11.ins hI12
                  have hb12d : Blk W12 g12 54 it.cells.toArray := (hI12.far g12 (hb12c.alloc _).lt (by omega)).trans (hb12c.alloc _)
                  have hL12 : (Instr.loadAt 54 (.pointer (some ⟨g12, 0, none⟩))).run Tryz.prog W12 = .ok (.agg (itA it)) W12 := run_loadAt_mid W12 g12 0 54 it.cells _ (Blk.range hb12d) Tryz.underlying54 rfl (by kernel_rfl)
                  obtain ⟨A3, c3, W13, hr13, hS13⟩ := hS12.add it hpoolN
                  clear hins hI12 hS12 hS11 hS10 hb12c hb12d c13d
                  refine wp_region_lit ?_
                  refine wpList_move (.tmp 5) (.slice A2 pool.length c2) rfl rfl rfl ?_
                  dsimp only [Act.put]
                  simp only [List.setIfInBounds_toArray, List.set_cons_succ, List.set_cons_zero]
                  refine wpList_load_run 54 (.tmp 12) (.pointer (some ⟨g12, 0, none⟩)) (.agg (itA it)) rfl rfl rfl hL12 ?_
                  dsimp only [Act.put]
                  simp only [List.setIfInBounds_toArray, List.set_cons_succ, List.set_cons_zero]
                  refine wpList_buildSlice_run 23 1 _ #[(0, .agg (itA it))] _ rfl rfl (by simp only [List.map_toArray, List.map_cons, List.map_nil]; rfl) (bs_item it _) ?_
                  dsimp only [Act.put]
                  simp only [List.setIfInBounds_toArray, List.set_cons_succ, List.set_cons_zero]
                  refine wpList_append_runP (.tmp 94) (.tmp 96) 23 rfl rfl (.slice A2 pool.length c2) (.slice (some ⟨W12.heap.size, 0, none⟩) 1 1) rfl rfl (hr13 _) ?_
                  dsimp only [Act.put]
                  simp only [List.setIfInBounds_toArray, List.set_cons_succ, List.set_cons_zero]
                  clear hr13 hL12
                  go_wp2_with fail
                  refine ⟨⟨j2 + 1, pool ++ [it], insP pl2 i (d2, pool.length), ds ++ [d2], A3, c3, ⟨W13, hS13.q⟩, by rw [List.length_append]; rfl, by rw [insP_len _ _ _ (by omega)], by go_num, rfl, by omega, hS13, Lib.hid (by have h := HU3.out; rw [HIX.out] at h; exact h)⟩, by simp only [intOf]; omega⟩
                · obtain rfl : i = pl2.length := by omega
                  have hV : idxV d2 pl2 = -1 := by unfold idxV; rw [hix, if_neg hlt3]
                  rw [hV]
                  have HIX := Lib.hid hix
                  clear hV hix
                  go_upto_region 23 with (fail)
                  have hins := insert_end w3.heap.size gO N w10.heap.size pl2 (d2, pool.length) _ hS11.order hroomN hS11.capM (Blk.new w10 85 (plC (d2, pool.length)).toArray)
                  go_upto_region 24 with (go_at_call 50; refine hins.mono ?_; rintro e W12 ⟨rfl, hI12⟩)
                  have hS12 := hS11.ins hI12
                  have hb12d : Blk W12 g12 54 it.cells.toArray := (hI12.far g12 (hb12c.alloc _).lt (by omega)).trans (hb12c.alloc _)
                  have hL12 : (Instr.loadAt 54 (.pointer (some ⟨g12, 0, none⟩))).run Tryz.prog W12 = .ok (.agg (itA it)) W12 := run_loadAt_mid W12 g12 0 54 it.cells _ (Blk.range hb12d) Tryz.underlying54 rfl (by kernel_rfl)
                  obtain ⟨A3, c3, W13, hr13, hS13⟩ := hS12.add it hpoolN
                  clear hins hI12 hS12 hS11 hS10 hb12c hb12d c13d
                  refine wp_region_lit ?_
                  refine wpList_move (.tmp 5) (.slice A2 pool.length c2) rfl rfl rfl ?_
                  dsimp only [Act.put]
                  simp only [List.setIfInBounds_toArray, List.set_cons_succ, List.set_cons_zero]
                  refine wpList_load_run 54 (.tmp 12) (.pointer (some ⟨g12, 0, none⟩)) (.agg (itA it)) rfl rfl rfl hL12 ?_
                  dsimp only [Act.put]
                  simp only [List.setIfInBounds_toArray, List.set_cons_succ, List.set_cons_zero]
                  refine wpList_buildSlice_run 23 1 _ #[(0, .agg (itA it))] _ rfl rfl (by simp only [List.map_toArray, List.map_cons, List.map_nil]; rfl) (bs_item it _) ?_
                  dsimp only [Act.put]
                  simp only [List.setIfInBounds_toArray, List.set_cons_succ, List.set_cons_zero]
                  refine wpList_append_runP (.tmp 94) (.tmp 96) 23 rfl rfl (.slice A2 pool.length c2) (.slice (some ⟨W12.heap.size, 0, none⟩) 1 1) rfl rfl (hr13 _) ?_
                  dsimp only [Act.put]
                  simp only [List.setIfInBounds_toArray, List.set_cons_succ, List.set_cons_zero]
                  clear hr13 hL12
                  go_wp2_with fail
                  refine ⟨⟨j2 + 1, pool ++ [it], insP pl2 pl2.length (d2, pool.length), ds ++ [d2], A3, c3, ⟨W13, hS13.q⟩, by rw [List.length_append]; rfl, by rw [insP_len _ _ _ (by omega)], by go_num, rfl, by omega, hS13, Lib.hid (by have h := HU3.out; rw [HIX.out] at h; exact h)⟩, by simp only [intOf]; omega⟩
        · have hjn2 : j2 = b.l.length := by omega
          have hU3 := hU2.out
          rw [hjn2] at hU3
          have hOr := hU3.ord
          rw [List.take_length] at hOr
          have hcl3 := fillK_length a.sv b.l a.l
          have hEc := fill_mem a.sv b.l a.l
          obtain ⟨cur, hcur⟩ : ∃ cur, fillK a.sv a.l b.l = cur := ⟨_, rfl⟩
          rw [hcur] at hOr hcl3 hEc
          have HCU := Lib.hid hcur
          have hpl := hOr.len
          have hRo := Owns.rows pl_len hS2.order rfl
          have hRp := Owns.rows it_len hS2.row rfl
          have hpN : pl2.length ≤ 100000 := by omega
          obtain ⟨i0, hi0, hy0, hy1, hy2⟩ := info_parts item_info
          have HEC := Lib.hid hEc
          have HPL := Lib.hid hpl
          clear hU3 hU2 hjn2 hcur hS2 hKb hTy hEc hpl hcl3 hi hz0 hz1 hz2 hmm
          go_wp2_with (refine wpList_make_own _ rfl _ _ 23 rfl z2.w.heap.size 54 i0 _ 49 Tryz.underlying23 hi0 hy0 hy1 .i64 .i64 (pl2.length : Int) pl2.length rfl rfl (by omega) (by rw [hy2]; omega) (by simp only [maxLen]; omega) (Nat.le_refl _) ?_)
          intro w14 hown0 hg0
          have hown : Owns w14 z2.w.heap.size 54 49 (.slice (some ⟨z2.w.heap.size, 0, none⟩) 0 pl2.length) 0 ((cur.take 0).flatMap ItemR.cells) := Owns.of hown0
          have hq14 : Q z2.w w14 := Below.grown (Q.refl _) hg0 (Nat.le_refl _) (fun _ h => by cases h)
          obtain ⟨y14, rfl⟩ : ∃ y14 : Wd z2.w, w14 = y14.w := ⟨⟨w14, hq14⟩, rfl⟩
          clear hown0 hg0 hq14
          go_wp2_with fail
          go_loopw [15, 104] (fun q i wr => ∃ (j : Nat) (A : Option Addr) (c : Nat) (y : Wd z2.w), q = .slice A j c ∧ i = .int .i64 j ∧ wr = y.w ∧ j ≤ pl2.length ∧ Owns y.w z2.w.heap.size 54 49 (.slice A j c) j ((cur.take j).flatMap ItemR.cells)) (fun _ i _ => pl2.length - (intOf i).toNat)
          case atStart => exact ⟨0, _, _, y14, rfl, rfl, rfl, Nat.zero_le _, hown⟩
          case round =>
            clear hown
            obtain ⟨j3, A4, c4, y3, rfl, rfl, rfl, hj3, hown⟩ := hrel
            by_cases hlt3 : j3 < pl2.length
            · have hlt3c : j3 < cur.length := by have := HPL.out; omega
              have hget := hOr.get j3 hlt3 hlt3c
              obtain ⟨bo, oo, eo, hbo, hco⟩ := hRo (by omega)
              injection eo with eo
              injection eo with eo1 eo2
              subst eo1
              subst eo2
              have hldp : (Instr.loadAt 85 (.pointer (some ⟨gO, j3 * 2, none⟩))).run Tryz.prog y3.w = .ok (.agg (plC pl2[j3]).toArray) y3.w := Wd.load hbo (by simpa using hco j3 hlt3) Tryz.underlying85 rfl (by kernel_rfl) y3
              have hTK := Lib.hid (List.take_succ_eq_append_getElem hlt3c)
              obtain ⟨⟨d, k⟩, hp⟩ : ∃ p, pl2[j3] = p := ⟨_, rfl⟩
              rw [hp] at hldp hget
              dsimp only at hget
              have hkl : k < pool.length := (List.getElem?_eq_some_iff.1 hget).1
              have hgk : pool[k] = cur[j3] := (List.getElem?_eq_some_iff.1 hget).2
              obtain ⟨bp, op, ep, hbp, hcp⟩ := hRp (by omega)
              have hck := hcp k hkl
              rw [hgk] at hck
              have hkI : (k : Int) < (pool.length : Int) := by omega
              have hj3I : (j3 : Int) < (pl2.length : Int) := by omega
              rw [ep]
              clear hco hcp hget hgk hp hRo hRp hOr
              generalize cur[j3] = it at *
              have hldp : (Instr.loadAt 85 (.pointer (some ⟨gO, j3 * 2, none⟩))).run Tryz.prog y3.w = .ok (.agg #[.string d, .int .i64 (k : Int)]) y3.w := hldp
              go_upto_region 30 with (refine wpList_load_run 85 (.tmp 106) (.pointer (some ⟨gO, j3 * 2, none⟩)) (.agg #[.string d, .int .i64 (k : Int)]) ?_ ?_ ?_ ?_ ?_; rfl; rfl; rfl; exact hldp)
              have hW := Blk.new y3.w 85 #[.string d, .int .i64 (k : Int)]
              have hqz := q_new y3.w #[.string d, .int .i64 (k : Int)] 85
              obtain ⟨W, hWe⟩ : ∃ W, y3.w.alloc (.cells #[.string d, .int .i64 (k : Int)] 85) = W := ⟨_, rfl⟩
              rw [hWe] at hW hqz
              rw [hWe]
              have hc1 : W.cell? ⟨y3.w.heap.size, 1, none⟩ = some (.int .i64 (k : Int)) := hW.cell 1
              have hLi : (Instr.loadAt 54 (.pointer (some ⟨bp, op + k * 49, none⟩))).run Tryz.prog W = .ok (.agg (itA it)) W := Wd.load hbp hck Tryz.underlying54 rfl (by kernel_rfl) ⟨W, Q.trans y3.q hqz⟩
              have hownA := (hown.q hqz).alloc (.cells (itA it) 54)
              have hqA : Q z2.w (W.alloc (.cells (itA it) 54)) := Q.trans (Q.trans y3.q hqz) (q_new _ _ _)
              have hj3N : j3 + 1 ≤ 1000000 := by omega
              have hrow1 := RowsAt.one (f := ItemR.cells) (k := 49) W 54 it (itA it) rfl
              have hsA := hqA.size
              clear hW hqz hown hldp hck hbp hWe
              go_wp2_with (first | (refine wpList_load_run 54 (.tmp 112) (.pointer (some ⟨bp, op + k * 49, none⟩)) (.agg (itA it)) ?_ ?_ ?_ ?_ ?_; rfl; rfl; rfl; exact hLi) | (refine wpList_buildSlice_run 23 1 _ #[(0, .agg (itA it))] _ rfl rfl (by simp only [List.map_toArray, List.map_cons, List.map_nil]; rfl) (bs_item it _) ?_) | (at_builtin; refine wpList_append_rows it_len it_one rfl (.tmp 108) (.tmp 114) 23 54 i0 _ 568 rfl Tryz.underlying23 hi0 hy0 hy1 hy2 rfl (by decide) (by decide) z2.w.heap.size (.slice A4 j3 c4) j3 (cur.take j3) rfl hownA (some ⟨W.heap.size, 0, none⟩) 1 1 [it] rfl hrow1 rfl hj3N hsA ?_))
              intro A5 c5 W5 hc5 hm5 hown5 hg5
              have hq5 : Q z2.w W5 := q_grown hqA (Nat.le_refl _) hownA hg5
              have HO5 := Lib.hid hown5
              clear hown5 hg5 hownA hqA hrow1 hLi
              go_wp2_with fail
              exact ⟨⟨j3 + 1, A5, c5, ⟨W5, hq5⟩, rfl, by go_num, rfl, by omega, by rw [hTK.out, List.flatMap_append, List.flatMap_singleton]; exact HO5.out⟩, by simp only [intOf]; omega⟩
            · obtain rfl : j3 = cur.length := by have := HPL.out; omega
              rw [List.take_length] at hown
              obtain ⟨hc6, hm6⟩ : cur.length ≤ c4 ∧ c4 ≤ maxLen := by
                obtain ⟨A6, c6, e6, h1, h2⟩ := hown.shape
                injection e6 with _ _ e
                subst e
                exact ⟨h1, h2⟩
              have hlj3 : ¬ ((cur.length : Int) < (pl2.length : Int)) := by have := HPL.out; omega
              have hbase : ∀ bk o, A4 = some ⟨bk, o, none⟩ → z2.w.heap.size ≤ bk := fun bk o e => (hown.lt bk (by rw [e]; rfl)).1
              have hr8 : RowsAt y3.w A4 49 ItemR.cells cur := Owns.rows it_len hown rfl
              have hz2s := z2.q.size
              have aSz : y3.w.cell? ⟨w.heap.size, 0, none⟩ = some (.slice a.sA a.sv.length a.sC) := aS ⟨y3.w, Q.trans z2.q y3.q⟩
              have hBz : Blk y3.w (w.heap.size + 1 + 1) 25 known0.cells.toArray := hBr ⟨y3.w, Q.trans z2.q y3.q⟩
              clear hown hRo hRp hOr hlt3
              go_wp2_with (refine wpList_store_far hBz rfl 25 (.tmp 4) (.tmp 120) (KR.mk a.sv a.sA a.sC cur A4 c4).cells rfl rfl rfl (by kernel_rfl) (kn_all _) (Nat.le_refl 2) ?_)
              intro W2 hW2 hbel2 hfar2
              rw [splice_all _ _ (by rfl)] at hW2
              have hq2 : Q w W2 := hbel2 _ _ (by omega) (Q.trans HQ.out (Q.trans z2.q y3.q))
              have hK2 : KIn W2 (KR.mk a.sv a.sA a.sC cur A4 c4) := ⟨HA.out.sv.q hq2, ⟨RowsAt_far hr8 fun bk o e => hfar2 bk (by have := hbase bk o e; omega), fun x hx => by
                rcases HEC.out x hx with h | h
                · exact (HA.out.items.each x h).q hq2
                · exact (HB.out.items.each x h).q hq2⟩, HA.out.svC, hc6, hm6⟩
              clear hbel2 hfar2
              go_wp2_with fail
              exact bodyPost_ret (results_cell_row rfl _ _ (w.heap.size + 1 + 1) 25 (knA (KR.mk a.sv a.sA a.sC cur A4 c4)) (0, 0) _ rfl hW2 Tryz.underlying25 rfl (by kernel_rfl)) rfl ⟨KR.mk a.sv a.sA a.sC cur A4 c4, rfl, rfl, (HU.out.trans HCU.out).symm, hK2, hq2⟩
theorem union_any (a b : KR) (w : World) (hT : Tab w) (hA : KIn w a) (hB : KIn w b) (hn : a.l.length + b.l.length ≤ 100000) : Calls Tryz.prog 10 #[.agg (knA a), .agg (knA b)] w (KnownIs a.sv (unionK a b) w) := by
  cases h : decide (a.sv = b.sv)
  · exact union_no a b w hT hA hB h
  · exact union_yes a b w hT hA hB hn h
end Go.Proofs.YtppnbdbigebhaaaGreatDoor.Known

namespace Go.Proofs
open Go.Shelf
def Tryz.insBallot_ren : Go.Shelf.Ren := ⟨fun | 20 => 222 | n => n, fun | 24 => 165 | 22 => 162 | 3 => 3 | 25 => 169 | 4 => 4 | 0 => 0 | n => n, fun | n => n⟩
theorem Tryz.insBallot : Go.Proofs.SlLaysF0.n20 Tryz.prog Tryz.insBallot_ren := {
  mixed := by kernel_rfl
  f20 := ⟨Tryz.f222.name, by decide, Tryz.func222.trans (congrArg some (by kernel_rfl))⟩
  t0 := Tryz.underlying0
  a0 := Tryz.isAgg0
  z0 := Tryz.sizeOf0
  v0 := Tryz.zeroValue0
  t3 := Tryz.underlying3
  a3 := Tryz.isAgg3
  z3 := Tryz.sizeOf3
  v3 := Tryz.zeroValue3
  t4 := Tryz.underlying4
  a4 := Tryz.isAgg4
  z4 := Tryz.sizeOf4
  v4 := Tryz.zeroValue4
  t22 := Tryz.underlying162
  a22 := Tryz.isAgg162
  z22 := Tryz.sizeOf162
  v22 := Tryz.zeroValue162
  t25 := Tryz.underlying169
  a25 := Tryz.isAgg169
  z25 := Tryz.sizeOf169
  v25 := Tryz.zeroValue169 }
def Tryz.insClaim_ren : Go.Shelf.Ren := ⟨fun | 20 => 235 | n => n, fun | 24 => 198 | 22 => 195 | 3 => 3 | 25 => 200 | 4 => 4 | 0 => 0 | n => n, fun | n => n⟩
theorem Tryz.insClaim : Go.Proofs.SlLaysF0.n20 Tryz.prog Tryz.insClaim_ren := {
  mixed := by kernel_rfl
  f20 := ⟨Tryz.f235.name, by decide, Tryz.func235.trans (congrArg some (by kernel_rfl))⟩
  t0 := Tryz.underlying0
  a0 := Tryz.isAgg0
  z0 := Tryz.sizeOf0
  v0 := Tryz.zeroValue0
  t3 := Tryz.underlying3
  a3 := Tryz.isAgg3
  z3 := Tryz.sizeOf3
  v3 := Tryz.zeroValue3
  t4 := Tryz.underlying4
  a4 := Tryz.isAgg4
  z4 := Tryz.sizeOf4
  v4 := Tryz.zeroValue4
  t22 := Tryz.underlying195
  a22 := Tryz.isAgg195
  z22 := Tryz.sizeOf195
  v22 := Tryz.zeroValue195
  t25 := Tryz.underlying200
  a25 := Tryz.isAgg200
  z25 := Tryz.sizeOf200
  v25 := Tryz.zeroValue200 }
end Go.Proofs

namespace Go.Proofs.YtppnbdbigebhaaaGreatDoor.Known
open Go.RowKit Grp Mem _root_.Go.Proofs.YtppnbdbigebhaaaGreatDoor.Code Sha Sign _root_.Go.Proofs.YtppnbdbigebhaaaGreatDoor.Item

/-- What pick lays down of a statement. -/
structure Found (α : Type) where
  rank : Int
  dig : ByteArray
  val : α
instance {α : Type} [Inhabited α] : Inhabited (Found α) := ⟨⟨0, emptyT, default⟩⟩
instance : Inhabited BallotV := ⟨ballot0⟩
def Found.cells {α : Type} (c : α → List Value) (x : Found α) : List Value := .int .i64 x.rank :: .string x.dig :: c x.val
abbrev fbC : Found BallotV → List Value := Found.cells BallotV.cells
theorem fb_len (x : Found BallotV) : (fbC x).length = 9 := rfl
theorem fb_one (x : Found BallotV) : ∀ v ∈ fbC x, v.oneCell' = true := by
  intro v hv
  simp only [fbC, Found.cells, BallotV.cells, List.mem_cons, List.not_mem_nil, or_false] at hv
  rcases hv with rfl | rfl | rfl | rfl | rfl | rfl | rfl | rfl | rfl <;> rfl
def cmpS (a b : ByteArray) : Int := if lessB a b then -1 else if lessB b a then 1 else 0
def orI (x y : Int) : Int := if x = 0 then y else x
def cmpF {α : Type} (x y : Found α) : Int := orI (Lib.compareInt x.rank y.rank) (cmpS x.dig y.dig)

theorem isNaNs_any (s : ByteArray) (w : World) : Calls Tryz.prog 196 #[.string s] w fun e w' => e = .returned (.bool false) ∧ w' = w := by
  go_enter Tryz.func196, Tryz.ntmps196
  go_wp2_with fail
  all_goals (go_ret; exact ⟨by simp, rfl⟩)

set_option maxHeartbeats 1000000 in
theorem compareS_any (a b : ByteArray) (w : World) : Calls Tryz.prog 131 #[.string a, .string b] w fun e w' => e = .returned (.int .i64 (cmpS a b)) ∧ w' = w := by
  have hle := leqB_eq a b
  have HR : Hid (cmpS a b = if lessB a b then -1 else if lessB b a then 1 else 0) := Lib.hid rfl
  have h3 := lessB_asymm (a := a) (b := b)
  cases h1 : lessB a b
  all_goals cases h2 : lessB b a
  all_goals
    rw [h1, h2] at HR
    have hls : Op.bytesLess a.toList b.toList = _ := h1
    rw [h2] at hle
  case true.true => rw [h3 h1] at h2; cases h2
  all_goals
    clear h1 h2 h3
    generalize cmpS a b = r at HR ⊢
    go_enter Tryz.func131, Tryz.ntmps131
    go_wp2_with (go_at_call 196; refine (isNaNs_any _ _).mono ?_; rintro e w' ⟨rfl, hw⟩; rw [hw])
    all_goals first
      | (go_ret; exact ⟨by rw [HR.out]; rfl, rfl⟩)
      | (simp_all)

theorem or_any (b o c : Nat) (x y : Int) (w : World) (h0 : w.cell? ⟨b, o, none⟩ = some (.int .i64 x)) (h1 : w.cell? ⟨b, o + 1, none⟩ = some (.int .i64 y)) : Calls Tryz.prog 129 #[.slice (some ⟨b, o, none⟩) 2 c] w fun e w' => e = .returned (.int .i64 (orI x y)) ∧ w' = w := by
  have h0' : w.cell? ⟨b, o + 0, none⟩ = some (.int .i64 x) := h0
  have HR : Hid (orI x y = if x = 0 then y else x) := Lib.hid rfl
  generalize orI x y = r at HR ⊢
  by_cases hx : x = 0
  · rw [if_pos hx] at HR
    by_cases hy : y = 0
    · go_enter Tryz.func129, Tryz.ntmps129
      go_wp2_with fail
      refine wp_loop_rounds 3 ?_
      rw [rounds_succ]
      go_wp2_with fail
      rw [rounds_succ]
      go_wp2_with fail
      rw [rounds_succ]
      go_wp2_with fail
      go_ret
      exact ⟨by rw [HR.out, hy]; rfl, rfl⟩
    · go_enter Tryz.func129, Tryz.ntmps129
      go_wp2_with fail
      refine wp_loop_rounds 2 ?_
      rw [rounds_succ]
      go_wp2_with fail
      rw [rounds_succ]
      go_wp2_with fail
      go_ret
      exact ⟨by rw [HR.out]; rfl, rfl⟩
  · rw [if_neg hx] at HR
    go_enter Tryz.func129, Tryz.ntmps129
    go_wp2_with fail
    refine wp_loop_rounds 1 ?_
    rw [rounds_succ]
    go_wp2_with fail
    go_ret
    exact ⟨by rw [HR.out]; rfl, rfl⟩

theorem grow3 (W : World) (n : Nat) (a b c : Obj) : (((W.alloc a).alloc b).drewN n).alloc c = Go.Sort.grow (W.drewN n) #[a, b, c] := by
  rw [Go.Sort.alloc_eq_grow, Go.Sort.alloc_eq_grow, Go.Sort.alloc_eq_grow]
  show Go.Sort.grow (Go.Sort.grow (Go.Sort.grow (W.drewN n) #[a]) #[b]) #[c] = _
  rw [Go.Sort.grow_grow, Go.Sort.grow_grow]
  rfl
set_option maxRecDepth 100000 in
set_option maxHeartbeats 1000000 in
/-- pick's comparison, at ballots: it lays blocks of its own alone. -/
theorem cmpB_any (x y : Found BallotV) (W : World) : Calls Tryz.prog 128 #[.agg (fbC x).toArray, .agg (fbC y).toArray] W fun e w' => e = .returned (.int .i64 (cmpF x y)) ∧ ∃ q os', w' = Go.Sort.grow (W.drewN q) os' := by
  have hci := fun W' => Tryz.cmp_Compare_int x.rank y.rank W'
  have hcs := fun W' => compareS_any x.dig y.dig W'
  have HR : Hid (cmpF x y = orI (Lib.compareInt x.rank y.rank) (cmpS x.dig y.dig)) := Lib.hid rfl
  generalize cmpF x y = r at HR ⊢
  have b1 := Blk.new W 165 (fbC x).toArray
  have b2 := Blk.new' (g := W.heap.size + 1) (W.alloc (.cells (fbC x).toArray 165)) 165 (fbC y).toArray (by simp)
  have b1 := b1.q (q_new (W.alloc (.cells (fbC x).toArray 165)) (fbC y).toArray 165)
  obtain ⟨W1, hW1⟩ : ∃ W1, W1 = (W.alloc (.cells (fbC x).toArray 165)).alloc (.cells (fbC y).toArray 165) := ⟨_, rfl⟩
  rw [← hW1] at b1 b2
  have c0 : ∀ n, (W1.drewN n).cell? ⟨W.heap.size, 0, none⟩ = some (.int .i64 x.rank) := fun n => b1.cell 0
  have c1 : ∀ n, (W1.drewN n).cell? ⟨W.heap.size, 1, none⟩ = some (.string x.dig) := fun n => b1.cell 1
  have c2 : ∀ n, (W1.drewN n).cell? ⟨W.heap.size + 1, 0, none⟩ = some (.int .i64 y.rank) := fun n => b2.cell 0
  have c3 : ∀ n, (W1.drewN n).cell? ⟨W.heap.size + 1, 1, none⟩ = some (.string y.dig) := fun n => b2.cell 1
  have HX := Lib.hid hW1
  clear hW1 b1 b2
  generalize Lib.compareInt x.rank y.rank = ri at *
  generalize cmpS x.dig y.dig = rs at *
  go_enter Tryz.func128, Tryz.ntmps128
  go_upto_region 1 with (fail)
  refine (show Code.wp _ _ _ _ W1 → Code.wp _ _ _ _ _ from fun h => by rw [HX.out] at h; exact h) ?_
  refine wp_region_open (C := fun w' => ∃ n, w' = W1.drewN n) 10 (by kernel_rfl) (by kernel_rfl) ⟨1, rfl⟩ ?_
  simp only [List.take_succ_cons, List.take_zero]
  repeat (quiet_step (first | (go_at_call 130; exact Calls.quiet_of_same (hci _)) | (go_at_call 131; exact Calls.quiet_of_same (hcs _))))
  refine wpQuiet_nil ?_
  rintro w' ⟨n, rfl⟩
  have hb := Blk.new (W1.drewN n) 3 #[.int .i64 ri, .int .i64 rs]
  have hor := or_any (W1.drewN n).heap.size 0 2 ri rs _ (hb.cell 0) (hb.cell 1)
  have HE : Hid (∃ q os', (W1.drewN n).alloc (.cells #[.int .i64 ri, .int .i64 rs] 3) = Go.Sort.grow (W.drewN q) os') := Lib.hid ⟨n, _, by rw [HX.out]; exact grow3 W n _ _ _⟩
  clear hb
  refine any_one 10 rfl (by kernel_rfl) rfl (fun K' hK' => ?_)
  go_simp
  refine hK' _ _ ?_
  clear hK' K'
  try simp only [Act.put, List.setIfInBounds_toArray, List.set_cons_succ, List.set_cons_zero]
  refine any_one 11 rfl (by kernel_rfl) rfl (fun K' hK' => ?_)
  go_simp
  refine hor.mono ?_
  rintro e w2 ⟨rfl, rfl⟩
  refine hK' _ _ ?_
  clear hK' K' hor
  try simp only [Act.put, List.setIfInBounds_toArray, List.set_cons_succ, List.set_cons_zero]
  rw [← HR.out]
  refine any_pure 12 (v := .int .i64 r) rfl (by kernel_rfl) (by kernel_rfl) (by kernel_rfl) (by intro c d v a w h; cases d <;> exact h) rfl (fun w => by rfl) ?_
  try simp only [Act.put, List.setIfInBounds_toArray, List.set_cons_succ, List.set_cons_zero]
  refine any_done (by kernel_rfl) ?_ _
  go_wp2_with fail
  go_ret
  exact ⟨rfl, HE.out⟩

end Go.Proofs.YtppnbdbigebhaaaGreatDoor.Known

namespace Go.Proofs.YtppnbdbigebhaaaGreatDoor.Known
open Go.RowKit Grp Mem _root_.Go.Proofs.YtppnbdbigebhaaaGreatDoor.Code Sha Sign _root_.Go.Proofs.YtppnbdbigebhaaaGreatDoor.Item

/-! ### Rows as the shelf's sort knows them -/
theorem holds_of {α : Type} [Inhabited α] {f : α → List Value} {k g n cap : Nat} {w : World} {base : Nat} {e : TypeId} {l : List α} (hk : ∀ x, (f x).length = k) (h : Owns w base e k (.slice (some ⟨g, 0, none⟩) n cap) n (l.flatMap f)) (hn : n = l.length) (h0 : 0 < n) : Go.Sort.HoldsK f k w g 0 l.toArray ∧ base ≤ g ∧ g < w.heap.size := by
  subst hn
  rcases h.2 with ⟨e1, h1⟩ | ⟨g', cap', cur, fz, hv, hb, hg, hlo, hnc, hcm, hcs, htk⟩
  · omega
  · injection hv with hA _ _
    injection hA with hA
    injection hA with hA
    subst hA
    refine ⟨fun t ht => ?_, hb, (Array.getElem?_eq_some_iff.1 hg).1⟩
    rw [Go.Sort.size_flatK, List.size_toArray] at ht
    have hk0 : 0 < k := by
      rcases Nat.eq_zero_or_pos k with h2 | h2
      · subst h2; simp at ht
      · exact h2
    have h1 : t / k < l.length := Nat.div_lt_of_lt_mul (by rwa [Nat.mul_comm] at ht)
    have h2 := Nat.mod_lt t hk0
    have hcur : t < cur.size := by
      rw [hcs]
      have := Nat.mul_le_mul_right k hnc
      omega
    have e1 : cur[t]? = some (f l[t / k])[t % k]! := by
      have h3 : (cur.toList.take (l.length * k))[t]? = (l.flatMap f)[t]? := by rw [htk]
      rw [List.getElem?_take, if_pos ht] at h3
      have h4 := flat_get hk l (t / k) (t % k) h1 h2
      rw [show t / k * k + t % k = t by rw [Nat.mul_comm]; exact Nat.div_add_mod t k] at h4
      rw [h4] at h3
      rw [← Array.getElem?_toList, h3, List.getElem?_eq_getElem (by rw [hk]; exact h2), getElem!_pos (f l[t / k]) (t % k) (by rw [hk]; exact h2)]
    refine ⟨?_, ?_⟩
    · rw [Go.Sort.get_flatK _ _ _ _ (by rw [List.size_toArray]; exact ht), getElem!_pos l.toArray (t / k) (by simpa using h1)]
      unfold World.cell?
      simp only [hg, Nat.zero_add]
      simpa using e1
    · unfold World.frozen?
      simp only [hg, Nat.zero_add]
      rcases hlo with h7 | h7
      · simp only [h7]; simp
      · have : ¬ fz.1 ≤ t := by omega
        simp [this]
theorem rows_of {α : Type} [Inhabited α] {f : α → List Value} {k g : Nat} {w : World} {d : Array α} (hk : ∀ x, (f x).length = k) (h : Go.Sort.HoldsK f k w g 0 d) (hg : g < w.heap.size) : RowsAt w (some ⟨g, 0, none⟩) k f d.toList := fun _ => by
  refine ⟨g, 0, rfl, hg, fun j hj i v hv => ?_⟩
  have hj' : j < d.size := by simpa using hj
  have := HoldsK.cells h hk hj' i v (by rw [getElem!_pos d j hj']; simpa using hv)
  rw [Addr.add_mid] at this
  exact this
theorem below_sort {α : Type} [Inhabited α] {f : α → List Value} {k g B m : Nat} {w0 w : World} {d : Array α} {os : Array Obj} (h : Below B w0 w) (hg : B ≤ g) (hB : B ≤ w.heap.size) : Below B w0 (sortWorldK f k w g 0 m d os) := by
  unfold sortWorldK
  refine h.trans ⟨rfl, rfl, rfl, ?_, fun i hi => ?_⟩
  · rw [Go.Sort.size_grow, Go.Sort.size_putRowK]
    exact Nat.le_add_right _ _
  · unfold Go.Sort.putRowK Go.Sort.putRow Go.Sort.mapBlock Go.Sort.grow Go.Sort.ahead
    rw [Array.getElem?_append_left (by simp; omega), Array.getElem?_modify, if_neg (by omega)]

theorem insOuter_stop2 {α : Type} [Inhabited α] (lt : α → α → Bool) (d : Array α) (n : Nat) (h : d.size ≤ 1) : Go.Sort.insertionSort lt d 0 n = d ∨ 1 < n := by
  rcases Nat.lt_or_ge 1 n with h1 | h1
  · exact .inr h1
  · left
    unfold Go.Sort.insertionSort
    rw [Go.Sort.insOuter, if_neg (by omega)]

/-- What the sort leaves. -/
def sortA {α : Type} [Inhabited α] (d : Array (Found α)) : Array (Found α) := Go.Sort.insertionSort (ltOf cmpF) d 0 d.size

set_option maxRecDepth 100000 in
set_option maxHeartbeats 1000000 in
theorem stableB_lt (g cap : Nat) (d : Array (Found BallotV)) (w : World) (hH : Go.Sort.HoldsK fbC 9 w g 0 d) (hg : g < w.heap.size) (hd : d.size < 20) :
    Calls Tryz.prog 127 #[.slice (some ⟨g, 0, none⟩) d.size cap, .func (.func 128) #[] #[]] w fun e w' => e = .returned (.tuple #[]) ∧ ∃ n os, w' = sortWorldK fbC 9 w g 0 n (sortA d) os := by
  have hins : Calls Tryz.prog 222 #[.slice (some ⟨g, 0, none⟩) d.size cap, .int .i64 (0 : Nat), .int .i64 (d.size : Nat), .func (.func 128) #[] #[]] w fun e w' => e = .returned (.tuple #[]) ∧ ∃ n os, w' = sortWorldK fbC 9 w g 0 n (sortA d) os :=
    AnyQ.insertionSortCmpFunc Tryz.insBallot 9 Tryz.isAgg165 Tryz.sizeOf165 fbC fb_len fb_one cmpF 128 #[] g 0 cap 0 d.size d w (enters_of Tryz.func128 (by kernel_rfl) rfl) (fun _ _ _ _ x y => cmpB_any x y _) hH hg (Nat.zero_le _) (Nat.le_refl _) (by omega)
  have hst : Calls Tryz.prog 194 #[.slice (some ⟨g, 0, none⟩) d.size cap, .int .i64 (d.size : Nat), .func (.func 128) #[] #[]] w fun e w' => e = .returned (.tuple #[]) ∧ ∃ n os, w' = sortWorldK fbC 9 w g 0 n (sortA d) os := by
    clear hH
    generalize sortA d = r at hins ⊢
    go_enter Tryz.func194, Tryz.ntmps194
    go_wp2_with fail
    refine wp_loop_rounds 1 ?_
    rw [rounds_succ]
    go_wp2_with (go_at_call 222; refine hins.mono ?_; rintro e w' ⟨rfl, n, os, rfl⟩)
    refine wp_loop_rounds 1 ?_
    rw [rounds_succ]
    go_wp2_with fail
    go_end0
    exact ⟨rfl, n, os, rfl⟩
  clear hins hH
  generalize sortA d = r at hst ⊢
  go_enter Tryz.func127, Tryz.ntmps127
  go_wp2_with (go_at_call 194; refine hst.mono ?_; rintro e w' ⟨rfl, n, os, rfl⟩)
  go_end0
  exact ⟨rfl, n, os, rfl⟩

set_option maxRecDepth 100000 in
set_option maxHeartbeats 1000000 in
theorem insEndB (A : Option Addr) (cap : Nat) (w : World) :
    Calls Tryz.prog 222 #[.slice A 20 cap, .int .i64 20, .int .i64 20, .func (.func 128) #[] #[]] w fun e w' => e = .returned (.tuple #[]) ∧ w' = w := by
  go_enter Tryz.func222, Tryz.ntmps222
  go_wp2_with fail
  refine wp_loop_rounds 1 ?_
  rw [rounds_succ]
  go_wp2_with fail
  go_end0
  exact ⟨rfl, rfl⟩

set_option maxRecDepth 100000 in
set_option maxHeartbeats 1000000 in
theorem stableB_eq (g cap : Nat) (d : Array (Found BallotV)) (w : World) (hH : Go.Sort.HoldsK fbC 9 w g 0 d) (hg : g < w.heap.size) (hd : d.size = 20) :
    Calls Tryz.prog 127 #[.slice (some ⟨g, 0, none⟩) d.size cap, .func (.func 128) #[] #[]] w fun e w' => e = .returned (.tuple #[]) ∧ ∃ n os, w' = sortWorldK fbC 9 w g 0 n (sortA d) os := by
  have hins : Calls Tryz.prog 222 #[.slice (some ⟨g, 0, none⟩) d.size cap, .int .i64 (0 : Nat), .int .i64 (d.size : Nat), .func (.func 128) #[] #[]] w fun e w' => e = .returned (.tuple #[]) ∧ ∃ n os, w' = sortWorldK fbC 9 w g 0 n (sortA d) os :=
    AnyQ.insertionSortCmpFunc Tryz.insBallot 9 Tryz.isAgg165 Tryz.sizeOf165 fbC fb_len fb_one cmpF 128 #[] g 0 cap 0 d.size d w (enters_of Tryz.func128 (by kernel_rfl) rfl) (fun _ _ _ _ x y => cmpB_any x y _) hH hg (Nat.zero_le _) (Nat.le_refl _) (by omega)
  have hst : Calls Tryz.prog 194 #[.slice (some ⟨g, 0, none⟩) d.size cap, .int .i64 (d.size : Nat), .func (.func 128) #[] #[]] w fun e w' => e = .returned (.tuple #[]) ∧ ∃ n os, w' = sortWorldK fbC 9 w g 0 n (sortA d) os := by
    clear hH
    generalize sortA d = r at hins ⊢
    rw [hd, show ((20 : Nat) : Int) = 20 from rfl, show ((0 : Nat) : Int) = 0 from rfl] at hins
    rw [hd, show ((20 : Nat) : Int) = 20 from rfl]
    go_enter Tryz.func194, Tryz.ntmps194
    go_wp2_with fail
    refine wp_loop_rounds 2 ?_
    rw [rounds_succ]
    go_wp2_with (go_at_call 222; refine hins.mono ?_; rintro e w' ⟨rfl, n, os, rfl⟩)
    rw [rounds_succ]
    go_wp2_with (go_at_call 222; refine (insEndB _ _ _).mono ?_; rintro e w' ⟨rfl, rfl⟩)
    refine wp_loop_rounds 1 ?_
    rw [rounds_succ]
    go_wp2_with fail
    go_end0
    exact ⟨rfl, n, os, rfl⟩
  clear hins hH
  generalize sortA d = r at hst ⊢
  have hd' : d.size ≤ 20 := by omega
  clear hd
  go_enter Tryz.func127, Tryz.ntmps127
  go_wp2_with (go_at_call 194; refine hst.mono ?_; rintro e w' ⟨rfl, n, os, rfl⟩)
  go_end0
  exact ⟨rfl, n, os, rfl⟩

theorem stableB_any (g cap : Nat) (d : Array (Found BallotV)) (w : World) (hH : Go.Sort.HoldsK fbC 9 w g 0 d) (hg : g < w.heap.size) (hd : d.size ≤ 20) :
    Calls Tryz.prog 127 #[.slice (some ⟨g, 0, none⟩) d.size cap, .func (.func 128) #[] #[]] w fun e w' => e = .returned (.tuple #[]) ∧ ∃ n os, w' = sortWorldK fbC 9 w g 0 n (sortA d) os := by
  rcases Nat.lt_or_eq_of_le hd with h | h
  · exact stableB_lt g cap d w hH hg h
  · exact stableB_eq g cap d w hH hg h

set_option maxRecDepth 100000 in
set_option maxHeartbeats 1000000 in
theorem stableB_nil (w : World) :
    Calls Tryz.prog 127 #[.slice none 0 0, .func (.func 128) #[] #[]] w fun e w' => e = .returned (.tuple #[]) ∧ w' = w := by
  have hins : Calls Tryz.prog 222 #[.slice none 0 0, .int .i64 0, .int .i64 0, .func (.func 128) #[] #[]] w fun e w' => e = .returned (.tuple #[]) ∧ w' = w := by
    go_enter Tryz.func222, Tryz.ntmps222
    go_wp2_with fail
    refine wp_loop_rounds 1 ?_
    rw [rounds_succ]
    go_wp2_with fail
    go_end0
    exact ⟨rfl, rfl⟩
  have hst : Calls Tryz.prog 194 #[.slice none 0 0, .int .i64 0, .func (.func 128) #[] #[]] w fun e w' => e = .returned (.tuple #[]) ∧ w' = w := by
    go_enter Tryz.func194, Tryz.ntmps194
    go_wp2_with fail
    refine wp_loop_rounds 1 ?_
    rw [rounds_succ]
    go_wp2_with (go_at_call 222; refine hins.mono ?_; rintro e w' ⟨rfl, hw⟩; rw [hw])
    refine wp_loop_rounds 1 ?_
    rw [rounds_succ]
    go_wp2_with fail
    go_end0
    exact ⟨rfl, rfl⟩
  go_enter Tryz.func127, Tryz.ntmps127
  go_wp2_with (go_at_call 194; refine hst.mono ?_; rintro e w' ⟨rfl, hw⟩; rw [hw])
  go_end0
  exact ⟨rfl, rfl⟩
end Go.Proofs.YtppnbdbigebhaaaGreatDoor.Known

namespace Go.Proofs.YtppnbdbigebhaaaGreatDoor.Known
open Go.RowKit Grp Mem _root_.Go.Proofs.YtppnbdbigebhaaaGreatDoor.Code Sha Sign _root_.Go.Proofs.YtppnbdbigebhaaaGreatDoor.Item

theorem results_row_tmp2 {P : Program} {fn : Func} {p u r : Tmp} {ty : TypeId} (h : fn.results = #[.cell p ty, .tmp u, .tmp r]) (tmps : Array Value) (w : World) (g : Nat) (t : TypeId) (cs : Array Value) (fr : Nat × Nat) (d : TypeDesc) (v v2 : Value)
    (hp : tmps.getD p undef = .pointer (some ⟨g, 0, none⟩)) (hv : tmps.getD u undef = v) (hv2 : tmps.getD r undef = v2) (hg : w.heap[g]? = some (.cells cs t fr))
    (hu : P.underlying ty = some d) (hd : (match d with | .struct _ | .array _ _ => true | _ => false) = true) (hi : (P.info? ty).map (·.size) = some cs.size) :
    (results fn tmps).run P w = .ok (.tuple #[.agg cs, v, v2]) w := by
  have hp' : tmps[p]?.getD undef = .pointer (some ⟨g, 0, none⟩) := by simpa using hp
  have hv' : tmps[u]?.getD undef = v := by simpa using hv
  have hv2' : tmps[r]?.getD undef = v2 := by simpa using hv2
  simp [results, h, hp', hv', hv2', asAddr, run_loadVar_row w g t ty cs fr d hg hu hd hi]

/-- Does an item bear a ballot for an actor and a generation? -/
def wantB (actor : ByteArray) (gen : Int) (x : ItemR) : Bool := decide (x.kind = 2) && (decide (x.ballot.actor = actor) && decide (x.ballot.gen = gen))

/-- The worlds of the closure's last region. -/
structure WantF (w : World) (x : ItemR) (w' : World) : Prop where
  q : Q w w'
  it : Blk w' w.heap.size 54 x.cells.toArray
  b : Blk w' (w.heap.size + 1 + 1) 50 x.ballot.cells.toArray
  r : ∃ cs : List Value, cs.length = 7 ∧ Blk w' (w.heap.size + 1) 50 cs.toArray
structure WantW (w0 : World) (x : ItemR) where
  w : World
  f : WantF w0 x w
theorem wpQuiet_load_S {P : Program} {C : World → Prop} {ops : Array Oper} {rest : List Oper} {o : Oper} {a : Act} {K : Act → Prop} (ty : TypeId) (y : Operand) (p v : Value) (ho : o.op = .load ty y) (hw : Region.wanted o (yielded ops a.tmps) = true)
    (hy : a.eval y = p) (hr : ∀ w, C w → (Instr.loadAt ty p).run P w = .ok v w) (h : wpQuiet P ops C K rest (a.put o.dst v)) : wpQuiet P ops C K (o :: rest) a := by
  unfold wpQuiet
  rw [if_pos hw]
  refine ⟨v, fun w hC => ?_, h⟩
  unfold Oper.quietAt execOp
  simp only [ho, hy, Sem.run_bind, hr w hC, Result.andThen_ok, Sem.run_pure, Oper.quietUpon]
  exact ⟨trivial, trivial⟩

set_option maxRecDepth 100000 in
set_option maxHeartbeats 2000000 in
theorem wantB_any (p1 p2 : Nat) (actor : ByteArray) (gen : Int) (x : ItemR) (w : World) (h1 : w.cell? ⟨p1, 0, none⟩ = some (.string actor)) (hp1 : p1 < w.heap.size) (h2 : w.cell? ⟨p2, 0, none⟩ = some (.int .i64 gen)) (hp2 : p2 < w.heap.size) :
    Calls Tryz.prog 80 #[.agg (itA x), .pointer (some ⟨p1, 0, none⟩), .pointer (some ⟨p2, 0, none⟩)] w fun e w' => e = .returned (.tuple #[.agg (ballotA x.ballot), .int .i64 0, .bool (wantB actor gen x)]) ∧ Q w w' := by
  have hbi := Blk.new w 54 (itA x)
  have hq1 := q_new w (itA x) 54
  have hbr := Blk.new' (g := w.heap.size + 1) (w.alloc (.cells (itA x) 54)) 50 (ballotA ballot0) (by simp)
  have hq2 := q_new (w.alloc (.cells (itA x) 54)) (ballotA ballot0) 50
  have hbi := hbi.q hq2
  have hq := Q.trans hq1 hq2
  clear hq1 hq2
  obtain ⟨w2, hw2⟩ : ∃ w2, w2 = (w.alloc (.cells (itA x) 54)).alloc (.cells (ballotA ballot0) 50) := ⟨_, rfl⟩
  rw [← hw2] at hbi hbr hq
  have hw2s : w2.heap.size = w.heap.size + 1 + 1 := by rw [hw2]; simp
  have hLd : ∀ y : Wd w2, (Instr.loadAt 50 (.pointer (some ⟨w.heap.size, 30, none⟩))).run Tryz.prog y.w = .ok (.agg (ballotA x.ballot)) y.w := item_ballot hbi.lt (Blk.range hbi)
  have HX := Lib.hid hw2
  clear hw2
  have hbb := Blk.new' (g := w.heap.size + 1 + 1) w2 50 ballot0.cells.toArray hw2s.symm
  go_enter Tryz.func80, Tryz.ntmps80
  go_upto_region 1 with (fail)
  refine (show Code.wp _ _ _ _ w2 → Code.wp _ _ _ _ _ from fun h => by rw [HX.out] at h; exact h) ?_
  go_wp2_with (first | (refine wpList_load_run 50 (.tmp 8) (.pointer (some ⟨w.heap.size, 30, none⟩)) (.agg (ballotA x.ballot)) ?_ ?_ ?_ ?_ ?_; rfl; rfl; rfl; exact hLd ⟨_, Q.refl _⟩) | (refine wpList_store_blk hbb rfl 50 (.tmp 7) (.tmp 9) x.ballot.cells rfl rfl rfl (by kernel_rfl) (ballot_all _) (Nat.le_refl 7) ?_))
  intro W hW hbel
  rw [splice_all _ _ (by rfl)] at hW
  have hqW2 : Q w2 W := hbel _ _ (by omega) (q_new _ _ _)
  have hF : WantF w x W := ⟨Q.trans hq hqW2, hbi.q hqW2, hW, ballot0.cells, rfl, hbr.q hqW2⟩
  clear hW hbel hqW2 hbb hLd hbr hq HX hw2s
  have hFd : ∃ y : WantW w x, ({ W with drawn := W.drawn + 1 } : World) = y.w := ⟨⟨_, ⟨hF.q.drew, hF.it, hF.b, hF.r⟩⟩, rfl⟩
  have cK : ∀ y : WantW w x, y.w.cell? ⟨w.heap.size, 0, none⟩ = some (.int .i64 x.kind) := fun y => y.f.it.cell 0
  have cA : ∀ y : WantW w x, y.w.cell? ⟨w.heap.size + 1 + 1, 1, none⟩ = some (.string x.ballot.actor) := fun y => y.f.b.cell 1
  have cG : ∀ y : WantW w x, y.w.cell? ⟨w.heap.size + 1 + 1, 2, none⟩ = some (.int .i64 x.ballot.gen) := fun y => y.f.b.cell 2
  have c1 : ∀ y : WantW w x, y.w.cell? ⟨p1, 0, none⟩ = some (.string actor) := fun y => (y.f.q.cell (p := ⟨p1, 0, none⟩) hp1).trans h1
  have c2 : ∀ y : WantW w x, y.w.cell? ⟨p2, 0, none⟩ = some (.int .i64 gen) := fun y => (y.f.q.cell (p := ⟨p2, 0, none⟩) hp2).trans h2
  have hLb : ∀ z, (∃ y : WantW w x, z = y.w) → (Instr.loadAt 50 (.pointer (some ⟨w.heap.size + 1 + 1, 0, none⟩))).run Tryz.prog z = .ok (.agg (ballotA x.ballot)) z := by
    rintro z ⟨y, rfl⟩
    exact Wd.load (P := Tryz.prog) (w0 := y.w) y.f.b.lt (Blk.range y.f.b) Tryz.underlying50 rfl (by kernel_rfl) ⟨y.w, Q.refl _⟩
  have HR : Hid (wantB actor gen x = (decide (x.kind = 2) && (decide (x.ballot.actor = actor) && decide (x.ballot.gen = gen)))) := Lib.hid rfl
  have HF := Lib.hid hF
  haveI hNE : Nonempty (WantW w x) := ⟨⟨W, hF⟩⟩
  clear hF h1 h2 hbi
  by_cases hk : x.kind = 2
  · rw [decide_eq_true hk, Bool.true_and] at HR
    by_cases ha : x.ballot.actor = actor
    · rw [decide_eq_true ha, Bool.true_and] at HR
      go_wp2_with fail
      refine wp_region_reads (S := fun w' => ∃ y : WantW w x, w' = y.w) 16 (by kernel_rfl) (by kernel_rfl) (by intro c a d v w h; cases d <;> exact h) hFd ?_
      simp only [List.take_succ_cons, List.take_zero]
      refine wpQuiet_load_S 50 (.tmp 7) (.pointer (some ⟨w.heap.size + 1 + 1, 0, none⟩)) (.agg (ballotA x.ballot)) rfl rfl rfl hLb ?_
      dsimp only [Act.put]
      simp only [List.setIfInBounds_toArray, List.set_cons_succ, List.set_cons_zero]
      repeat (go_big_quiet_step (fail))
      refine wpQuiet_nil ?_
      rintro w' ⟨y, rfl⟩
      obtain ⟨cs, hcs, hbr⟩ := y.f.r
      refine held_one 16 rfl (by kernel_rfl) rfl (fun K' hK' => ?_)
      refine wp_store_mid 50 (.tmp 4) (.tmp 10) rfl (w.heap.size + 1) 0 (ballotA x.ballot) rfl rfl (show y.w.there (w.heap.size + 1) 0 7 by simpa using hbr.there (n := 7) (Nat.le_of_eq hcs.symm)) (by kernel_rfl) (ballot_all _) ?_
      have hsc : Blk (y.w.setCells (w.heap.size + 1) 0 x.ballot.cells) (w.heap.size + 1) 50 x.ballot.cells.toArray := by
        have := Blk.setCells x.ballot.cells 0 _ y.w hbr (Nat.le_of_eq (by rw [hcs]; rfl))
        rwa [splice_all _ _ (by rw [hcs]; rfl)] at this
      have hfar := fun b (hne : b ≠ w.heap.size + 1) => setCells_far (g := w.heap.size + 1) hne x.ballot.cells 0 y.w
      have hqs : Q w (y.w.setCells (w.heap.size + 1) 0 x.ballot.cells) := below_setCells (Nat.le_succ _) x.ballot.cells 0 w y.w y.f.q
      have hFN : WantF w x (y.w.setCells (w.heap.size + 1) 0 x.ballot.cells) := ⟨hqs, (hfar _ (by omega)).trans y.f.it, (hfar _ (by omega)).trans y.f.b, x.ballot.cells, rfl, hsc⟩
      refine hK' _ _ ⟨⟨_, hFN⟩, rfl⟩ ?_
      clear hK' K' hbr hfar
      have HZ := Lib.hid hsc
      have HQ := Lib.hid hqs
      clear hsc hqs
      simp only [Act.put, List.setIfInBounds_toArray, List.set_cons_succ, List.set_cons_zero]
      refine held_pure 17 (v := .int .i64 0) rfl (by kernel_rfl) (by kernel_rfl) (by kernel_rfl) (by intro c a d v w h; cases d <;> exact h) rfl ⟨⟨_, hFN⟩, rfl⟩ (fun w => by rfl) ?_
      simp only [Act.put, List.setIfInBounds_toArray, List.set_cons_succ, List.set_cons_zero]
      refine held_pure 18 (v := .bool (x.ballot.gen == gen)) rfl (by kernel_rfl) (by kernel_rfl) (by kernel_rfl) (by intro c a d v w h; cases d <;> exact h) rfl ⟨⟨_, hFN⟩, rfl⟩ (fun w => by rfl) ?_
      simp only [Act.put, List.setIfInBounds_toArray, List.set_cons_succ, List.set_cons_zero]
      refine wpAnyH_done (by kernel_rfl) ?_ _
      go_wp2_with fail
      exact bodyPost_ret (results_row_tmp2 rfl _ _ (w.heap.size + 1) 50 (ballotA x.ballot) (0, 0) _ _ _ rfl rfl rfl HZ.out Tryz.underlying50 rfl (by kernel_rfl)) rfl ⟨by rw [HR.out, ← beq_int]; rfl, HQ.out⟩
    · rw [decide_eq_false ha, Bool.false_and] at HR
      have hab : (x.ballot.actor.toList == actor.toList) = false := by rw [beq_str, decide_eq_false ha]
      go_wp2_with fail
      refine wp_region_reads (S := fun w' => ∃ y : WantW w x, w' = y.w) 16 (by kernel_rfl) (by kernel_rfl) (by intro c a d v w h; cases d <;> exact h) hFd ?_
      simp only [List.take_succ_cons, List.take_zero]
      refine wpQuiet_load_S 50 (.tmp 7) (.pointer (some ⟨w.heap.size + 1 + 1, 0, none⟩)) (.agg (ballotA x.ballot)) rfl rfl rfl hLb ?_
      dsimp only [Act.put]
      simp only [List.setIfInBounds_toArray, List.set_cons_succ, List.set_cons_zero]
      repeat (go_big_quiet_step (fail))
      refine wpQuiet_nil ?_
      rintro w' ⟨y, rfl⟩
      obtain ⟨cs, hcs, hbr⟩ := y.f.r
      refine held_one 16 rfl (by kernel_rfl) rfl (fun K' hK' => ?_)
      refine wp_store_mid 50 (.tmp 4) (.tmp 10) rfl (w.heap.size + 1) 0 (ballotA x.ballot) rfl rfl (show y.w.there (w.heap.size + 1) 0 7 by simpa using hbr.there (n := 7) (Nat.le_of_eq hcs.symm)) (by kernel_rfl) (ballot_all _) ?_
      have hsc : Blk (y.w.setCells (w.heap.size + 1) 0 x.ballot.cells) (w.heap.size + 1) 50 x.ballot.cells.toArray := by
        have := Blk.setCells x.ballot.cells 0 _ y.w hbr (Nat.le_of_eq (by rw [hcs]; rfl))
        rwa [splice_all _ _ (by rw [hcs]; rfl)] at this
      have hfar := fun b (hne : b ≠ w.heap.size + 1) => setCells_far (g := w.heap.size + 1) hne x.ballot.cells 0 y.w
      have hqs : Q w (y.w.setCells (w.heap.size + 1) 0 x.ballot.cells) := below_setCells (Nat.le_succ _) x.ballot.cells 0 w y.w y.f.q
      have hFN : WantF w x (y.w.setCells (w.heap.size + 1) 0 x.ballot.cells) := ⟨hqs, (hfar _ (by omega)).trans y.f.it, (hfar _ (by omega)).trans y.f.b, x.ballot.cells, rfl, hsc⟩
      refine hK' _ _ ⟨⟨_, hFN⟩, rfl⟩ ?_
      clear hK' K' hbr hfar
      have HZ := Lib.hid hsc
      have HQ := Lib.hid hqs
      clear hsc hqs
      simp only [Act.put, List.setIfInBounds_toArray, List.set_cons_succ, List.set_cons_zero]
      refine held_pure 17 (v := .int .i64 0) rfl (by kernel_rfl) (by kernel_rfl) (by kernel_rfl) (by intro c a d v w h; cases d <;> exact h) rfl ⟨⟨_, hFN⟩, rfl⟩ (fun w => by rfl) ?_
      simp only [Act.put, List.setIfInBounds_toArray, List.set_cons_succ, List.set_cons_zero]
      refine held_pure 18 (v := .bool false) rfl (by kernel_rfl) (by kernel_rfl) (by kernel_rfl) (by intro c a d v w h; cases d <;> exact h) rfl ⟨⟨_, hFN⟩, rfl⟩ (fun w => by rfl) ?_
      simp only [Act.put, List.setIfInBounds_toArray, List.set_cons_succ, List.set_cons_zero]
      refine wpAnyH_done (by kernel_rfl) ?_ _
      go_wp2_with fail
      exact bodyPost_ret (results_row_tmp2 rfl _ _ (w.heap.size + 1) 50 (ballotA x.ballot) (0, 0) _ _ _ rfl rfl rfl HZ.out Tryz.underlying50 rfl (by kernel_rfl)) rfl ⟨by rw [HR.out]; rfl, HQ.out⟩
  · rw [decide_eq_false hk, Bool.false_and] at HR
    have hkb : (x.kind == 2) = false := by simpa using hk
    go_wp2_with fail
    refine wp_region_reads (S := fun w' => ∃ y : WantW w x, w' = y.w) 16 (by kernel_rfl) (by kernel_rfl) (by intro c a d v w h; cases d <;> exact h) hFd ?_
    simp only [List.take_succ_cons, List.take_zero]
    refine wpQuiet_load_S 50 (.tmp 7) (.pointer (some ⟨w.heap.size + 1 + 1, 0, none⟩)) (.agg (ballotA x.ballot)) rfl rfl rfl hLb ?_
    dsimp only [Act.put]
    simp only [List.setIfInBounds_toArray, List.set_cons_succ, List.set_cons_zero]
    repeat (go_big_quiet_step (fail))
    refine wpQuiet_nil ?_
    rintro w' ⟨y, rfl⟩
    obtain ⟨cs, hcs, hbr⟩ := y.f.r
    refine held_one 16 rfl (by kernel_rfl) rfl (fun K' hK' => ?_)
    refine wp_store_mid 50 (.tmp 4) (.tmp 10) rfl (w.heap.size + 1) 0 (ballotA x.ballot) rfl rfl (show y.w.there (w.heap.size + 1) 0 7 by simpa using hbr.there (n := 7) (Nat.le_of_eq hcs.symm)) (by kernel_rfl) (ballot_all _) ?_
    have hsc : Blk (y.w.setCells (w.heap.size + 1) 0 x.ballot.cells) (w.heap.size + 1) 50 x.ballot.cells.toArray := by
      have := Blk.setCells x.ballot.cells 0 _ y.w hbr (Nat.le_of_eq (by rw [hcs]; rfl))
      rwa [splice_all _ _ (by rw [hcs]; rfl)] at this
    have hfar := fun b (hne : b ≠ w.heap.size + 1) => setCells_far (g := w.heap.size + 1) hne x.ballot.cells 0 y.w
    have hqs : Q w (y.w.setCells (w.heap.size + 1) 0 x.ballot.cells) := below_setCells (Nat.le_succ _) x.ballot.cells 0 w y.w y.f.q
    have hFN : WantF w x (y.w.setCells (w.heap.size + 1) 0 x.ballot.cells) := ⟨hqs, (hfar _ (by omega)).trans y.f.it, (hfar _ (by omega)).trans y.f.b, x.ballot.cells, rfl, hsc⟩
    refine hK' _ _ ⟨⟨_, hFN⟩, rfl⟩ ?_
    clear hK' K' hbr hfar
    have HZ := Lib.hid hsc
    have HQ := Lib.hid hqs
    clear hsc hqs
    simp only [Act.put, List.setIfInBounds_toArray, List.set_cons_succ, List.set_cons_zero]
    refine held_pure 17 (v := .int .i64 0) rfl (by kernel_rfl) (by kernel_rfl) (by kernel_rfl) (by intro c a d v w h; cases d <;> exact h) rfl ⟨⟨_, hFN⟩, rfl⟩ (fun w => by rfl) ?_
    simp only [Act.put, List.setIfInBounds_toArray, List.set_cons_succ, List.set_cons_zero]
    refine held_pure 18 (v := .bool false) rfl (by kernel_rfl) (by kernel_rfl) (by kernel_rfl) (by intro c a d v w h; cases d <;> exact h) rfl ⟨⟨_, hFN⟩, rfl⟩ (fun w => by rfl) ?_
    simp only [Act.put, List.setIfInBounds_toArray, List.set_cons_succ, List.set_cons_zero]
    refine wpAnyH_done (by kernel_rfl) ?_ _
    go_wp2_with fail
    exact bodyPost_ret (results_row_tmp2 rfl _ _ (w.heap.size + 1) 50 (ballotA x.ballot) (0, 0) _ _ _ rfl rfl rfl HZ.out Tryz.underlying50 rfl (by kernel_rfl)) rfl ⟨by rw [HR.out]; rfl, HQ.out⟩
end Go.Proofs.YtppnbdbigebhaaaGreatDoor.Known

namespace Go.Proofs.YtppnbdbigebhaaaGreatDoor.Known
open Go.RowKit Grp Mem _root_.Go.Proofs.YtppnbdbigebhaaaGreatDoor.Code Sha Sign _root_.Go.Proofs.YtppnbdbigebhaaaGreatDoor.Item

def foundB (x : ItemR) : Found BallotV := ⟨0, digOf x, x.ballot⟩
def takeB (actor : ByteArray) (gen : Int) (l : List ItemR) : List (Found BallotV) := (l.filter fun x => wantB actor gen x && itemRight x).map foundB
theorem takeB_step (actor : ByteArray) (gen : Int) (l : List ItemR) (j : Nat) (h : j < l.length) : takeB actor gen (l.take (j + 1)) = takeB actor gen (l.take j) ++ if wantB actor gen l[j] && itemRight l[j] then [foundB l[j]] else [] := by
  unfold takeB
  rw [List.take_succ_eq_append_getElem h, List.filter_append, List.map_append]
  congr 1
  cases hw : wantB actor gen l[j] && itemRight l[j] <;> simp [List.filter, hw]
def sortB (l : List (Found BallotV)) : List (Found BallotV) := (sortA l.toArray).toList
def ballotsK (actor : ByteArray) (gen : Int) (l : List ItemR) : List BallotV := (sortB (takeB actor gen l)).map (·.val)
theorem size_swp2 {α : Type} [Inhabited α] (lt : α → α → Bool) (a : Nat) : ∀ (j : Nat) (d : Array α), (Go.Sort.insInner lt a j d).size = d.size
  | 0, d => rfl
  | j + 1, d => by
    rw [Go.Sort.insInner]
    split
    · rw [size_swp2 lt a j, Go.Sort.size_swp]
    · rfl
theorem size_insO {α : Type} [Inhabited α] (lt : α → α → Bool) (a b : Nat) : ∀ (n i : Nat) (d : Array α), b - i = n → (Go.Sort.insOuter lt a b i d).size = d.size := by
  intro n
  induction n with
  | zero => intro i d h; rw [Go.Sort.insOuter, if_neg (by omega)]
  | succ n ih =>
    intro i d h
    rw [Go.Sort.insOuter, if_pos (by omega), ih (i + 1) _ (by omega), size_swp2]
theorem sortB_length (l : List (Found BallotV)) : (sortB l).length = l.length := by
  unfold sortB sortA Go.Sort.insertionSort
  rw [Array.length_toList, size_insO _ _ _ _ _ _ rfl, List.size_toArray]

theorem sortB_nil : sortB [] = [] := List.length_eq_zero_iff.1 (sortB_length [])
/-- The sort, of an own row. -/
theorem sorted_any (A : Option Addr) (c m base : Nat) (l : List (Found BallotV)) (w : World) (hm : m = l.length) (h20 : m ≤ 20) (h : Owns w base 165 9 (.slice A m c) m (l.flatMap fbC)) (hB : base ≤ w.heap.size) :
    Calls Tryz.prog 127 #[.slice A m c, .func (.func 128) #[] #[]] w fun e w' => e = .returned (.tuple #[]) ∧ (RowsAt w' A 9 fbC (sortB l) ∧ Below base w w') := by
  rcases h.2 with ⟨e1, h0⟩ | ⟨g, cap, cur, fz, hv, hb, hg, _⟩
  · injection e1 with hA _ hc
    subst hA hc
    have hl : l = [] := List.length_eq_zero_iff.1 (by omega)
    subst hl
    subst hm
    refine (stableB_nil w).mono ?_
    rintro e w' ⟨rfl, rfl⟩
    exact ⟨rfl, by rw [sortB_nil]; exact RowsAt.nil _ _ _ _, Below.refl _ _⟩
  · injection hv with hA _ hc
    subst hA
    rcases Nat.eq_zero_or_pos m with h0 | h0
    · have hl : l = [] := List.length_eq_zero_iff.1 (by omega)
      subst hl
      have hH : Go.Sort.HoldsK fbC 9 w g 0 (#[] : Array (Found BallotV)) := fun t ht => by rw [Go.Sort.size_flatK] at ht; simp at ht
      have := stableB_any g c #[] w hH (Array.getElem?_eq_some_iff.1 hg).1 (by simp)
      subst hm
      refine this.mono ?_
      rintro e w' ⟨rfl, n, os, rfl⟩
      exact ⟨rfl, by rw [sortB_nil]; exact RowsAt.nil _ _ _ _, below_sort (Below.refl _ _) hb hB⟩
    · obtain ⟨hH, hb', hg'⟩ := holds_of fb_len h hm h0
      subst hm
      have hs : (l.toArray).size = l.length := by simp
      have hsa : (sortA l.toArray).size = l.toArray.size := by
        unfold sortA Go.Sort.insertionSort
        rw [size_insO _ _ _ _ _ _ rfl]
      have := stableB_any g c l.toArray w hH hg' (by rw [hs]; exact h20)
      rw [hs] at this
      refine this.mono ?_
      rintro e w' ⟨rfl, n, os, rfl⟩
      refine ⟨rfl, rows_of fb_len (holdsK_sortWorldK_c fbC 9 w g 0 l.toArray _ n os hH hg' hsa) ?_, below_sort (Below.refl _ _) hb hB⟩
      exact Nat.lt_of_lt_of_le hg' (size_sortWorldK_c fbC 9 w g 0 n _ os)

theorem found_info : (Tryz.prog.info? 165).map (fun i => (i.zero, i.size, i.bytes)) = some (some (.agg (fbC default).toArray), 9, 96) := by kernel_rfl
theorem bal_info : (Tryz.prog.info? 50).map (fun i => (i.zero, i.size, i.bytes)) = some (some (.agg (ballotA ballot0)), 7, 72) := by kernel_rfl
theorem wpQuiet_build_run {P : Program} {C : World → Prop} {ops : Array Oper} {rest : List Oper} {o : Oper} {a : Act} {K : Act → Prop} (ty : TypeId) (parts : Array (Nat × Operand)) (vs : Array (Nat × Value)) (v : Value) (ho : o.op = .build ty parts) (hw : Region.wanted o (yielded ops a.tmps) = true)
    (hp : (parts.map fun x => (x.1, a.eval x.2)) = vs) (hr : ∀ w, (Instr.build ty vs).run P w = .ok v w) (h : wpQuiet P ops C K rest (a.put o.dst v)) : wpQuiet P ops C K (o :: rest) a := by
  unfold wpQuiet
  rw [if_pos hw]
  refine ⟨v, fun w hC => ?_, h⟩
  subst hp
  unfold Oper.quietAt execOp
  simp only [ho, Sem.run_bind, hr w, Result.andThen_ok, Sem.run_pure, Oper.quietUpon]
  exact ⟨trivial, trivial⟩
theorem fb_all (x : Found BallotV) : (fbC x).toArray.all (·.oneCell') = true := by
  rw [Array.all_eq_true_iff_forall_mem]
  intro v hv
  exact fb_one x v (by simpa using hv)
theorem build_found (d : ByteArray) (b : BallotV) (w : World) : (Instr.build 165 #[(0, .int .i64 0), (1, .string d), (2, .agg (ballotA b))]).run Tryz.prog w = .ok (.agg (fbC ⟨0, d, b⟩).toArray) w := by kernel_rfl
theorem bs_found (x : Found BallotV) (w : World) : (Instr.buildSlice 162 1 #[(0, .agg (fbC x).toArray)]).run Tryz.prog w = .ok (.slice (some ⟨w.heap.size, 0, none⟩) 1 1) (w.alloc (.cells (fbC x).toArray 165)) := by kernel_rfl
theorem bs_ballot (x : BallotV) (w : World) : (Instr.buildSlice 74 1 #[(0, .agg (ballotA x))]).run Tryz.prog w = .ok (.slice (some ⟨w.heap.size, 0, none⟩) 1 1) (w.alloc (.cells (ballotA x) 50)) := by kernel_rfl
theorem bal_len (x : BallotV) : x.cells.length = 7 := rfl
theorem bal_one (x : BallotV) : ∀ v ∈ x.cells, v.oneCell' = true := by
  have := ballot_all x
  rw [Array.all_eq_true_iff_forall_mem] at this
  intro v hv
  exact this v (by simpa using hv)

/-- What hands back a list of ballots. -/
def BallotsAre (l : List BallotV) (w : World) (e : Ending) (w' : World) : Prop := ∃ (A : Option Addr) (c : Nat), e = .returned (.slice A l.length c) ∧ l.length ≤ c ∧ c ≤ maxLen ∧ RowsAt w' A 7 BallotV.cells l ∧ Q w w'
set_option maxRecDepth 100000 in
set_option maxHeartbeats 2000000 in
theorem pickB_any (k : KR) (p1 p2 : Nat) (actor : ByteArray) (gen : Int) (w : World) (hT : Tab w) (hK : KIn w k) (h1 : w.cell? ⟨p1, 0, none⟩ = some (.string actor)) (hp1 : p1 < w.heap.size) (h2 : w.cell? ⟨p2, 0, none⟩ = some (.int .i64 gen)) (hp2 : p2 < w.heap.size) (hn : k.l.length ≤ 20) :
    Calls Tryz.prog 79 #[.agg (knA k), .func (.func 80) #[] #[.pointer (some ⟨p1, 0, none⟩), .pointer (some ⟨p2, 0, none⟩)]] w (BallotsAre (ballotsK actor gen k.l) w) := by
  obtain ⟨w1, x, hx, hq1, hbk⟩ := boxedB w 25 k.cells
  have hx : w.alloc (.cells (knA k) 25) = x.w := hx
  have cI : ∀ y : Wd w1, y.w.cell? ⟨w.heap.size, 1, none⟩ = some (.slice k.iA k.l.length k.iC) := fun y => (y.blk hbk).cell 1
  have hKy : ∀ y : Wd w1, KIn y.w k := fun y => hK.q (Q.trans hq1 y.q)
  have hTy : ∀ y : Wd w1, Tab y.w := fun y => hT.q (Q.trans hq1 y.q)
  have hW1 : ∀ y : Wd w1, y.w.cell? ⟨p1, 0, none⟩ = some (.string actor) := fun y => ((Q.trans hq1 y.q).cell (p := ⟨p1, 0, none⟩) hp1).trans h1
  have hW2 : ∀ y : Wd w1, y.w.cell? ⟨p2, 0, none⟩ = some (.int .i64 gen) := fun y => ((Q.trans hq1 y.q).cell (p := ⟨p2, 0, none⟩) hp2).trans h2
  have hP1 : ∀ y : Wd w1, p1 < y.w.heap.size := fun y => Nat.lt_of_lt_of_le hp1 (Q.trans hq1 y.q).size
  have hP2 : ∀ y : Wd w1, p2 < y.w.heap.size := fun y => Nat.lt_of_lt_of_le hp2 (Q.trans hq1 y.q).size
  have HQ := Lib.hid hq1
  obtain ⟨i0, hi, hz0, hz1, hz2⟩ := info_parts found_info
  obtain ⟨j0, hji, hy0, hy1, hy2⟩ := info_parts bal_info
  have e99 : ∀ args w, (callFunc 80 args).run Tryz.prog w = .ok (.enter 80 args) w := enters_of Tryz.func80 (by kernel_rfl) rfl
  clear hbk hq1 h1 h2 hp1 hp2
  go_enter Tryz.func79, Tryz.ntmps79
  go_wp2_with fail
  go_loopw [5, 17] (fun a i wr => ∃ (j c m : Nat) (A : Option Addr) (z : Wd w1), a = .slice A m c ∧ i = .int .i64 j ∧ wr = z.w ∧ j ≤ k.l.length ∧ m ≤ j ∧ m ≤ c ∧ c ≤ maxLen ∧ Hid (m = (takeB actor gen (k.l.take j)).length) ∧ Owns z.w w1.heap.size 165 9 (.slice A m c) m ((takeB actor gen (k.l.take j)).flatMap fbC)) (fun _ i _ => k.l.length - (intOf i).toNat)
  case atStart => exact ⟨0, 0, 0, none, x, rfl, rfl, rfl, Nat.zero_le _, Nat.zero_le _, Nat.zero_le _, Nat.zero_le _, Lib.hid rfl, Owns.nil_ _ _ _ _⟩
  case round =>
    obtain ⟨j, c, m, A, z, rfl, rfl, rfl, hj, hmj, hmc, hcm, hm, hown⟩ := hrel
    by_cases hlt : j < k.l.length
    · obtain ⟨b, o, eA, hb, hld⟩ := (hKy z).items.load j hlt
      have hio := fun y : Wd z.w => ((hKy z).items.each _ (List.getElem_mem hlt)).q y.q
      rw [eA]
      have hTz : ∀ y : Wd z.w, Tab y.w := fun y => hTy ⟨y.w, Q.trans z.q y.q⟩
      have hzs := z.q.size
      have HTS := Lib.hid (takeB_step actor gen k.l j hlt)
      generalize k.l[j] = it at *
      go_wp2_with (first | (refine wpList_load_run 54 (.tmp 19) (.pointer (some ⟨b, o + j * 49, none⟩)) (.agg (itA it)) ?_ ?_ ?_ ?_ ?_; rfl; rfl; rfl; exact hld ⟨_, Q.refl _⟩) | (refine wpList_store_blk (Blk.new z.w 54 item0.cells.toArray) rfl 54 (.tmp 7) (.tmp 20) it.cells rfl rfl rfl (by kernel_rfl) (it_all _) (Nat.le_refl 49) ?_))
      intro W hW hbel
      rw [splice_all _ _ (by rfl)] at hW
      have hqz : Q z.w W := hbel _ _ (Nat.le_refl _) (q_new _ _ _)
      have hq3 : Q w1 W := Q.trans z.q hqz
      have hLi : ∀ y : Wd W, (Instr.loadAt 54 (.pointer (some ⟨z.w.heap.size, 0, none⟩))).run Tryz.prog y.w = .ok (.agg (itA it)) y.w := Wd.load hW.lt (Blk.range hW) Tryz.underlying54 rfl (by kernel_rfl)
      have hcl : ∀ y : Wd W, Calls Tryz.prog 80 #[.agg (itA it), .pointer (some ⟨p1, 0, none⟩), .pointer (some ⟨p2, 0, none⟩)] y.w fun e w' => e = .returned (.tuple #[.agg (ballotA it.ballot), .int .i64 0, .bool (wantB actor gen it)]) ∧ Q y.w w' := fun y => wantB_any p1 p2 actor gen it y.w (hW1 ⟨y.w, Q.trans hq3 y.q⟩) (hP1 ⟨y.w, Q.trans hq3 y.q⟩) (hW2 ⟨y.w, Q.trans hq3 y.q⟩) (hP2 ⟨y.w, Q.trans hq3 y.q⟩)
      have hWs := hq3.size
      obtain ⟨v, hv⟩ := Wd.first W
      rw [hv]
      clear hbel hld hv eA hb cI hW1 hW2 hP1 hP2
      generalize hwt : wantB actor gen it = wt at *
      go_wp2_with (first | (refine wpList_load_run 54 (.tmp 7) (.pointer (some ⟨z.w.heap.size, 0, none⟩)) (.agg (itA it)) ?_ ?_ ?_ ?_ ?_; rfl; rfl; rfl; exact hLi _) | (go_at_fn 80; refine (hcl _).mono ?_; rintro e w' ⟨rfl, hq2⟩; obtain ⟨y, rfl⟩ := Wd.next _ hq2; clear hq2) | (refine wpList_store_blk (Blk.new y.w 50 ballot0.cells.toArray) rfl 50 (.tmp 8) (.tmp 25) it.ballot.cells rfl rfl rfl (by kernel_rfl) (ballot_all _) (Nat.le_refl 7) ?_))
      intro W2 hB2 hbel2
      rw [splice_all _ _ (by rfl)] at hB2
      have hqy : Q W W2 := hbel2 _ _ y.q.size (Q.trans y.q (q_new _ _ _))
      have hq4 : Q w1 W2 := Q.trans hq3 hqy
      have hLi2 : ∀ y : Wd W2, (Instr.loadAt 54 (.pointer (some ⟨z.w.heap.size, 0, none⟩))).run Tryz.prog y.w = .ok (.agg (itA it)) y.w := fun y => hLi ⟨y.w, Q.trans hqy y.q⟩
      have hLb2 : ∀ u : Wd W2, (Instr.loadAt 50 (.pointer (some ⟨y.w.heap.size, 0, none⟩))).run Tryz.prog u.w = .ok (.agg (ballotA it.ballot)) u.w := Wd.load hB2.lt (Blk.range hB2) Tryz.underlying50 rfl (by kernel_rfl)
      have hIi : ∀ u : Wd W2, ItemIn u.w it := fun u => hio ⟨u.w, Q.trans (Q.trans hqz hqy) u.q⟩
      have hdg2 : ∀ u : Wd W2, Calls Tryz.prog 40 #[.agg (itA it)] u.w fun e w' => e = .returned (.string (digOf it)) ∧ Q u.w w' := fun u => digest_any it u.w (hTz ⟨u.w, Q.trans (Q.trans hqz hqy) u.q⟩) (hIi u)
      have hownW : ∀ u : Wd W2, Owns u.w w1.heap.size 165 9 (.slice A m c) m ((takeB actor gen (k.l.take j)).flatMap fbC) := fun u => hown.q (Q.trans (Q.trans hqz hqy) u.q)
      have hrg : ∀ (r : Bool), itemRight it = r → ∀ u : Wd W2, Calls Tryz.prog 20 #[.agg (itA it)] u.w fun e w' => e = .returned (.bool r) ∧ Q u.w w' := fun r hr u => right_at it r u.w (hIi u) hr
      have HQ4 := Lib.hid hq4
      have hWs2 := hq4.size
      obtain ⟨u, hu⟩ := Wd.first W2
      rw [hu]
      clear hbel2 hu hqy hq4 hq3 hqz hLi hcl hio hTz hown hTy hW hB2
      cases wt
      · have HTE := Lib.hid (show takeB actor gen (k.l.take (j + 1)) = takeB actor gen (k.l.take j) by rw [HTS.out]; simp)
        go_wp2_with fail
        exact ⟨⟨j + 1, c, m, A, ⟨u.w, Q.trans HQ4.out u.q⟩, rfl, by go_num, rfl, by omega, by omega, hmc, hcm, Lib.hid (by rw [HTE.out]; exact hm.out), by rw [HTE.out]; exact hownW u⟩, by simp only [intOf]; omega⟩
      · cases hr : itemRight it
        · have HTE := Lib.hid (show takeB actor gen (k.l.take (j + 1)) = takeB actor gen (k.l.take j) by rw [HTS.out, hr]; simp)
          have hrg0 := hrg false hr
          clear hrg hr
          go_wp2_with (first | (refine wpList_load_run 54 (.tmp 7) (.pointer (some ⟨z.w.heap.size, 0, none⟩)) (.agg (itA it)) ?_ ?_ ?_ ?_ ?_; rfl; rfl; rfl; exact hLi2 _) | (go_at_call 20; refine (hrg0 _).mono ?_; rintro e w' ⟨rfl, hq2⟩; obtain ⟨t, rfl⟩ := Wd.next _ hq2; clear hq2))
          exact ⟨⟨j + 1, c, m, A, ⟨t.w, Q.trans HQ4.out t.q⟩, rfl, by go_num, rfl, by omega, by omega, hmc, hcm, Lib.hid (by rw [HTE.out]; exact hm.out), by rw [HTE.out]; exact hownW t⟩, by simp only [intOf]; omega⟩
        · have HTE := Lib.hid (show takeB actor gen (k.l.take (j + 1)) = takeB actor gen (k.l.take j) ++ [foundB it] by rw [HTS.out, hr]; simp)
          have hrg0 := hrg true hr
          clear hrg hr
          go_wp2_with (first | (refine wpList_load_run 54 (.tmp 7) (.pointer (some ⟨z.w.heap.size, 0, none⟩)) (.agg (itA it)) ?_ ?_ ?_ ?_ ?_; rfl; rfl; rfl; exact hLi2 _) | (go_at_call 20; refine (hrg0 _).mono ?_; rintro e w' ⟨rfl, hq2⟩; obtain ⟨t, rfl⟩ := Wd.next _ hq2; clear hq2))
          refine wp_region_wd_parts t 2 6 (by kernel_rfl) (by kernel_rfl) (by intro c d v a w h; cases d <;> exact h) ?_
          simp only [List.take_succ_cons, List.take_zero, List.drop_succ_cons, List.drop_zero]
          refine wpPure_move (.tmp 5) (.slice A m c) rfl rfl rfl ?_
          dsimp only [Act.put]
          simp only [List.setIfInBounds_toArray, List.set_cons_succ, List.set_cons_zero]
          refine wpPure_move (.tmp 9) (.int .i64 0) rfl rfl rfl ?_
          dsimp only [Act.put]
          simp only [List.setIfInBounds_toArray, List.set_cons_succ, List.set_cons_zero]
          refine wpPure_nil ?_
          refine wpQuiet_load_run 54 (.tmp 7) (.pointer (some ⟨z.w.heap.size, 0, none⟩)) (.agg (itA it)) rfl rfl rfl hLi2 ?_
          dsimp only [Act.put]
          simp only [List.setIfInBounds_toArray, List.set_cons_succ, List.set_cons_zero]
          go_big_quiet_step (first | (go_at_call 40; exact Wd.call _ (hdg2 _)))
          refine wpQuiet_load_run 50 (.tmp 8) (.pointer (some ⟨y.w.heap.size, 0, none⟩)) (.agg (ballotA it.ballot)) rfl rfl rfl hLb2 ?_
          dsimp only [Act.put]
          simp only [List.setIfInBounds_toArray, List.set_cons_succ, List.set_cons_zero]
          refine wpQuiet_build_run 165 _ #[(0, .int .i64 0), (1, .string (digOf it)), (2, .agg (ballotA it.ballot))] _ rfl rfl (by simp only [List.map_toArray, List.map_cons, List.map_nil]; rfl) (build_found (digOf it) it.ballot) ?_
          dsimp only [Act.put]
          simp only [List.setIfInBounds_toArray, List.set_cons_succ, List.set_cons_zero]
          refine wpQuiet_nil ?_
          rintro w6 ⟨t2, rfl⟩
          refine wpList_buildSlice_run 162 1 _ #[(0, .agg (fbC (foundB it)).toArray)] _ rfl rfl (by simp only [List.map_toArray, List.map_cons, List.map_nil]; rfl) (bs_found (foundB it) _) ?_
          dsimp only [Act.put]
          simp only [List.setIfInBounds_toArray, List.set_cons_succ, List.set_cons_zero]
          refine wpList_append_rows fb_len fb_one rfl (.tmp 33) (.tmp 39) 162 165 i0 _ 96 rfl Tryz.underlying162 hi hz0 hz1 hz2 rfl (by decide) (by decide) w1.heap.size (.slice A m c) m (takeB actor gen (k.l.take j)) rfl ((hownW t2).alloc (.cells (fbC (foundB it)).toArray 165)) (some ⟨t2.w.heap.size, 0, none⟩) 1 1 [foundB it] rfl (RowsAt.one t2.w 165 (foundB it) _ rfl) rfl (by omega) (by have := t2.q.size; simp; omega) ?_
          intro A5 c5 w5 hc5 hm5 hown5 hg5
          have hq5 : Q w1 w5 := q_grown (Q.trans (Q.trans HQ4.out t2.q) (q_new _ _ _)) (Nat.le_refl _) ((hownW t2).alloc _) hg5
          obtain ⟨y5, rfl⟩ : ∃ y5 : Wd w1, w5 = y5.w := ⟨⟨w5, hq5⟩, rfl⟩
          rw [← HTE.out] at hown5
          have HM5 : Hid (m + 1 = (takeB actor gen (k.l.take (j + 1))).length) := Lib.hid (by rw [HTE.out, List.length_append, ← hm.out]; rfl)
          clear hownW hg5 hq5 hdg2 hLi2 hLb2 hIi hrg0
          go_wp2_with fail
          exact ⟨⟨j + 1, c5, m + 1, A5, y5, rfl, by go_num, rfl, by omega, by omega, hc5, hm5, HM5, hown5⟩, by simp only [intOf]; omega⟩
    · have hjn : j = k.l.length := by omega
      have hm := hm.out
      rw [hjn, List.take_length] at hown hm
      have hm20 : m ≤ 20 := by omega
      have hso := sorted_any A c m w1.heap.size (takeB actor gen k.l) z.w hm hm20 hown z.q.size
      have hlen : (sortB (takeB actor gen k.l)).length = m := by rw [sortB_length]; exact hm.symm
      have HB := Lib.hid (show ballotsK actor gen k.l = (sortB (takeB actor gen k.l)).map (·.val) from rfl)
      have HZ := Lib.hid z.q
      generalize sortB (takeB actor gen k.l) = L at hso hlen HB
      clear hown hm hjn cI hW1 hW2 hP1 hP2 hKy hTy
      go_wp2_with (first | (go_at_call 127; refine hso.mono ?_; rintro e w6 ⟨rfl, hR6, hb6⟩; have HQ6 := Lib.hid (Below.trans HZ.out hb6); clear hb6 hso; obtain ⟨y6, hy6⟩ := Wd.first w6; rw [hy6]; clear hy6) | (refine wpList_make_own _ rfl _ _ 74 rfl w6.heap.size 50 j0 _ 7 Tryz.underlying74 hji hy0 hy1 .i64 .i64 (m : Int) m rfl rfl rfl (by rw [hy2]; omega) (by simp only [maxLen]; omega) y6.q.size ?_))
      intro w7 hown0 hg0
      have hown : Owns w7 w6.heap.size 50 7 (.slice (some ⟨y6.w.heap.size, 0, none⟩) 0 m) 0 (([] : List BallotV).flatMap BallotV.cells) := Owns.of hown0
      have hq7 : Q w6 w7 := Below.grown y6.q hg0 y6.q.size (fun _ h => by cases h)
      obtain ⟨y7, rfl⟩ : ∃ y7 : Wd w6, w7 = y7.w := ⟨⟨w7, hq7⟩, rfl⟩
      have hRy : ∀ y : Wd w6, RowsAt y.w A 9 fbC L := fun y => hR6.q y.q
      clear hown0 hg0 hq7 hR6
      go_wp2_with fail
      go_loopw [11, 49] (fun a i wr => ∃ (j c : Nat) (A : Option Addr) (z : Wd w6), a = .slice A j c ∧ i = .int .i64 j ∧ wr = z.w ∧ j ≤ m ∧ j ≤ c ∧ c ≤ maxLen ∧ Owns z.w w6.heap.size 50 7 (.slice A j c) j (((L.take j).map (·.val)).flatMap BallotV.cells)) (fun _ i _ => m - (intOf i).toNat)
      case atStart => exact ⟨0, m, _, y7, rfl, rfl, rfl, Nat.zero_le _, Nat.zero_le _, by simp only [maxLen]; omega, hown⟩
      case round =>
        clear hown
        obtain ⟨j2, c2, A2, z2, rfl, rfl, rfl, hj2, hjc2, hcm2, hown⟩ := hrel
        by_cases hlt2 : j2 < m
        · obtain ⟨b, o, eA, hb, hcs⟩ := hRy z2 (by omega)
          have hld : ∀ y : Wd z2.w, (Instr.loadAt 165 (.pointer (some ⟨b, o + j2 * 9, none⟩))).run Tryz.prog y.w = .ok (.agg (fbC (L[j2]'(by omega))).toArray) y.w := Wd.load hb (hcs j2 (by omega)) Tryz.underlying165 rfl (by kernel_rfl)
          have HLS := Lib.hid (show (L.take (j2 + 1)).map (·.val) = (L.take j2).map (·.val) ++ [(L[j2]'(by omega)).val] by rw [List.take_succ_eq_append_getElem (by omega), List.map_append]; rfl)
          rw [eA]
          have hzs2 := z2.q.size
          clear hcs
          generalize L[j2]'(by omega) = e2 at *
          have hbf := Blk.new z2.w 165 (fbC default).toArray
          go_wp2_with (first | (refine wpList_load_run 165 (.tmp 51) (.pointer (some ⟨b, o + j2 * 9, none⟩)) (.agg (fbC e2).toArray) ?_ ?_ ?_ ?_ ?_; rfl; rfl; rfl; exact hld ⟨_, Q.trans (Q.refl _) (Q.refl _)⟩) | (refine wpList_store_blk hbf rfl 165 (.tmp 13) (.tmp 52) (fbC e2) rfl rfl rfl (by kernel_rfl) (fb_all _) (Nat.le_refl 9) ?_))
          intro W hW hbel
          rw [splice_all _ _ (by rfl)] at hW
          have hqz : Q z2.w W := hbel _ _ (Nat.le_refl _) (q_new _ _ _)
          have hq3 : Q w6 W := Q.trans z2.q hqz
          have hrv : W.rangeAt z2.w.heap.size 2 e2.val.cells := by
            have := range_sub (Blk.range hW) 2 7
            rw [Nat.zero_add] at this
            exact this
          have hLv : ∀ y : Wd W, (Instr.loadAt 50 (.pointer (some ⟨z2.w.heap.size, 2, none⟩))).run Tryz.prog y.w = .ok (.agg (ballotA e2.val)) y.w := Wd.load hW.lt hrv Tryz.underlying50 rfl (by kernel_rfl)
          have hownW : ∀ y : Wd W, Owns y.w w6.heap.size 50 7 (.slice A2 j2 c2) j2 (((L.take j2).map (·.val)).flatMap BallotV.cells) := fun y => hown.q (Q.trans hqz y.q)
          have HQ3 := Lib.hid hq3
          have hWs := hq3.size
          obtain ⟨v, hv⟩ := Wd.first W
          rw [hv]
          clear hW hbel hld hv hqz hq3 hown hrv hbf
          go_wp2_with (first | (refine wpList_load_run 50 (.tmp 54) (.pointer (some ⟨z2.w.heap.size, 2, none⟩)) (.agg (ballotA e2.val)) ?_ ?_ ?_ ?_ ?_; rfl; rfl; rfl; exact hLv _) | (refine wpList_buildSlice_run 74 1 _ #[(0, .agg (ballotA e2.val))] _ rfl rfl (by simp only [List.map_toArray, List.map_cons, List.map_nil]; rfl) (bs_ballot e2.val _) ?_) | (at_builtin; refine wpList_append_rows bal_len bal_one rfl (.tmp 53) (.tmp 56) 74 50 j0 _ 72 rfl Tryz.underlying74 hji hy0 hy1 hy2 rfl (by decide) (by decide) w6.heap.size (.slice A2 j2 c2) j2 ((L.take j2).map (·.val)) rfl ((hownW v).alloc (.cells (ballotA e2.val) 50)) (some ⟨v.w.heap.size, 0, none⟩) 1 1 [e2.val] rfl (RowsAt.one v.w 50 e2.val _ rfl) rfl (by omega) (by have := v.q.size; simp; omega) ?_))
          intro A5 c5 w5 hc5 hm5 hown5 hg5
          have hq5 : Q w6 w5 := q_grown (Q.trans (Q.trans HQ3.out v.q) (q_new _ _ _)) (Nat.le_refl _) ((hownW v).alloc _) hg5
          obtain ⟨y5, rfl⟩ : ∃ y5 : Wd w6, w5 = y5.w := ⟨⟨w5, hq5⟩, rfl⟩
          have e5 : List.flatMap BallotV.cells (List.take j2 (List.map (fun x => x.val) L)) ++ e2.val.cells = ((L.take (j2 + 1)).map (·.val)).flatMap BallotV.cells := by
            rw [HLS.out, List.flatMap_append, List.map_take]
            simp
          rw [e5] at hown5
          clear hownW hg5 hq5 hLv e5
          go_wp2_with fail
          exact ⟨⟨j2 + 1, c5, A5, y5, rfl, by go_num, rfl, by omega, hc5, hm5, hown5⟩, by simp only [intOf]; omega⟩
        · have hjn : j2 = m := by omega
          have hall : L.take j2 = L := List.take_of_length_le (by omega)
          rw [hall, ← HB.out] at hown
          have hl : (ballotsK actor gen k.l).length = j2 := by rw [HB.out, List.length_map, hlen, hjn]
          have hfin : BallotsAre (ballotsK actor gen k.l) w (.returned (.slice A2 j2 c2)) z2.w := ⟨A2, c2, by rw [hl], by omega, hcm2, Owns.rows bal_len hown hl.symm, Q.trans HQ.out (Below.trans HQ6.out (Below.mono z2.q (by have := HQ6.out.size; omega)))⟩
          have HF := Lib.hid hfin
          clear hfin hl hall hown
          go_wp2_with fail
          go_ret
          exact HF.out
end Go.Proofs.YtppnbdbigebhaaaGreatDoor.Known

namespace Go.Proofs.YtppnbdbigebhaaaGreatDoor.Known
open Go.RowKit Grp Mem _root_.Go.Proofs.YtppnbdbigebhaaaGreatDoor.Code Sha Sign _root_.Go.Proofs.YtppnbdbigebhaaaGreatDoor.Item

set_option maxRecDepth 100000 in
set_option maxHeartbeats 2000000 in
theorem ballots_any (k : KR) (actor : ByteArray) (gen : Int) (w : World) (hT : Tab w) (hK : KIn w k) (hn : k.l.length ≤ 20) :
    Calls Tryz.prog 38 #[.agg (knA k), .string actor, .int .i64 gen] w (BallotsAre (ballotsK actor gen k.l) w) := by
  have b1 := Blk.new w 25 (knA k)
  have q1 := q_new w (knA k) 25
  have b2 := Blk.new' (g := w.heap.size + 1) (w.alloc (.cells (knA k) 25)) 9 #[.string actor] (by simp)
  have q2 := q_new (w.alloc (.cells (knA k) 25)) #[.string actor] 9
  have b3 := Blk.new' (g := w.heap.size + 1 + 1) ((w.alloc (.cells (knA k) 25)).alloc (.cells #[.string actor] 9)) 3 #[.int .i64 gen] (by simp)
  have q3 := q_new ((w.alloc (.cells (knA k) 25)).alloc (.cells #[.string actor] 9)) #[.int .i64 gen] 3
  have b1 := (b1.q q2).q q3
  have b2 := b2.q q3
  have hq := Q.trans (Q.trans q1 q2) q3
  obtain ⟨w3, hw3⟩ : ∃ w3, w3 = ((w.alloc (.cells (knA k) 25)).alloc (.cells #[.string actor] 9)).alloc (.cells #[.int .i64 gen] 3) := ⟨_, rfl⟩
  rw [← hw3] at b1 b2 b3 hq
  have hLk := Wd.load (P := Tryz.prog) (ty := 25) b1.lt (Blk.range b1) Tryz.underlying25 rfl (by kernel_rfl) ⟨w3, Q.refl w3⟩
  have hp := pickB_any k (w.heap.size + 1) (w.heap.size + 1 + 1) actor gen w3 (hT.q hq) (hK.q hq) (b2.cell 0) b2.lt (b3.cell 0) b3.lt hn
  have HX := Lib.hid hw3
  have HQ := Lib.hid hq
  clear q1 q2 q3 b1 b2 b3 hq hw3
  go_enter Tryz.func38, Tryz.ntmps38
  go_upto_region 1 with (fail)
  refine (show Code.wp _ _ _ _ w3 → Code.wp _ _ _ _ _ from fun h => by rw [HX.out] at h; exact h) ?_
  go_wp2_with (first | (refine wpList_load_run 25 (.tmp 3) (.pointer (some ⟨w.heap.size, 0, none⟩)) (.agg (knA k)) ?_ ?_ ?_ ?_ ?_; rfl; rfl; rfl; exact hLk) | (go_at_call 79; refine hp.mono ?_; rintro e w' ⟨A, c, rfl, h1, h2, h3, hq4⟩))
  go_ret
  exact ⟨A, c, rfl, h1, h2, h3, Q.trans HQ.out hq4⟩
end Go.Proofs.YtppnbdbigebhaaaGreatDoor.Known

namespace Go.Proofs.YtppnbdbigebhaaaGreatDoor.Sign
open Go.RowKit Grp Mem _root_.Go.Proofs.YtppnbdbigebhaaaGreatDoor.Code Sha

theorem keyOf_right (x : Int) (h0 : 1 ≤ x) (h1 : x ≤ 2305843009213693949) : keyOf x = (x, gexp 37 x) := by
  unfold keyOf
  rw [if_neg (by omega)]
theorem rightI_of (x : Int) (h0 : 1 ≤ x) (h1 : x ≤ 2305843009213693949) : rightI (x, gexp 37 x) = true := by
  unfold rightI
  dsimp only
  rw [keyOf_right x h0 h1]
  simp [h0]
/-- The commitment of a signature that was made with u. -/
theorem comm_of (x u e : Int) (hx0 : 1 ≤ x) (hx1 : x ≤ 2305843009213693949) (hu0 : 0 ≤ u) (hu1 : u ≤ 9223372036854775807) (he0 : 0 ≤ e) (he1 : e < 2305843009213693950) :
    commI (gexp 37 x) (e, gaddN u (gmulN e x)) = gexp 37 u := by
  have hn : (37 : Int) % 2305843009213693951 ≠ 0 := by decide
  unfold commI gmul
  dsimp only
  have hs : 0 ≤ gaddN u (gmulN e x) ∧ gaddN u (gmulN e x) < 2305843009213693950 := emod_bd _ (by decide)
  rw [gexp_gexp 37 x (2305843009213693950 - e) (by omega) (by omega) hn]
  have hb := emod_bd (x * (2305843009213693950 - e)) (show (0:Int) < 2305843009213693950 by decide)
  rw [gexp_add 37 _ _ (by omega) (by omega) hn]
  refine gexp_mod 37 _ _ ?_ (by omega) hn ?_
  · have := emod_bd (gaddN u (gmulN e x) + x * (2305843009213693950 - e) % 2305843009213693950) (show (0:Int) < 2305843009213693950 by decide)
    omega
  · unfold gaddN gmulN
    rw [Int.mul_sub, Int.mul_comm x 2305843009213693950, Int.mul_comm x e]
    generalize e * x = t
    omega
theorem chalI_bd (r y : Int) (m : ByteArray) : 0 ≤ chalI r y m ∧ chalI r y m < 2305843009213693950 := emod_bd _ (by decide)
theorem gpub (x : Int) (h : x ≤ 9223372036854775807) : 1 ≤ gexp 37 x ∧ gexp 37 x < 2305843009213693951 := by
  have h1 := gexp_bd 37 x
  have h2 := gexp_ne 37 x h (by decide)
  omega
theorem sig_of (x : Int) (m : ByteArray) (h0 : 1 ≤ x) (h1 : x ≤ 2305843009213693949) : sigOf (x, gexp 37 x) m = (sigE x (gexp 37 x) m, sigS x (gexp 37 x) m) := by
  unfold sigOf
  rw [rightI_of x h0 h1, if_pos rfl]
theorem in_of {n : Int} (h : 0 ≤ n ∧ n < 2305843009213693950) : inI n = true := by
  unfold inI
  simp [h.1, h.2]
theorem range_of {p : Int} {s : Int × Int} (hp : 1 ≤ p ∧ p < 2305843009213693951) (h1 : 0 ≤ s.1 ∧ s.1 < 2305843009213693950) (h2 : 0 ≤ s.2 ∧ s.2 < 2305843009213693950) : rangeI p s = true := by
  unfold rangeI
  rw [in_of h1, in_of h2]
  simp [hp.1, hp.2]
/-- What a right key signs is accepted. -/
theorem ver_of (x : Int) (m : ByteArray) (h0 : 1 ≤ x) (h1 : x ≤ 2305843009213693949) : verI (gexp 37 x) m (sigE x (gexp 37 x) m, sigS x (gexp 37 x) m) = true := by
  have hn : 1 ≤ nonceI x m ∧ nonceI x m ≤ 2305843009213693949 := redI_bd _
  have he : 0 ≤ sigE x (gexp 37 x) m ∧ sigE x (gexp 37 x) m < 2305843009213693950 := chalI_bd _ _ _
  have hs : 0 ≤ sigS x (gexp 37 x) m ∧ sigS x (gexp 37 x) m < 2305843009213693950 := emod_bd _ (by decide)
  unfold verI
  rw [range_of (gpub x (by omega)) he hs]
  have hc : commI (gexp 37 x) (sigE x (gexp 37 x) m, sigS x (gexp 37 x) m) = gexp 37 (nonceI x m) := comm_of x _ _ h0 h1 (by omega) (by omega) he.1 he.2
  rw [hc]
  unfold sigE
  simp
abbrev aT : ByteArray := ⟨#[97]⟩
set_option maxRecDepth 100000
theorem f1 : seedKey aT = 361080046605472372 := by decide +kernel
theorem f2 : keyOf 361080046605472372 = (361080046605472372, 2287805972299522828) := by decide +kernel
theorem fg : keyOf (seedKey aT) = (361080046605472372, 2287805972299522828) := by rw [f1, f2]
end Go.Proofs.YtppnbdbigebhaaaGreatDoor.Sign

namespace Go.Proofs.YtppnbdbigebhaaaGreatDoor.Known
open Go.RowKit Grp Mem _root_.Go.Proofs.YtppnbdbigebhaaaGreatDoor.Code Sha Sign _root_.Go.Proofs.YtppnbdbigebhaaaGreatDoor.Item

def smT : ByteArray := ⟨#[48, 48, 48, 48, 48, 48, 48, 48, 48, 48, 48, 48, 48, 48, 48, 49]⟩
abbrev smX : Int := 361080046605472372
abbrev smY : Int := 2287805972299522828
def smB : BallotV := ⟨0, smT, 0, sha emptyT, 0, 0, 0⟩
def smS : BallotV := signBallot (smX, smY) smB
def smI : ItemR := itBallot smS

theorem smY_eq : smY = gexp 37 smX := by
  have h := keyOf_right smX (by decide) (by decide)
  rw [f2] at h
  exact congrArg Prod.snd h
theorem sm_sig (m : ByteArray) : sigOf (smX, smY) m = (sigE smX smY m, sigS smX smY m) := by
  rw [smY_eq]
  exact sig_of smX m (by decide) (by decide)
theorem sm_ver (m : ByteArray) : verI smY m (sigOf (smX, smY) m) = true := by
  rw [sm_sig, smY_eq]
  exact ver_of smX m (by decide) (by decide)
theorem sm_small : SmallB smB := ⟨by decide, by show (sha emptyT).size ≤ 1000000; rw [sha_size]; decide, by intro n hn; simp [smB] at hn; omega⟩
theorem ord_of {n : Int} (h : 0 ≤ n ∧ n < 2305843009213693950) : inOrd n = true := by
  unfold inOrd withinB
  rw [decide_eq_true h.1, decide_eq_true (show n ≤ 2305843009213693949 by omega)]
  rfl
theorem smI_right : itemRight smI = true := by
  have he : inOrd smS.e = true := by
    show inOrd (sigOf (smX, smY) (messageB (itBallot smB))).1 = true
    rw [sm_sig]
    exact ord_of (chalI_bd _ _ _)
  have hs : inOrd smS.s = true := by
    show inOrd (sigOf (smX, smY) (messageB (itBallot smB))).2 = true
    rw [sm_sig]
    exact ord_of (emod_bd _ (by decide))
  have hd : digestB smS.claim = true := by
    show digestB (sha emptyT) = true
    unfold digestB
    rw [sha_size]
    rfl
  have hb : ballotRight smS = true := by
    unfold ballotRight
    rw [he, hs, hd]
    rfl
  show (ballotRight smS && (act0.same act0 && (claim0.same claim0 && dec0.same dec0))) = true
  rw [hb]
  decide
theorem sign_msg (k : Int × Int) (b : BallotV) : messageB (itBallot (signBallot k b)) = messageB (itBallot b) := rfl
theorem sign_sig (k : Int × Int) (b : BallotV) : sigV (itBallot (signBallot k b)) = sigOf k (messageB (itBallot b)) := rfl
theorem smI_signed : signedB [smY] smI = true := by
  unfold signedB
  rw [smI_right, Bool.true_and]
  show (if (2 : Int) = 2 then decide ((0 : Int) < ([smY].length : Int)) && verI ([smY].getD (0 : Int).toNat 0) (messageB smI) (sigV smI) else _) = true
  rw [if_pos rfl]
  show (true && verI smY (messageB smI) (sigV smI)) = true
  rw [Bool.true_and]
  have h1 : messageB smI = messageB (itBallot smB) := sign_msg _ _
  have h2 : sigV smI = sigOf (smX, smY) (messageB (itBallot smB)) := sign_sig _ _
  rw [h1, h2]
  exact sm_ver _
theorem sm_add : addOk [smY] [] smI = true := by
  unfold addOk
  rw [smI_signed]
  rfl
theorem sm_set : addK [smY] [] smI = [smI] := by
  unfold addK
  rw [sm_add]
  rfl
theorem hasD_self (x : ItemR) : hasD [x] (digOf x) = true := (hasD_iff _ _).2 (by unfold digs; rw [List.map_cons]; exact List.mem_cons_self ..)
theorem sm_hasD : hasD [smI] (digOf smI) = true := hasD_self smI
theorem sm_again : addOk [smY] [smI] smI = false := by
  unfold addOk
  rw [sm_hasD]
  simp
theorem sm_want : wantB smT 0 smI = true := rfl
theorem sort_one (x : Found BallotV) : sortB [x] = [x] := by
  unfold sortB sortA
  rcases insOuter_stop2 (ltOf cmpF) [x].toArray [x].toArray.size (by simp) with h | h
  · rw [h]
  · simp at h
theorem sm_ballots : ballotsK smT 0 [smI] = [smS] := by
  unfold ballotsK takeB
  rw [show List.filter (fun x => wantB smT 0 x && itemRight x) [smI] = [smI] by rw [List.filter_cons, sm_want, smI_right]; rfl]
  rw [List.map_cons, List.map_nil, sort_one]
  rfl
theorem sm_filled : Filled [smY] [smI] := by
  have := (Filled.nil [smY]).add smI
  rwa [sm_set] at this
theorem sm_right : rightK [smY] [smI] = true := sm_filled.right (by decide) (by decide)
theorem sm_size : (digOf smI).size = 32 := digOf_size smI_signed
theorem sm_has : hasE [smI] (digOf smI) = true := by
  unfold hasE
  rw [sm_hasD]
  simp [noneB, sm_size]
theorem sm_hasnt (l : List ItemR) : hasE l emptyT = false := rfl
theorem found_self (x : ItemR) (h : noneB (digOf x) = false) : foundIt [x] (digOf x) = x := by
  unfold foundIt findK
  rw [h]
  simp
theorem sm_find : foundIt [smI] (digOf smI) = smI := by
  exact found_self smI (by simp [noneB, sm_size])
theorem sm_dig : setDig [] [] = sha ⟨#[0, 0]⟩ := by
  unfold setDig
  congr 1
end Go.Proofs.YtppnbdbigebhaaaGreatDoor.Known

namespace Go.Proofs.YtppnbdbigebhaaaGreatDoor.Known
open Go.RowKit Grp Mem _root_.Go.Proofs.YtppnbdbigebhaaaGreatDoor.Code Sha Sign _root_.Go.Proofs.YtppnbdbigebhaaaGreatDoor.Item

set_option maxRecDepth 100000 in
set_option maxHeartbeats 1000000 in
theorem new_nil (w : World) : Calls Tryz.prog 37 #[.slice none 0 0] w fun e w' => e = .returned (.agg (knA known0)) ∧ Q w w' := by
  have hq0 := q_new w known0.cells.toArray 25
  have hb := Blk.new w 25 known0.cells.toArray
  obtain ⟨w1, hw1⟩ : ∃ w1, w1 = w.alloc (.cells known0.cells.toArray 25) := ⟨_, rfl⟩
  rw [← hw1] at hq0 hb
  go_enter Tryz.func37, Tryz.ntmps37
  go_wp2_with fail
  refine (show Calls _ _ _ w1 _ → Calls _ _ _ _ _ from fun h => by rw [hw1] at h; exact h) ?_
  refine (Tryz.slices_Clone_int_nil 0 0 w1).mono ?_
  rintro e w' ⟨rfl, hw'⟩
  rw [hw']
  clear hw1 hw'
  go_wp2_with (refine wpList_store_far hb rfl 25 (.tmp 2) (.tmp 5) known0.cells rfl rfl rfl (by kernel_rfl) (kn_all _) (Nat.le_refl 2) ?_)
  intro W hW hbel hfar
  rw [splice_all _ _ (by rfl)] at hW
  have hqW : Q w W := hbel _ _ (Nat.le_refl _) hq0
  clear hfar hbel
  go_wp2_with fail
  exact bodyPost_ret (results_cell_row rfl _ _ w.heap.size 25 (knA known0) (0, 0) _ rfl hW Tryz.underlying25 rfl (by kernel_rfl)) rfl ⟨rfl, hqW⟩

structure SmallCtx (it : ItemR) (bb bs : BallotV) (dg : ByteArray) : Prop where
  key : ∀ w, Tab w → Calls Tryz.prog 32 #[.string ⟨#[97]⟩] w fun e w' => e = .returned (.agg #[.int .i64 smX, .int .i64 smY]) ∧ Q w w'
  bal : ∀ w, (Instr.build 50 #[(1, .string smT), (3, .string (sha emptyT))]).run Tryz.prog w = .ok (.agg (ballotA bb)) w
  sign : ∀ w, Tab w → Calls Tryz.prog 34 #[.agg #[.int .i64 smX, .int .i64 smY], .agg (ballotA bb)] w fun e w' => e = .returned (.agg (ballotA bs)) ∧ Q w w'
  of : ∀ w, Calls Tryz.prog 33 #[.agg (ballotA bs)] w fun e w' => e = .returned (.agg (itA it)) ∧ Q w w'
  add : ∀ k1 w, Tab w → KIn w k1 → k1.sv = [smY] → k1.l = [] → Calls Tryz.prog 36 #[.agg (knA k1), .agg (itA it)] w fun e w' => ∃ k2 : KR, e = .returned (.tuple #[.agg (knA k2), .bool true]) ∧ k2.sv = [smY] ∧ k2.l = [it] ∧ KIn w' k2 ∧ Q w w'
  again : ∀ k2 w, Tab w → KIn w k2 → k2.sv = [smY] → k2.l = [it] → Calls Tryz.prog 36 #[.agg (knA k2), .agg (itA it)] w fun e w' => ∃ k3 : KR, e = .returned (.tuple #[.agg (knA k3), .bool false]) ∧ Q w w'
  ballots : ∀ k2 w, Tab w → KIn w k2 → k2.l = [it] → Calls Tryz.prog 38 #[.agg (knA k2), .string smT, .int .i64 0] w fun e w' => ∃ A c, e = .returned (.slice A 1 c) ∧ Q w w'
  dig : ∀ w, Tab w → Calls Tryz.prog 40 #[.agg (itA it)] w fun e w' => e = .returned (.string dg) ∧ Q w w'
  find : ∀ k2 w, Tab w → KIn w k2 → k2.l = [it] → Calls Tryz.prog 39 #[.agg (knA k2), .string dg] w fun e w' => e = .returned (.tuple #[.agg (itA it), .bool true]) ∧ Q w w'
  right : ∀ k2 w, Tab w → KIn w k2 → k2.sv = [smY] → k2.l = [it] → Calls Tryz.prog 25 #[.agg (knA k2)] w fun e w' => e = .returned (.bool true) ∧ Q w w'
  has : ∀ k2 w, Tab w → KIn w k2 → k2.l = [it] → Calls Tryz.prog 41 #[.agg (knA k2), .string dg] w fun e w' => e = .returned (.bool true) ∧ Q w w'
  hasnt : ∀ k2 w, Tab w → KIn w k2 → Calls Tryz.prog 41 #[.agg (knA k2), .string ⟨#[]⟩] w fun e w' => e = .returned (.bool false) ∧ Q w w'
  nil : ∀ w, Tab w → Calls Tryz.prog 14 #[.agg (knA known0)] w fun e w' => e = .returned (.string (sha ⟨#[0, 0]⟩)) ∧ Q w w'
  kind : it.kind = 2

theorem sm_ctx : SmallCtx smI smB smS (digOf smI) := {
  key := fun w hT => (Key_any aT w hT (by decide)).mono fun e w' ⟨h1, h2⟩ => ⟨by rw [h1, fg]; rfl, h2⟩
  bal := fun w => by kernel_rfl
  sign := fun w hT => signBallot_any (smX, smY) smB w hT (by decide) (by decide) sm_small
  of := fun w => ofBallot_any smS w
  add := fun k1 w hT hK h1 h2 => (add_any k1 smI w hT hK (itBallot_in smS w) (by rw [h2]; exact Nat.zero_le _)).mono fun e w' ⟨k2, e1, e2, e3, e4, e5⟩ => ⟨k2, by rw [e1, h1, h2, sm_add], by rw [e2, h1], by rw [e3, h1, h2, sm_set], e4, e5⟩
  again := fun k2 w hT hK h1 h2 => (add_any k2 smI w hT hK (itBallot_in smS w) (by rw [h2]; decide)).mono fun e w' ⟨k3, e1, _, _, _, e5⟩ => ⟨k3, by rw [e1, h1, h2, sm_again], e5⟩
  ballots := fun k2 w hT hK h2 => (ballots_any k2 smT 0 w hT hK (by rw [h2]; decide)).mono fun e w' ⟨A, c, e1, _, _, _, e5⟩ => ⟨A, c, by rw [e1, h2, sm_ballots]; rfl, e5⟩
  dig := fun w hT => digest_any smI w hT (itBallot_in smS w)
  find := fun k2 w hT hK h2 => (find_any k2 (digOf smI) w hT hK).mono fun e w' ⟨e1, e2⟩ => ⟨by rw [e1, h2, sm_find, sm_has], e2⟩
  right := fun k2 w hT hK h1 h2 => (kright_any k2 w hT hK).mono fun e w' ⟨e1, e2⟩ => ⟨by rw [e1, h1, h2, sm_right], e2⟩
  has := fun k2 w hT hK h2 => (has_any k2 (digOf smI) w hT hK).mono fun e w' ⟨e1, e2⟩ => ⟨by rw [e1, h2, sm_has], e2⟩
  hasnt := fun k2 w hT hK => (has_any k2 emptyT w hT hK).mono fun e w' ⟨e1, e2⟩ => ⟨by rw [e1, sm_hasnt], e2⟩
  nil := fun w hT => (kdigest_any known0 w hT ⟨fun h => by simp [known0] at h, ⟨RowsAt.nil _ _ _ _, by simp [known0]⟩, ⟨Nat.le_refl _, Nat.zero_le _⟩, ⟨Nat.le_refl _, Nat.zero_le _⟩⟩ (Nat.zero_le _) (Nat.zero_le _)).mono fun e w' ⟨e1, e2⟩ => ⟨by rw [e1]; exact congrArg (fun s => Ending.returned (.string s)) sm_dig, e2⟩
  kind := rfl }
end Go.Proofs.YtppnbdbigebhaaaGreatDoor.Known

namespace Go.Proofs.YtppnbdbigebhaaaGreatDoor.Known
open Go.RowKit Grp Mem _root_.Go.Proofs.YtppnbdbigebhaaaGreatDoor.Code Sha Sign _root_.Go.Proofs.YtppnbdbigebhaaaGreatDoor.Item

theorem alloc_item (w : World) : (Instr.alloc 54 true (.tuple #[])).run Tryz.prog w = .ok (.pointer (some ⟨w.heap.size, 0, none⟩)) (w.alloc (.cells (itA item0) 54)) := by kernel_rfl
theorem alloc_known (w : World) : (Instr.alloc 25 true (.tuple #[])).run Tryz.prog w = .ok (.pointer (some ⟨w.heap.size, 0, none⟩)) (w.alloc (.cells (knA known0) 25)) := by kernel_rfl
theorem ints_one (w : World) (n : Int) : Ints (w.alloc (.cells #[.int .i64 n] 3)) (some ⟨w.heap.size, 0, none⟩) [n] := ints_of (RowsAt.one (k := 1) (f := fun n : Int => [Value.int .i64 n]) w 3 n _ rfl)

set_option maxRecDepth 100000 in
set_option maxHeartbeats 4000000 in
theorem small_walk (it : ItemR) (bb bs : BallotV) (dg : ByteArray) (hC : SmallCtx it bb bs dg) (w : World) (hT : Tab w) : Calls Tryz.prog 7 #[] w fun e w' => e = .returned (.bool true) ∧ Q w w' := by
  go_enter Tryz.func7, Tryz.ntmps7
  go_upto_region 2 with (go_at_call 32; refine (hC.key w hT).mono ?_; rintro e w' ⟨rfl, hq0⟩; obtain ⟨y0, rfl⟩ := Wd.next (⟨w, Q.refl w⟩ : Wd w) hq0; clear hq0)
  have hb1 := Blk.new y0.w 66 #[.int .i64 smX, .int .i64 smY]
  have hq1 : Q w _ := Q.trans y0.q (q_new y0.w #[.int .i64 smX, .int .i64 smY] 66)
  obtain ⟨W1, hW1⟩ : ∃ W1, y0.w.alloc (.cells #[.int .i64 smX, .int .i64 smY] 66) = W1 := ⟨_, rfl⟩
  rw [hW1] at hb1 hq1
  rw [hW1]
  obtain ⟨g1, hg1⟩ : ∃ g1, y0.w.heap.size = g1 := ⟨_, rfl⟩
  rw [hg1] at hb1
  rw [hg1]
  clear hg1 hW1 y0
  rename_i K2 hK2
  have hT1 : ∀ y : Wd W1, Tab y.w := fun y => hT.q (Q.trans hq1 y.q)
  have hLk : ∀ z, (∃ y : Wd W1, z = y.w) → (Instr.loadAt 66 (.pointer (some ⟨g1, 0, none⟩))).run Tryz.prog z = .ok (.agg #[.int .i64 smX, .int .i64 smY]) z := by
    rintro z ⟨y, rfl⟩
    exact Wd.load (cs := [.int .i64 smX, .int .i64 smY]) hb1.lt (Blk.range hb1) Tryz.underlying66 rfl (by kernel_rfl) y
  have REST2 : ∀ (g2 : Nat) (w2 : World), Q W1 w2 → W1.heap.size ≤ g2 → Blk w2 g2 54 it.cells.toArray → K2 { tmps := #[.bool false, .pointer (some ⟨g1, 0, none⟩), .pointer (some ⟨g2, 0, none⟩), undef, undef, undef, undef, undef, undef, undef, .agg #[.int .i64 smX, .int .i64 smY], .agg #[.int .i64 smX, .int .i64 smY], .string (sha emptyT), .agg (ballotA bb), .agg (ballotA bs), .agg (itA it), undef, undef, undef, undef, undef, undef, undef, undef, undef, undef, undef, undef, undef, undef, undef, undef, undef, undef, undef, undef, undef, undef, undef, undef, undef, undef, undef, undef, undef, undef, undef, undef, undef, undef, undef, undef, undef, undef, undef, undef, undef, undef, undef, undef, undef, undef, undef, undef, undef, undef, undef, undef, undef, undef, undef, undef, undef, undef, undef, undef, undef, undef, undef, undef, undef, undef, undef, undef, undef], defers := [] } w2 := by
    intro g2 w2 hq2 hgle2 hb2
    refine hK2 _ _ ?_
    clear hK2 hLk
    go_upto_region 3 with (fail)
    rename_i K3 hK3
    have hT2 : ∀ y : Wd w2, Tab y.w := fun y => hT1 ⟨y.w, Q.trans hq2 y.q⟩
    have hb12 := hb1.q hq2
    have cP : ∀ y : Wd w2, y.w.cell? ⟨g1, 1, none⟩ = some (.int .i64 smY) := fun y => (y.blk hb12).cell 1
    have hLi : ∀ z, (∃ y : Wd w2, z = y.w) → (Instr.loadAt 54 (.pointer (some ⟨g2, 0, none⟩))).run Tryz.prog z = .ok (.agg (itA it)) z := by
      rintro z ⟨y, rfl⟩
      exact Wd.load hb2.lt (Blk.range hb2) Tryz.underlying54 rfl (by kernel_rfl) y
    have REST3 : ∀ (g3 : Nat) (k2 : KR) (v19 v20 : Value) (w3 : World), Q w2 w3 → Blk w3 g3 25 k2.cells.toArray → KIn w3 k2 → k2.sv = [smY] → k2.l = [it] → K3 { tmps := #[.bool false, .pointer (some ⟨g1, 0, none⟩), .pointer (some ⟨g2, 0, none⟩), .pointer (some ⟨g3, 0, none⟩), .bool true, undef, undef, undef, undef, undef, .agg #[.int .i64 smX, .int .i64 smY], .agg #[.int .i64 smX, .int .i64 smY], .string (sha emptyT), .agg (ballotA bb), .agg (ballotA bs), .agg (itA it), .tuple #[.agg (knA k2), .bool true], .pointer (some ⟨g1, 1, none⟩), .int .i64 smY, v19, v20, .agg (itA it), .tuple #[.agg (knA k2), .bool true], .agg (knA k2), .bool true, undef, undef, undef, undef, undef, undef, undef, undef, undef, undef, undef, undef, undef, undef, undef, undef, undef, undef, undef, undef, undef, undef, undef, undef, undef, undef, undef, undef, undef, undef, undef, undef, undef, undef, undef, undef, undef, undef, undef, undef, undef, undef, undef, undef, undef, undef, undef, undef, undef, undef, undef, undef, undef, undef, undef, undef, undef, undef, undef, undef], defers := [] } w3 := by
      intro g3 k2 v19 v20 w3 hq3 hb3 hk3 hs3 hl3
      refine hK3 _ _ ?_
      clear hK3 cP hLi
      have hT3 : ∀ y : Wd w3, Tab y.w := fun y => hT2 ⟨y.w, Q.trans hq3 y.q⟩
      have hb23 := hb2.q hq3
      have hLi3 : ∀ y : Wd w3, (Instr.loadAt 54 (.pointer (some ⟨g2, 0, none⟩))).run Tryz.prog y.w = .ok (.agg (itA it)) y.w := Wd.load hb23.lt (Blk.range hb23) Tryz.underlying54 rfl (by kernel_rfl)
      have hLk3 : ∀ y : Wd w3, (Instr.loadAt 25 (.pointer (some ⟨g3, 0, none⟩))).run Tryz.prog y.w = .ok (.agg (knA k2)) y.w := Wd.load hb3.lt (Blk.range hb3) Tryz.underlying25 rfl (by kernel_rfl)
      have hKy3 : ∀ y : Wd w3, KIn y.w k2 := fun y => hk3.q y.q
      have hcL3 : ∀ y : Wd w3, y.w.cell? ⟨g3, 1, none⟩ = some (.slice k2.iA 1 k2.iC) := fun y => by
        have := (y.blk hb3).cell 1
        rw [this]
        show some (Value.slice k2.iA k2.l.length k2.iC) = _
        rw [hl3]
        rfl
      have HQ3 := Lib.hid (Q.trans (Q.trans hq1 hq2) hq3)
      obtain ⟨v3, hv3⟩ := Wd.first w3
      rw [hv3]
      clear hv3
      have hag := fun y : Wd w3 => hC.again k2 y.w (hT3 y) (hKy3 y) hs3 hl3
      go_upto_region 5 with (first | (refine wpList_load_run 25 (.tmp 3) (.pointer (some ⟨g3, 0, none⟩)) (.agg (knA k2)) ?_ ?_ ?_ ?_ ?_; rfl; rfl; rfl; exact hLk3 _) | (refine wpList_load_run 54 (.tmp 2) (.pointer (some ⟨g2, 0, none⟩)) (.agg (itA it)) ?_ ?_ ?_ ?_ ?_; rfl; rfl; rfl; exact hLi3 _) | (go_at_call 36; refine (hag _).mono ?_; rintro e w' ⟨k3, rfl, hq⟩; obtain ⟨ya, rfl⟩ := Wd.next _ hq; clear hq) | (refine wpList_store_blk (Blk.new ya.w 25 known0.cells.toArray) rfl 25 (.tmp 5) (.tmp 29) k3.cells rfl rfl rfl (by kernel_rfl) (kn_all _) (Nat.le_refl 2) ?_))
      intro W4 hW4 hbel4
      have hq4 : Q w3 W4 := hbel4 _ _ ya.q.size (Q.trans ya.q (q_new ya.w (knA known0) 25))
      clear hW4 hbel4
      obtain ⟨g5, hg5⟩ : ∃ g5, ya.w.heap.size = g5 := ⟨_, rfl⟩
      rw [hg5]
      clear hg5 hag ya v3
      have HQ4 := Lib.hid (Q.trans HQ3.out hq4)
      have hT4 : ∀ y : Wd W4, Tab y.w := fun y => hT3 ⟨y.w, Q.trans hq4 y.q⟩
      have hLi4 : ∀ y : Wd W4, (Instr.loadAt 54 (.pointer (some ⟨g2, 0, none⟩))).run Tryz.prog y.w = .ok (.agg (itA it)) y.w := fun y => hLi3 ⟨y.w, Q.trans hq4 y.q⟩
      have hLk4 : ∀ y : Wd W4, (Instr.loadAt 25 (.pointer (some ⟨g3, 0, none⟩))).run Tryz.prog y.w = .ok (.agg (knA k2)) y.w := fun y => hLk3 ⟨y.w, Q.trans hq4 y.q⟩
      have hKy4 : ∀ y : Wd W4, KIn y.w k2 := fun y => hKy3 ⟨y.w, Q.trans hq4 y.q⟩
      have hcL4 : ∀ y : Wd W4, y.w.cell? ⟨g3, 1, none⟩ = some (.slice k2.iA 1 k2.iC) := fun y => hcL3 ⟨y.w, Q.trans hq4 y.q⟩
      have hbal := fun y : Wd W4 => hC.ballots k2 y.w (hT4 y) (hKy4 y) hl3
      obtain ⟨v4, hv4⟩ := Wd.first W4
      rw [hv4]
      clear hv4 hLi3 hLk3 hKy3 hcL3 hT3 hb23 hb3 hk3
      go_upto_region 6 with (first | (refine wpList_load_run 25 (.tmp 3) (.pointer (some ⟨g3, 0, none⟩)) (.agg (knA k2)) ?_ ?_ ?_ ?_ ?_; rfl; rfl; rfl; exact hLk4 _) | (go_at_call 38; refine (hbal _).mono ?_; rintro e w' ⟨A5, c5, rfl, hq⟩; obtain ⟨y5, rfl⟩ := Wd.next _ hq; clear hq))
      rename_i K6 hK6
      clear hbal
      have REST6 : ∀ (g6 : Nat) (w6 : World), Q W4 w6 → Blk w6 g6 54 it.cells.toArray → K6 { tmps := #[.bool false, .pointer (some ⟨g1, 0, none⟩), .pointer (some ⟨g2, 0, none⟩), .pointer (some ⟨g3, 0, none⟩), .bool true, .pointer (some ⟨g5, 0, none⟩), .bool false, .slice A5 1 c5, .pointer (some ⟨g6, 0, none⟩), .bool true, .agg #[.int .i64 smX, .int .i64 smY], .agg #[.int .i64 smX, .int .i64 smY], .string (sha emptyT), .agg (ballotA bb), .agg (ballotA bs), .agg (itA it), .tuple #[.agg (knA k2), .bool true], .pointer (some ⟨g1, 1, none⟩), .int .i64 smY, v19, v20, .agg (itA it), .tuple #[.agg (knA k2), .bool true], .agg (knA k2), .bool true, .tuple #[.agg (knA k3), .bool false], .agg (knA k2), .agg (itA it), .tuple #[.agg (knA k3), .bool false], .agg (knA k3), .bool false, .agg (knA k2), .slice A5 1 c5, .tuple #[.agg (itA it), .bool true], .agg (knA k2), .agg (itA it), .string dg, .tuple #[.agg (itA it), .bool true], .agg (itA it), .bool true, undef, undef, undef, undef, undef, undef, undef, undef, undef, undef, undef, undef, undef, undef, undef, undef, undef, undef, undef, undef, undef, undef, undef, undef, undef, undef, undef, undef, undef, undef, undef, undef, undef, undef, undef, undef, undef, undef, undef, undef, undef, undef, undef, undef, undef], defers := [] } w6 := by
        intro g6 w6 hq6 hb6
        refine hK6 _ _ ?_
        clear hK6
        have HQ6 := Lib.hid (Q.trans HQ4.out hq6)
        have hT6 : ∀ y : Wd w6, Tab y.w := fun y => hT4 ⟨y.w, Q.trans hq6 y.q⟩
        have hLi6 : ∀ y : Wd w6, (Instr.loadAt 54 (.pointer (some ⟨g2, 0, none⟩))).run Tryz.prog y.w = .ok (.agg (itA it)) y.w := fun y => hLi4 ⟨y.w, Q.trans hq6 y.q⟩
        have hLk6 : ∀ y : Wd w6, (Instr.loadAt 25 (.pointer (some ⟨g3, 0, none⟩))).run Tryz.prog y.w = .ok (.agg (knA k2)) y.w := fun y => hLk4 ⟨y.w, Q.trans hq6 y.q⟩
        have hKy6 : ∀ y : Wd w6, KIn y.w k2 := fun y => hKy4 ⟨y.w, Q.trans hq6 y.q⟩
        have hcL6 : ∀ y : Wd w6, y.w.cell? ⟨g3, 1, none⟩ = some (.slice k2.iA 1 k2.iC) := fun y => hcL4 ⟨y.w, Q.trans hq6 y.q⟩
        have hcK6 : ∀ y : Wd w6, y.w.cell? ⟨g6, 0, none⟩ = some (.int .i64 2) := fun y => by
          have := (y.blk hb6).cell 0
          rw [this]
          show some (Value.int .i64 it.kind) = _
          rw [hC.kind]
        have hr6 := fun y : Wd w6 => hC.right k2 y.w (hT6 y) (hKy6 y) hs3 hl3
        have hn6 := fun y : Wd w6 => hC.hasnt k2 y.w (hT6 y) (hKy6 y)
        have hh6 := fun y : Wd w6 => hC.has k2 y.w (hT6 y) (hKy6 y) hl3
        have hd6 := fun y : Wd w6 => hC.dig y.w (hT6 y)
        have hz6 := fun y : Wd w6 => hC.nil y.w (hT6 y)
        have hsh6 := fun y : Wd w6 => Sha_any ⟨#[0, 0]⟩ y.w (hT6 y) (by decide)
        obtain ⟨v6, hv6⟩ := Wd.first w6
        rw [hv6]
        clear hv6 hLi4 hLk4 hKy4 hcL4 hT4 hb6
        generalize sha ⟨#[0, 0]⟩ = sz at hz6 hsh6
        dsimp only
        go_upto_region 7 with (fail)
        refine wp_region_wd v6 (by kernel_rfl) (by kernel_rfl) ?_
        repeat (first | (refine wpQuiet_load_run 25 (.tmp 3) (.pointer (some ⟨g3, 0, none⟩)) (.agg (knA k2)) ?_ ?_ ?_ ?_ ?_; rfl; rfl; rfl; exact hLk6; dsimp only [Act.put]; simp only [List.setIfInBounds_toArray, List.set_cons_succ, List.set_cons_zero]) | (refine wpQuiet_load_run 54 (.tmp 2) (.pointer (some ⟨g2, 0, none⟩)) (.agg (itA it)) ?_ ?_ ?_ ?_ ?_; rfl; rfl; rfl; exact hLi6; dsimp only [Act.put]; simp only [List.setIfInBounds_toArray, List.set_cons_succ, List.set_cons_zero]) | go_big_quiet_step (first | (go_at_call 37; exact Wd.call _ (new_nil _)) | (go_at_call 14; exact Wd.call _ (hz6 _)) | (go_at_call 35; exact Wd.call _ (hsh6 _)) | (go_at_call 25; exact Wd.call _ (hr6 _)) | (go_at_call 41; first | with_reducible exact Wd.call _ (hn6 _) | with_reducible exact Wd.call _ (hh6 _)) | (go_at_call 40; exact Wd.call _ (hd6 _))))
        refine wpQuiet_nil ?_
        rintro w7 ⟨y, rfl⟩
        have HY := Lib.hid y.q
        go_wp2_with fail
        go_ret
        exact ⟨rfl, Q.trans HQ6.out HY.out⟩
      refine wp_region_S (fun z => ∃ y : Wd W4, z = y.w) (by kernel_rfl) ⟨⟨_, y5.q.drew⟩, rfl⟩ ?_
      rintro _ ⟨y0, rfl⟩
      refine held_read 0 (v := .agg (knA k2)) rfl (by kernel_rfl) (by kernel_rfl) (by kernel_rfl) (by intro c a d v w h; cases d <;> exact h) rfl ⟨_, rfl⟩ (fun z hz => exec_load 25 (.tmp 3) _ _ rfl rfl (by obtain ⟨y, rfl⟩ := hz; exact hLk4 y)) ?_
      try simp only [Act.put, List.setIfInBounds_toArray, List.set_cons_succ, List.set_cons_zero]
      refine held_read 1 (v := .agg (itA it)) rfl (by kernel_rfl) (by kernel_rfl) (by kernel_rfl) (by intro c a d v w h; cases d <;> exact h) rfl ⟨_, rfl⟩ (fun z hz => exec_load 54 (.tmp 2) _ _ rfl rfl (by obtain ⟨y, rfl⟩ := hz; exact hLi4 y)) ?_
      try simp only [Act.put, List.setIfInBounds_toArray, List.set_cons_succ, List.set_cons_zero]
      refine held_fork 2 7 rfl rfl (by kernel_rfl) rfl rfl (fun K' hK' => ?_) (fun K' hK' => ?_)
      · go_simp
        refine (hC.dig y0.w (hT4 y0)).mono ?_
        rintro e w' ⟨rfl, hq⟩
        obtain ⟨y1, rfl⟩ := Wd.next y0 hq
        refine hK' _ _ ⟨y1, rfl⟩ ?_
        clear hK' K' hq
        try simp only [Act.put, List.setIfInBounds_toArray, List.set_cons_succ, List.set_cons_zero]
        refine held_fork 3 7 rfl rfl (by kernel_rfl) rfl rfl (fun K' hK' => ?_) (fun K' hK' => ?_)
        · go_simp
          refine (hC.find k2 y1.w (hT4 y1) (hKy4 y1) hl3).mono ?_
          rintro e w' ⟨rfl, hq⟩
          obtain ⟨y2, rfl⟩ := Wd.next y1 hq
          refine hK' _ _ ⟨y2, rfl⟩ ?_
          clear hK' K' hq
          try simp only [Act.put, List.setIfInBounds_toArray, List.set_cons_succ, List.set_cons_zero]
          refine held_pure 4 (v := .tuple #[.agg (itA it), .bool true]) rfl (by kernel_rfl) (by kernel_rfl) (by kernel_rfl) (by intro c a d v w h; cases d <;> exact h) rfl ⟨_, rfl⟩ (fun w => by rfl) ?_
          try simp only [Act.put, List.setIfInBounds_toArray, List.set_cons_succ, List.set_cons_zero]
          refine held_pure 5 (v := .agg (itA it)) rfl (by kernel_rfl) (by kernel_rfl) (by kernel_rfl) (by intro c a d v w h; cases d <;> exact h) rfl ⟨_, rfl⟩ (fun w => by rfl) ?_
          try simp only [Act.put, List.setIfInBounds_toArray, List.set_cons_succ, List.set_cons_zero]
          refine held_pure 6 (v := .bool true) rfl (by kernel_rfl) (by kernel_rfl) (by kernel_rfl) (by intro c a d v w h; cases d <;> exact h) rfl ⟨_, rfl⟩ (fun w => by rfl) ?_
          try simp only [Act.put, List.setIfInBounds_toArray, List.set_cons_succ, List.set_cons_zero]
          refine held_one 7 rfl (by kernel_rfl) rfl (fun K' hK' => ?_)
          refine wp_alloc_run 54 _ rfl (alloc_item _) ?_
          have hbg := Blk.new y2.w 54 (itA item0)
          have hgn := y2.q.size
          obtain ⟨y3, hy2⟩ := Wd.next y2 (q_new y2.w (itA item0) 54)
          rw [hy2] at hbg
          rw [hy2]
          obtain ⟨g, hg⟩ : ∃ g, y2.w.heap.size = g := ⟨_, rfl⟩
          rw [hg] at hbg hgn
          refine hK' _ _ ⟨y3, rfl⟩ ?_
          clear hK' K' hy2
          try simp only [Act.put, List.setIfInBounds_toArray, List.set_cons_succ, List.set_cons_zero]
          rw [hg]
          clear hg
          refine held_one 8 rfl (by kernel_rfl) rfl (fun K' hK' => ?_)
          refine wp_store_mid 54 (.tmp 8) (.tmp 38) rfl g 0 (itA it) rfl rfl (show y3.w.there g 0 49 by simpa using hbg.there (n := 49) (Nat.le_refl 49)) (by kernel_rfl) (it_all _) ?_
          have hqs : Q W4 (y3.w.setCells g 0 it.cells) := below_setCells hgn it.cells 0 W4 y3.w y3.q
          have hsc : Blk (y3.w.setCells g 0 it.cells) g 54 it.cells.toArray := by
            have := Blk.setCells it.cells 0 _ y3.w hbg (Nat.le_refl 49)
            rwa [splice_all _ _ (by rfl)] at this
          refine hK' _ _ ⟨⟨_, hqs⟩, rfl⟩ ?_
          clear hK' K'
          try simp only [Act.put, List.setIfInBounds_toArray, List.set_cons_succ, List.set_cons_zero]
          refine held_pure 9 (v := .bool true) rfl (by kernel_rfl) (by kernel_rfl) (by kernel_rfl) (by intro c a d v w h; cases d <;> exact h) rfl ⟨⟨_, hqs⟩, rfl⟩ (fun w => by rfl) ?_
          try simp only [Act.put, List.setIfInBounds_toArray, List.set_cons_succ, List.set_cons_zero]
          refine wpAnyH_done (by kernel_rfl) ?_ _
          exact REST6 g _ hqs hsc
        · refine wp_alloc_run 54 _ rfl (alloc_item _) ?_
          have hbg := Blk.new y1.w 54 (itA item0)
          have hgn := y1.q.size
          obtain ⟨y2, hy2⟩ := Wd.next y1 (q_new y1.w (itA item0) 54)
          rw [hy2] at hbg
          rw [hy2]
          obtain ⟨g, hg⟩ : ∃ g, y1.w.heap.size = g := ⟨_, rfl⟩
          rw [hg] at hbg hgn
          refine hK' _ _ ⟨y2, rfl⟩ ?_
          clear hK' K' hy2
          try simp only [Act.put, List.setIfInBounds_toArray, List.set_cons_succ, List.set_cons_zero]
          rw [hg]
          clear hg
          refine held_one 3 rfl (by kernel_rfl) rfl (fun K' hK' => ?_)
          go_simp
          refine (hC.find k2 y2.w (hT4 y2) (hKy4 y2) hl3).mono ?_
          rintro e w' ⟨rfl, hq⟩
          have hbg := hbg.q hq
          obtain ⟨y3, rfl⟩ := Wd.next y2 hq
          refine hK' _ _ ⟨y3, rfl⟩ ?_
          clear hK' K' hq
          try simp only [Act.put, List.setIfInBounds_toArray, List.set_cons_succ, List.set_cons_zero]
          refine held_pure 4 (v := .tuple #[.agg (itA it), .bool true]) rfl (by kernel_rfl) (by kernel_rfl) (by kernel_rfl) (by intro c a d v w h; cases d <;> exact h) rfl ⟨_, rfl⟩ (fun w => by rfl) ?_
          try simp only [Act.put, List.setIfInBounds_toArray, List.set_cons_succ, List.set_cons_zero]
          refine held_pure 5 (v := .agg (itA it)) rfl (by kernel_rfl) (by kernel_rfl) (by kernel_rfl) (by intro c a d v w h; cases d <;> exact h) rfl ⟨_, rfl⟩ (fun w => by rfl) ?_
          try simp only [Act.put, List.setIfInBounds_toArray, List.set_cons_succ, List.set_cons_zero]
          refine held_pure 6 (v := .bool true) rfl (by kernel_rfl) (by kernel_rfl) (by kernel_rfl) (by intro c a d v w h; cases d <;> exact h) rfl ⟨_, rfl⟩ (fun w => by rfl) ?_
          try simp only [Act.put, List.setIfInBounds_toArray, List.set_cons_succ, List.set_cons_zero]
          refine held_one 8 rfl (by kernel_rfl) rfl (fun K' hK' => ?_)
          refine wp_store_mid 54 (.tmp 8) (.tmp 38) rfl g 0 (itA it) rfl rfl (show y3.w.there g 0 49 by simpa using hbg.there (n := 49) (Nat.le_refl 49)) (by kernel_rfl) (it_all _) ?_
          have hqs : Q W4 (y3.w.setCells g 0 it.cells) := below_setCells hgn it.cells 0 W4 y3.w y3.q
          have hsc : Blk (y3.w.setCells g 0 it.cells) g 54 it.cells.toArray := by
            have := Blk.setCells it.cells 0 _ y3.w hbg (Nat.le_refl 49)
            rwa [splice_all _ _ (by rfl)] at this
          refine hK' _ _ ⟨⟨_, hqs⟩, rfl⟩ ?_
          clear hK' K'
          try simp only [Act.put, List.setIfInBounds_toArray, List.set_cons_succ, List.set_cons_zero]
          refine held_pure 9 (v := .bool true) rfl (by kernel_rfl) (by kernel_rfl) (by kernel_rfl) (by intro c a d v w h; cases d <;> exact h) rfl ⟨⟨_, hqs⟩, rfl⟩ (fun w => by rfl) ?_
          try simp only [Act.put, List.setIfInBounds_toArray, List.set_cons_succ, List.set_cons_zero]
          refine wpAnyH_done (by kernel_rfl) ?_ _
          exact REST6 g _ hqs hsc
      · refine wp_alloc_run 54 _ rfl (alloc_item _) ?_
        have hbg := Blk.new y0.w 54 (itA item0)
        have hgn := y0.q.size
        obtain ⟨y1, hy2⟩ := Wd.next y0 (q_new y0.w (itA item0) 54)
        rw [hy2] at hbg
        rw [hy2]
        obtain ⟨g, hg⟩ : ∃ g, y0.w.heap.size = g := ⟨_, rfl⟩
        rw [hg] at hbg hgn
        refine hK' _ _ ⟨y1, rfl⟩ ?_
        clear hK' K' hy2
        try simp only [Act.put, List.setIfInBounds_toArray, List.set_cons_succ, List.set_cons_zero]
        rw [hg]
        clear hg
        refine held_one 2 rfl (by kernel_rfl) rfl (fun K' hK' => ?_)
        go_simp
        refine (hC.dig y1.w (hT4 y1)).mono ?_
        rintro e w' ⟨rfl, hq⟩
        have hbg := hbg.q hq
        obtain ⟨y2, rfl⟩ := Wd.next y1 hq
        refine hK' _ _ ⟨y2, rfl⟩ ?_
        clear hK' K' hq
        try simp only [Act.put, List.setIfInBounds_toArray, List.set_cons_succ, List.set_cons_zero]
        refine held_one 3 rfl (by kernel_rfl) rfl (fun K' hK' => ?_)
        go_simp
        refine (hC.find k2 y2.w (hT4 y2) (hKy4 y2) hl3).mono ?_
        rintro e w' ⟨rfl, hq⟩
        have hbg := hbg.q hq
        obtain ⟨y3, rfl⟩ := Wd.next y2 hq
        refine hK' _ _ ⟨y3, rfl⟩ ?_
        clear hK' K' hq
        try simp only [Act.put, List.setIfInBounds_toArray, List.set_cons_succ, List.set_cons_zero]
        refine held_pure 4 (v := .tuple #[.agg (itA it), .bool true]) rfl (by kernel_rfl) (by kernel_rfl) (by kernel_rfl) (by intro c a d v w h; cases d <;> exact h) rfl ⟨_, rfl⟩ (fun w => by rfl) ?_
        try simp only [Act.put, List.setIfInBounds_toArray, List.set_cons_succ, List.set_cons_zero]
        refine held_pure 5 (v := .agg (itA it)) rfl (by kernel_rfl) (by kernel_rfl) (by kernel_rfl) (by intro c a d v w h; cases d <;> exact h) rfl ⟨_, rfl⟩ (fun w => by rfl) ?_
        try simp only [Act.put, List.setIfInBounds_toArray, List.set_cons_succ, List.set_cons_zero]
        refine held_pure 6 (v := .bool true) rfl (by kernel_rfl) (by kernel_rfl) (by kernel_rfl) (by intro c a d v w h; cases d <;> exact h) rfl ⟨_, rfl⟩ (fun w => by rfl) ?_
        try simp only [Act.put, List.setIfInBounds_toArray, List.set_cons_succ, List.set_cons_zero]
        refine held_one 8 rfl (by kernel_rfl) rfl (fun K' hK' => ?_)
        refine wp_store_mid 54 (.tmp 8) (.tmp 38) rfl g 0 (itA it) rfl rfl (show y3.w.there g 0 49 by simpa using hbg.there (n := 49) (Nat.le_refl 49)) (by kernel_rfl) (it_all _) ?_
        have hqs : Q W4 (y3.w.setCells g 0 it.cells) := below_setCells hgn it.cells 0 W4 y3.w y3.q
        have hsc : Blk (y3.w.setCells g 0 it.cells) g 54 it.cells.toArray := by
          have := Blk.setCells it.cells 0 _ y3.w hbg (Nat.le_refl 49)
          rwa [splice_all _ _ (by rfl)] at this
        refine hK' _ _ ⟨⟨_, hqs⟩, rfl⟩ ?_
        clear hK' K'
        try simp only [Act.put, List.setIfInBounds_toArray, List.set_cons_succ, List.set_cons_zero]
        refine held_pure 9 (v := .bool true) rfl (by kernel_rfl) (by kernel_rfl) (by kernel_rfl) (by intro c a d v w h; cases d <;> exact h) rfl ⟨⟨_, hqs⟩, rfl⟩ (fun w => by rfl) ?_
        try simp only [Act.put, List.setIfInBounds_toArray, List.set_cons_succ, List.set_cons_zero]
        refine wpAnyH_done (by kernel_rfl) ?_ _
        exact REST6 g _ hqs hsc
    refine wp_region_S (fun z => ∃ y : Wd w2, z = y.w) (by kernel_rfl) ⟨⟨_, (Q.refl w2).drew⟩, rfl⟩ ?_
    rintro _ ⟨y0, rfl⟩
    refine held_pure 0 (v := .pointer (some ⟨g1, 1, none⟩)) rfl (by kernel_rfl) (by kernel_rfl) (by kernel_rfl) (by intro c a d v w h; cases d <;> exact h) rfl ⟨_, rfl⟩ (fun w => by rfl) ?_
    try simp only [Act.put, List.setIfInBounds_toArray, List.set_cons_succ, List.set_cons_zero]
    refine held_read 1 (v := .int .i64 smY) rfl (by kernel_rfl) (by kernel_rfl) (by kernel_rfl) (by intro c a d v w h; cases d <;> exact h) rfl ⟨_, rfl⟩ (by rintro z ⟨y, rfl⟩; go_simp) ?_
    try simp only [Act.put, List.setIfInBounds_toArray, List.set_cons_succ, List.set_cons_zero]
    refine held_read 4 (v := .agg (itA it)) rfl (by kernel_rfl) (by kernel_rfl) (by kernel_rfl) (by intro c a d v w h; cases d <;> exact h) rfl ⟨_, rfl⟩ (fun z hz => exec_load 54 (.tmp 2) _ _ rfl rfl (hLi z hz)) ?_
    try simp only [Act.put, List.setIfInBounds_toArray, List.set_cons_succ, List.set_cons_zero]
    refine held_fork 2 9 rfl rfl (by kernel_rfl) rfl rfl (fun K' hK' => ?_) (fun K' hK' => ?_)
    · go_simp
      have hSl := ints_one y0.w smY
      have hq := q_new y0.w #[.int .i64 smY] 3
      obtain ⟨y1, hn⟩ := Wd.next y0 hq
      rw [hn] at hSl
      rw [hn]
      clear hn
      refine hK' _ _ ⟨y1, rfl⟩ ?_
      clear hK' K' hq
      try simp only [Act.put, List.setIfInBounds_toArray, List.set_cons_succ, List.set_cons_zero]
      obtain ⟨gs, hgs⟩ : ∃ gs, y0.w.heap.size = gs := ⟨_, rfl⟩
      rw [hgs] at hSl
      rw [hgs]
      clear hgs
      refine held_fork 3 9 rfl rfl (by kernel_rfl) rfl rfl (fun K' hK' => ?_) (fun K' hK' => ?_)
      · go_simp
        refine (new_any (some ⟨gs, 0, none⟩) 1 [smY] y1.w hSl (by decide)).mono ?_
        rintro e w' ⟨k1, rfl, hks1, hkl1, hKk, hq⟩
        have hSl := hSl.q hq
        obtain ⟨y2, rfl⟩ := Wd.next y1 hq
        refine hK' _ _ ⟨y2, rfl⟩ ?_
        clear hK' K' hq
        try simp only [Act.put, List.setIfInBounds_toArray, List.set_cons_succ, List.set_cons_zero]
        refine held_fork 5 9 rfl rfl (by kernel_rfl) rfl rfl (fun K' hK' => ?_) (fun K' hK' => ?_)
        · go_simp
          refine (hC.add k1 y2.w (hT2 y2) hKk hks1 hkl1).mono ?_
          rintro e w' ⟨k2, rfl, hks2, hkl2, hKk2, hq⟩
          have hSl := hSl.q hq
          have hKk := hKk.q hq
          obtain ⟨y3, rfl⟩ := Wd.next y2 hq
          refine hK' _ _ ⟨y3, rfl⟩ ?_
          clear hK' K' hq
          try simp only [Act.put, List.setIfInBounds_toArray, List.set_cons_succ, List.set_cons_zero]
          refine held_pure 6 (v := .tuple #[.agg (knA k2), .bool true]) rfl (by kernel_rfl) (by kernel_rfl) (by kernel_rfl) (by intro c a d v w h; cases d <;> exact h) rfl ⟨_, rfl⟩ (fun w => by rfl) ?_
          try simp only [Act.put, List.setIfInBounds_toArray, List.set_cons_succ, List.set_cons_zero]
          refine held_pure 7 (v := .agg (knA k2)) rfl (by kernel_rfl) (by kernel_rfl) (by kernel_rfl) (by intro c a d v w h; cases d <;> exact h) rfl ⟨_, rfl⟩ (fun w => by rfl) ?_
          try simp only [Act.put, List.setIfInBounds_toArray, List.set_cons_succ, List.set_cons_zero]
          refine held_pure 8 (v := .bool true) rfl (by kernel_rfl) (by kernel_rfl) (by kernel_rfl) (by intro c a d v w h; cases d <;> exact h) rfl ⟨_, rfl⟩ (fun w => by rfl) ?_
          try simp only [Act.put, List.setIfInBounds_toArray, List.set_cons_succ, List.set_cons_zero]
          refine held_one 9 rfl (by kernel_rfl) rfl (fun K' hK' => ?_)
          have hSl := hSl.q (q_new y3.w (knA known0) 25)
          have hKk := hKk.q (q_new y3.w (knA known0) 25)
          have hKk2 := hKk2.q (q_new y3.w (knA known0) 25)
          refine wp_alloc_run 25 _ rfl (alloc_known _) ?_
          have hbg := Blk.new y3.w 25 (knA known0)
          have hgn := y3.q.size
          obtain ⟨y4, hy2⟩ := Wd.next y3 (q_new y3.w (knA known0) 25)
          rw [hy2] at hbg hSl hKk hKk2
          rw [hy2]
          obtain ⟨g, hg⟩ : ∃ g, y3.w.heap.size = g := ⟨_, rfl⟩
          rw [hg] at hbg hgn
          refine hK' _ _ ⟨y4, rfl⟩ ?_
          clear hK' K' hy2
          try simp only [Act.put, List.setIfInBounds_toArray, List.set_cons_succ, List.set_cons_zero]
          rw [hg]
          clear hg
          refine held_one 10 rfl (by kernel_rfl) rfl (fun K' hK' => ?_)
          refine wp_store_mid 25 (.tmp 3) (.tmp 23) rfl g 0 (knA k2) rfl rfl (show y4.w.there g 0 2 by simpa using hbg.there (n := 2) (Nat.le_refl 2)) (by kernel_rfl) (kn_all _) ?_
          have hqs : Q w2 (y4.w.setCells g 0 k2.cells) := below_setCells hgn k2.cells 0 w2 y4.w y4.q
          have hsc : Blk (y4.w.setCells g 0 k2.cells) g 25 k2.cells.toArray := by
            have := Blk.setCells k2.cells 0 _ y4.w hbg (Nat.le_refl 2)
            rwa [splice_all _ _ (by rfl)] at this
          refine hK' _ _ ⟨⟨_, hqs⟩, rfl⟩ ?_
          clear hK' K'
          try simp only [Act.put, List.setIfInBounds_toArray, List.set_cons_succ, List.set_cons_zero]
          have honly : ∀ o' v, y4.w.cell? ⟨g, o', none⟩ = some v → ∃ A n c, v = .slice A n c := by
            intro o' v hv
            rw [hbg.cell] at hv
            rcases o' with _ | _ | n
            · exact ⟨_, _, _, (Option.some.inj hv).symm⟩
            · exact ⟨_, _, _, (Option.some.inj hv).symm⟩
            · simp [KR.cells, known0, knA] at hv
          have hfar := fun b (hne : b ≠ g) => setCells_far (g := g) hne k2.cells 0 y4.w
          have hside : Aside y4.w (y4.w.setCells g 0 k2.cells) g := ⟨honly, hfar, (below_setCells (Nat.le_refl _) k2.cells 0 y4.w y4.w (Below.refl g y4.w)).size⟩
          have hK3 := hside.known hKk2
          refine held_pure 11 (v := .bool true) rfl (by kernel_rfl) (by kernel_rfl) (by kernel_rfl) (by intro c a d v w h; cases d <;> exact h) rfl ⟨⟨_, hqs⟩, rfl⟩ (fun w => by rfl) ?_
          try simp only [Act.put, List.setIfInBounds_toArray, List.set_cons_succ, List.set_cons_zero]
          refine wpAnyH_done (by kernel_rfl) ?_ _
          exact REST3 g k2 _ _ _ hqs hsc hK3 hks2 hkl2
        · have hSl := hSl.q (q_new y2.w (knA known0) 25)
          have hKk := hKk.q (q_new y2.w (knA known0) 25)
          refine wp_alloc_run 25 _ rfl (alloc_known _) ?_
          have hbg := Blk.new y2.w 25 (knA known0)
          have hgn := y2.q.size
          obtain ⟨y3, hy2⟩ := Wd.next y2 (q_new y2.w (knA known0) 25)
          rw [hy2] at hbg hSl hKk
          rw [hy2]
          obtain ⟨g, hg⟩ : ∃ g, y2.w.heap.size = g := ⟨_, rfl⟩
          rw [hg] at hbg hgn
          refine hK' _ _ ⟨y3, rfl⟩ ?_
          clear hK' K' hy2
          try simp only [Act.put, List.setIfInBounds_toArray, List.set_cons_succ, List.set_cons_zero]
          rw [hg]
          clear hg
          refine held_one 5 rfl (by kernel_rfl) rfl (fun K' hK' => ?_)
          go_simp
          refine (hC.add k1 y3.w (hT2 y3) hKk hks1 hkl1).mono ?_
          rintro e w' ⟨k2, rfl, hks2, hkl2, hKk2, hq⟩
          have hSl := hSl.q hq
          have hKk := hKk.q hq
          have hbg := hbg.q hq
          obtain ⟨y4, rfl⟩ := Wd.next y3 hq
          refine hK' _ _ ⟨y4, rfl⟩ ?_
          clear hK' K' hq
          try simp only [Act.put, List.setIfInBounds_toArray, List.set_cons_succ, List.set_cons_zero]
          refine held_pure 6 (v := .tuple #[.agg (knA k2), .bool true]) rfl (by kernel_rfl) (by kernel_rfl) (by kernel_rfl) (by intro c a d v w h; cases d <;> exact h) rfl ⟨_, rfl⟩ (fun w => by rfl) ?_
          try simp only [Act.put, List.setIfInBounds_toArray, List.set_cons_succ, List.set_cons_zero]
          refine held_pure 7 (v := .agg (knA k2)) rfl (by kernel_rfl) (by kernel_rfl) (by kernel_rfl) (by intro c a d v w h; cases d <;> exact h) rfl ⟨_, rfl⟩ (fun w => by rfl) ?_
          try simp only [Act.put, List.setIfInBounds_toArray, List.set_cons_succ, List.set_cons_zero]
          refine held_pure 8 (v := .bool true) rfl (by kernel_rfl) (by kernel_rfl) (by kernel_rfl) (by intro c a d v w h; cases d <;> exact h) rfl ⟨_, rfl⟩ (fun w => by rfl) ?_
          try simp only [Act.put, List.setIfInBounds_toArray, List.set_cons_succ, List.set_cons_zero]
          refine held_one 10 rfl (by kernel_rfl) rfl (fun K' hK' => ?_)
          refine wp_store_mid 25 (.tmp 3) (.tmp 23) rfl g 0 (knA k2) rfl rfl (show y4.w.there g 0 2 by simpa using hbg.there (n := 2) (Nat.le_refl 2)) (by kernel_rfl) (kn_all _) ?_
          have hqs : Q w2 (y4.w.setCells g 0 k2.cells) := below_setCells hgn k2.cells 0 w2 y4.w y4.q
          have hsc : Blk (y4.w.setCells g 0 k2.cells) g 25 k2.cells.toArray := by
            have := Blk.setCells k2.cells 0 _ y4.w hbg (Nat.le_refl 2)
            rwa [splice_all _ _ (by rfl)] at this
          refine hK' _ _ ⟨⟨_, hqs⟩, rfl⟩ ?_
          clear hK' K'
          try simp only [Act.put, List.setIfInBounds_toArray, List.set_cons_succ, List.set_cons_zero]
          have honly : ∀ o' v, y4.w.cell? ⟨g, o', none⟩ = some v → ∃ A n c, v = .slice A n c := by
            intro o' v hv
            rw [hbg.cell] at hv
            rcases o' with _ | _ | n
            · exact ⟨_, _, _, (Option.some.inj hv).symm⟩
            · exact ⟨_, _, _, (Option.some.inj hv).symm⟩
            · simp [KR.cells, known0, knA] at hv
          have hfar := fun b (hne : b ≠ g) => setCells_far (g := g) hne k2.cells 0 y4.w
          have hside : Aside y4.w (y4.w.setCells g 0 k2.cells) g := ⟨honly, hfar, (below_setCells (Nat.le_refl _) k2.cells 0 y4.w y4.w (Below.refl g y4.w)).size⟩
          have hK3 := hside.known hKk2
          refine held_pure 11 (v := .bool true) rfl (by kernel_rfl) (by kernel_rfl) (by kernel_rfl) (by intro c a d v w h; cases d <;> exact h) rfl ⟨⟨_, hqs⟩, rfl⟩ (fun w => by rfl) ?_
          try simp only [Act.put, List.setIfInBounds_toArray, List.set_cons_succ, List.set_cons_zero]
          refine wpAnyH_done (by kernel_rfl) ?_ _
          exact REST3 g k2 _ _ _ hqs hsc hK3 hks2 hkl2
      · have hSl := hSl.q (q_new y1.w (knA known0) 25)
        refine wp_alloc_run 25 _ rfl (alloc_known _) ?_
        have hbg := Blk.new y1.w 25 (knA known0)
        have hgn := y1.q.size
        obtain ⟨y2, hy2⟩ := Wd.next y1 (q_new y1.w (knA known0) 25)
        rw [hy2] at hbg hSl
        rw [hy2]
        obtain ⟨g, hg⟩ : ∃ g, y1.w.heap.size = g := ⟨_, rfl⟩
        rw [hg] at hbg hgn
        refine hK' _ _ ⟨y2, rfl⟩ ?_
        clear hK' K' hy2
        try simp only [Act.put, List.setIfInBounds_toArray, List.set_cons_succ, List.set_cons_zero]
        rw [hg]
        clear hg
        refine held_one 3 rfl (by kernel_rfl) rfl (fun K' hK' => ?_)
        go_simp
        refine (new_any (some ⟨gs, 0, none⟩) 1 [smY] y2.w hSl (by decide)).mono ?_
        rintro e w' ⟨k1, rfl, hks1, hkl1, hKk, hq⟩
        have hSl := hSl.q hq
        have hbg := hbg.q hq
        obtain ⟨y3, rfl⟩ := Wd.next y2 hq
        refine hK' _ _ ⟨y3, rfl⟩ ?_
        clear hK' K' hq
        try simp only [Act.put, List.setIfInBounds_toArray, List.set_cons_succ, List.set_cons_zero]
        refine held_one 5 rfl (by kernel_rfl) rfl (fun K' hK' => ?_)
        go_simp
        refine (hC.add k1 y3.w (hT2 y3) hKk hks1 hkl1).mono ?_
        rintro e w' ⟨k2, rfl, hks2, hkl2, hKk2, hq⟩
        have hSl := hSl.q hq
        have hKk := hKk.q hq
        have hbg := hbg.q hq
        obtain ⟨y4, rfl⟩ := Wd.next y3 hq
        refine hK' _ _ ⟨y4, rfl⟩ ?_
        clear hK' K' hq
        try simp only [Act.put, List.setIfInBounds_toArray, List.set_cons_succ, List.set_cons_zero]
        refine held_pure 6 (v := .tuple #[.agg (knA k2), .bool true]) rfl (by kernel_rfl) (by kernel_rfl) (by kernel_rfl) (by intro c a d v w h; cases d <;> exact h) rfl ⟨_, rfl⟩ (fun w => by rfl) ?_
        try simp only [Act.put, List.setIfInBounds_toArray, List.set_cons_succ, List.set_cons_zero]
        refine held_pure 7 (v := .agg (knA k2)) rfl (by kernel_rfl) (by kernel_rfl) (by kernel_rfl) (by intro c a d v w h; cases d <;> exact h) rfl ⟨_, rfl⟩ (fun w => by rfl) ?_
        try simp only [Act.put, List.setIfInBounds_toArray, List.set_cons_succ, List.set_cons_zero]
        refine held_pure 8 (v := .bool true) rfl (by kernel_rfl) (by kernel_rfl) (by kernel_rfl) (by intro c a d v w h; cases d <;> exact h) rfl ⟨_, rfl⟩ (fun w => by rfl) ?_
        try simp only [Act.put, List.setIfInBounds_toArray, List.set_cons_succ, List.set_cons_zero]
        refine held_one 10 rfl (by kernel_rfl) rfl (fun K' hK' => ?_)
        refine wp_store_mid 25 (.tmp 3) (.tmp 23) rfl g 0 (knA k2) rfl rfl (show y4.w.there g 0 2 by simpa using hbg.there (n := 2) (Nat.le_refl 2)) (by kernel_rfl) (kn_all _) ?_
        have hqs : Q w2 (y4.w.setCells g 0 k2.cells) := below_setCells hgn k2.cells 0 w2 y4.w y4.q
        have hsc : Blk (y4.w.setCells g 0 k2.cells) g 25 k2.cells.toArray := by
          have := Blk.setCells k2.cells 0 _ y4.w hbg (Nat.le_refl 2)
          rwa [splice_all _ _ (by rfl)] at this
        refine hK' _ _ ⟨⟨_, hqs⟩, rfl⟩ ?_
        clear hK' K'
        try simp only [Act.put, List.setIfInBounds_toArray, List.set_cons_succ, List.set_cons_zero]
        have honly : ∀ o' v, y4.w.cell? ⟨g, o', none⟩ = some v → ∃ A n c, v = .slice A n c := by
          intro o' v hv
          rw [hbg.cell] at hv
          rcases o' with _ | _ | n
          · exact ⟨_, _, _, (Option.some.inj hv).symm⟩
          · exact ⟨_, _, _, (Option.some.inj hv).symm⟩
          · simp [KR.cells, known0, knA] at hv
        have hfar := fun b (hne : b ≠ g) => setCells_far (g := g) hne k2.cells 0 y4.w
        have hside : Aside y4.w (y4.w.setCells g 0 k2.cells) g := ⟨honly, hfar, (below_setCells (Nat.le_refl _) k2.cells 0 y4.w y4.w (Below.refl g y4.w)).size⟩
        have hK3 := hside.known hKk2
        refine held_pure 11 (v := .bool true) rfl (by kernel_rfl) (by kernel_rfl) (by kernel_rfl) (by intro c a d v w h; cases d <;> exact h) rfl ⟨⟨_, hqs⟩, rfl⟩ (fun w => by rfl) ?_
        try simp only [Act.put, List.setIfInBounds_toArray, List.set_cons_succ, List.set_cons_zero]
        refine wpAnyH_done (by kernel_rfl) ?_ _
        exact REST3 g k2 _ _ _ hqs hsc hK3 hks2 hkl2
    · refine wp_alloc_run 25 _ rfl (alloc_known _) ?_
      have hbg := Blk.new y0.w 25 (knA known0)
      have hgn := y0.q.size
      obtain ⟨y1, hy2⟩ := Wd.next y0 (q_new y0.w (knA known0) 25)
      rw [hy2] at hbg
      rw [hy2]
      obtain ⟨g, hg⟩ : ∃ g, y0.w.heap.size = g := ⟨_, rfl⟩
      rw [hg] at hbg hgn
      refine hK' _ _ ⟨y1, rfl⟩ ?_
      clear hK' K' hy2
      try simp only [Act.put, List.setIfInBounds_toArray, List.set_cons_succ, List.set_cons_zero]
      rw [hg]
      clear hg
      refine held_one 2 rfl (by kernel_rfl) rfl (fun K' hK' => ?_)
      go_simp
      have hSl := ints_one y1.w smY
      have hq := q_new y1.w #[.int .i64 smY] 3
      have hbg := hbg.q hq
      obtain ⟨y2, hn⟩ := Wd.next y1 hq
      rw [hn] at hSl hbg
      rw [hn]
      clear hn
      refine hK' _ _ ⟨y2, rfl⟩ ?_
      clear hK' K' hq
      try simp only [Act.put, List.setIfInBounds_toArray, List.set_cons_succ, List.set_cons_zero]
      obtain ⟨gs, hgs⟩ : ∃ gs, y1.w.heap.size = gs := ⟨_, rfl⟩
      rw [hgs] at hSl
      rw [hgs]
      clear hgs
      refine held_one 3 rfl (by kernel_rfl) rfl (fun K' hK' => ?_)
      go_simp
      refine (new_any (some ⟨gs, 0, none⟩) 1 [smY] y2.w hSl (by decide)).mono ?_
      rintro e w' ⟨k1, rfl, hks1, hkl1, hKk, hq⟩
      have hSl := hSl.q hq
      have hbg := hbg.q hq
      obtain ⟨y3, rfl⟩ := Wd.next y2 hq
      refine hK' _ _ ⟨y3, rfl⟩ ?_
      clear hK' K' hq
      try simp only [Act.put, List.setIfInBounds_toArray, List.set_cons_succ, List.set_cons_zero]
      refine held_one 5 rfl (by kernel_rfl) rfl (fun K' hK' => ?_)
      go_simp
      refine (hC.add k1 y3.w (hT2 y3) hKk hks1 hkl1).mono ?_
      rintro e w' ⟨k2, rfl, hks2, hkl2, hKk2, hq⟩
      have hSl := hSl.q hq
      have hKk := hKk.q hq
      have hbg := hbg.q hq
      obtain ⟨y4, rfl⟩ := Wd.next y3 hq
      refine hK' _ _ ⟨y4, rfl⟩ ?_
      clear hK' K' hq
      try simp only [Act.put, List.setIfInBounds_toArray, List.set_cons_succ, List.set_cons_zero]
      refine held_pure 6 (v := .tuple #[.agg (knA k2), .bool true]) rfl (by kernel_rfl) (by kernel_rfl) (by kernel_rfl) (by intro c a d v w h; cases d <;> exact h) rfl ⟨_, rfl⟩ (fun w => by rfl) ?_
      try simp only [Act.put, List.setIfInBounds_toArray, List.set_cons_succ, List.set_cons_zero]
      refine held_pure 7 (v := .agg (knA k2)) rfl (by kernel_rfl) (by kernel_rfl) (by kernel_rfl) (by intro c a d v w h; cases d <;> exact h) rfl ⟨_, rfl⟩ (fun w => by rfl) ?_
      try simp only [Act.put, List.setIfInBounds_toArray, List.set_cons_succ, List.set_cons_zero]
      refine held_pure 8 (v := .bool true) rfl (by kernel_rfl) (by kernel_rfl) (by kernel_rfl) (by intro c a d v w h; cases d <;> exact h) rfl ⟨_, rfl⟩ (fun w => by rfl) ?_
      try simp only [Act.put, List.setIfInBounds_toArray, List.set_cons_succ, List.set_cons_zero]
      refine held_one 10 rfl (by kernel_rfl) rfl (fun K' hK' => ?_)
      refine wp_store_mid 25 (.tmp 3) (.tmp 23) rfl g 0 (knA k2) rfl rfl (show y4.w.there g 0 2 by simpa using hbg.there (n := 2) (Nat.le_refl 2)) (by kernel_rfl) (kn_all _) ?_
      have hqs : Q w2 (y4.w.setCells g 0 k2.cells) := below_setCells hgn k2.cells 0 w2 y4.w y4.q
      have hsc : Blk (y4.w.setCells g 0 k2.cells) g 25 k2.cells.toArray := by
        have := Blk.setCells k2.cells 0 _ y4.w hbg (Nat.le_refl 2)
        rwa [splice_all _ _ (by rfl)] at this
      refine hK' _ _ ⟨⟨_, hqs⟩, rfl⟩ ?_
      clear hK' K'
      try simp only [Act.put, List.setIfInBounds_toArray, List.set_cons_succ, List.set_cons_zero]
      have honly : ∀ o' v, y4.w.cell? ⟨g, o', none⟩ = some v → ∃ A n c, v = .slice A n c := by
        intro o' v hv
        rw [hbg.cell] at hv
        rcases o' with _ | _ | n
        · exact ⟨_, _, _, (Option.some.inj hv).symm⟩
        · exact ⟨_, _, _, (Option.some.inj hv).symm⟩
        · simp [KR.cells, known0, knA] at hv
      have hfar := fun b (hne : b ≠ g) => setCells_far (g := g) hne k2.cells 0 y4.w
      have hside : Aside y4.w (y4.w.setCells g 0 k2.cells) g := ⟨honly, hfar, (below_setCells (Nat.le_refl _) k2.cells 0 y4.w y4.w (Below.refl g y4.w)).size⟩
      have hK3 := hside.known hKk2
      refine held_pure 11 (v := .bool true) rfl (by kernel_rfl) (by kernel_rfl) (by kernel_rfl) (by intro c a d v w h; cases d <;> exact h) rfl ⟨⟨_, hqs⟩, rfl⟩ (fun w => by rfl) ?_
      try simp only [Act.put, List.setIfInBounds_toArray, List.set_cons_succ, List.set_cons_zero]
      refine wpAnyH_done (by kernel_rfl) ?_ _
      exact REST3 g k2 _ _ _ hqs hsc hK3 hks2 hkl2
  refine wp_region_S (fun z => ∃ y : Wd W1, z = y.w) (by kernel_rfl) ⟨⟨_, (Q.refl W1).drew⟩, rfl⟩ ?_
  rintro _ ⟨y0, rfl⟩
  refine held_read 0 (v := .agg #[.int .i64 smX, .int .i64 smY]) rfl (by kernel_rfl) (by kernel_rfl) (by kernel_rfl) (by intro c a d v w h; cases d <;> exact h) rfl ⟨_, rfl⟩ (fun z hz => exec_load 66 (.tmp 1) _ _ rfl rfl (hLk z hz)) ?_
  try simp only [Act.put, List.setIfInBounds_toArray, List.set_cons_succ, List.set_cons_zero]
  refine held_fork 1 5 rfl rfl (by kernel_rfl) rfl rfl (fun K' hK' => ?_) (fun K' hK' => ?_)
  · go_simp
    refine (Sha_any emptyT y0.w (hT1 y0) (by decide)).mono ?_
    rintro e w' ⟨rfl, hq⟩
    obtain ⟨y1, rfl⟩ := Wd.next y0 hq
    refine hK' _ _ ⟨y1, rfl⟩ ?_
    clear hK' K' hq
    try simp only [Act.put, List.setIfInBounds_toArray, List.set_cons_succ, List.set_cons_zero]
    refine held_read 2 (v := .agg (ballotA bb)) rfl (by kernel_rfl) (by kernel_rfl) (by kernel_rfl) (by intro c a d v w h; cases d <;> exact h) rfl ⟨_, rfl⟩ (fun z hz => exec_build 50 _ _ _ rfl (by simp only [List.map_toArray, List.map_cons, List.map_nil]; rfl) (hC.bal z)) ?_
    try simp only [Act.put, List.setIfInBounds_toArray, List.set_cons_succ, List.set_cons_zero]
    refine held_fork 3 5 rfl rfl (by kernel_rfl) rfl rfl (fun K' hK' => ?_) (fun K' hK' => ?_)
    · go_simp
      refine (hC.sign y1.w (hT1 y1)).mono ?_
      rintro e w' ⟨rfl, hq⟩
      obtain ⟨y2, rfl⟩ := Wd.next y1 hq
      refine hK' _ _ ⟨y2, rfl⟩ ?_
      clear hK' K' hq
      try simp only [Act.put, List.setIfInBounds_toArray, List.set_cons_succ, List.set_cons_zero]
      refine held_fork 4 5 rfl rfl (by kernel_rfl) rfl rfl (fun K' hK' => ?_) (fun K' hK' => ?_)
      · go_simp
        refine (hC.of y2.w).mono ?_
        rintro e w' ⟨rfl, hq⟩
        obtain ⟨y3, rfl⟩ := Wd.next y2 hq
        refine hK' _ _ ⟨y3, rfl⟩ ?_
        clear hK' K' hq
        try simp only [Act.put, List.setIfInBounds_toArray, List.set_cons_succ, List.set_cons_zero]
        refine held_one 5 rfl (by kernel_rfl) rfl (fun K' hK' => ?_)
        refine wp_alloc_run 54 _ rfl (alloc_item _) ?_
        have hbg := Blk.new y3.w 54 (itA item0)
        have hgn := y3.q.size
        obtain ⟨y4, hy2⟩ := Wd.next y3 (q_new y3.w (itA item0) 54)
        rw [hy2] at hbg
        rw [hy2]
        obtain ⟨g, hg⟩ : ∃ g, y3.w.heap.size = g := ⟨_, rfl⟩
        rw [hg] at hbg hgn
        refine hK' _ _ ⟨y4, rfl⟩ ?_
        clear hK' K' hy2
        try simp only [Act.put, List.setIfInBounds_toArray, List.set_cons_succ, List.set_cons_zero]
        rw [hg]
        clear hg
        refine held_one 6 rfl (by kernel_rfl) rfl (fun K' hK' => ?_)
        refine wp_store_mid 54 (.tmp 2) (.tmp 15) rfl g 0 (itA it) rfl rfl (show y4.w.there g 0 49 by simpa using hbg.there (n := 49) (Nat.le_refl 49)) (by kernel_rfl) (it_all _) ?_
        have hqs : Q W1 (y4.w.setCells g 0 it.cells) := below_setCells hgn it.cells 0 W1 y4.w y4.q
        have hsc : Blk (y4.w.setCells g 0 it.cells) g 54 it.cells.toArray := by
          have := Blk.setCells it.cells 0 _ y4.w hbg (Nat.le_refl 49)
          rwa [splice_all _ _ (by rfl)] at this
        refine hK' _ _ ⟨⟨_, hqs⟩, rfl⟩ ?_
        clear hK' K'
        try simp only [Act.put, List.setIfInBounds_toArray, List.set_cons_succ, List.set_cons_zero]
        refine wpAnyH_done (by kernel_rfl) ?_ _
        exact REST2 g _ hqs hgn hsc
      · refine wp_alloc_run 54 _ rfl (alloc_item _) ?_
        have hbg := Blk.new y2.w 54 (itA item0)
        have hgn := y2.q.size
        obtain ⟨y3, hy2⟩ := Wd.next y2 (q_new y2.w (itA item0) 54)
        rw [hy2] at hbg
        rw [hy2]
        obtain ⟨g, hg⟩ : ∃ g, y2.w.heap.size = g := ⟨_, rfl⟩
        rw [hg] at hbg hgn
        refine hK' _ _ ⟨y3, rfl⟩ ?_
        clear hK' K' hy2
        try simp only [Act.put, List.setIfInBounds_toArray, List.set_cons_succ, List.set_cons_zero]
        rw [hg]
        clear hg
        refine held_one 4 rfl (by kernel_rfl) rfl (fun K' hK' => ?_)
        go_simp
        refine (hC.of y3.w).mono ?_
        rintro e w' ⟨rfl, hq⟩
        have hbg := hbg.q hq
        obtain ⟨y4, rfl⟩ := Wd.next y3 hq
        refine hK' _ _ ⟨y4, rfl⟩ ?_
        clear hK' K' hq
        try simp only [Act.put, List.setIfInBounds_toArray, List.set_cons_succ, List.set_cons_zero]
        refine held_one 6 rfl (by kernel_rfl) rfl (fun K' hK' => ?_)
        refine wp_store_mid 54 (.tmp 2) (.tmp 15) rfl g 0 (itA it) rfl rfl (show y4.w.there g 0 49 by simpa using hbg.there (n := 49) (Nat.le_refl 49)) (by kernel_rfl) (it_all _) ?_
        have hqs : Q W1 (y4.w.setCells g 0 it.cells) := below_setCells hgn it.cells 0 W1 y4.w y4.q
        have hsc : Blk (y4.w.setCells g 0 it.cells) g 54 it.cells.toArray := by
          have := Blk.setCells it.cells 0 _ y4.w hbg (Nat.le_refl 49)
          rwa [splice_all _ _ (by rfl)] at this
        refine hK' _ _ ⟨⟨_, hqs⟩, rfl⟩ ?_
        clear hK' K'
        try simp only [Act.put, List.setIfInBounds_toArray, List.set_cons_succ, List.set_cons_zero]
        refine wpAnyH_done (by kernel_rfl) ?_ _
        exact REST2 g _ hqs hgn hsc
    · refine wp_alloc_run 54 _ rfl (alloc_item _) ?_
      have hbg := Blk.new y1.w 54 (itA item0)
      have hgn := y1.q.size
      obtain ⟨y2, hy2⟩ := Wd.next y1 (q_new y1.w (itA item0) 54)
      rw [hy2] at hbg
      rw [hy2]
      obtain ⟨g, hg⟩ : ∃ g, y1.w.heap.size = g := ⟨_, rfl⟩
      rw [hg] at hbg hgn
      refine hK' _ _ ⟨y2, rfl⟩ ?_
      clear hK' K' hy2
      try simp only [Act.put, List.setIfInBounds_toArray, List.set_cons_succ, List.set_cons_zero]
      rw [hg]
      clear hg
      refine held_one 3 rfl (by kernel_rfl) rfl (fun K' hK' => ?_)
      go_simp
      refine (hC.sign y2.w (hT1 y2)).mono ?_
      rintro e w' ⟨rfl, hq⟩
      have hbg := hbg.q hq
      obtain ⟨y3, rfl⟩ := Wd.next y2 hq
      refine hK' _ _ ⟨y3, rfl⟩ ?_
      clear hK' K' hq
      try simp only [Act.put, List.setIfInBounds_toArray, List.set_cons_succ, List.set_cons_zero]
      refine held_one 4 rfl (by kernel_rfl) rfl (fun K' hK' => ?_)
      go_simp
      refine (hC.of y3.w).mono ?_
      rintro e w' ⟨rfl, hq⟩
      have hbg := hbg.q hq
      obtain ⟨y4, rfl⟩ := Wd.next y3 hq
      refine hK' _ _ ⟨y4, rfl⟩ ?_
      clear hK' K' hq
      try simp only [Act.put, List.setIfInBounds_toArray, List.set_cons_succ, List.set_cons_zero]
      refine held_one 6 rfl (by kernel_rfl) rfl (fun K' hK' => ?_)
      refine wp_store_mid 54 (.tmp 2) (.tmp 15) rfl g 0 (itA it) rfl rfl (show y4.w.there g 0 49 by simpa using hbg.there (n := 49) (Nat.le_refl 49)) (by kernel_rfl) (it_all _) ?_
      have hqs : Q W1 (y4.w.setCells g 0 it.cells) := below_setCells hgn it.cells 0 W1 y4.w y4.q
      have hsc : Blk (y4.w.setCells g 0 it.cells) g 54 it.cells.toArray := by
        have := Blk.setCells it.cells 0 _ y4.w hbg (Nat.le_refl 49)
        rwa [splice_all _ _ (by rfl)] at this
      refine hK' _ _ ⟨⟨_, hqs⟩, rfl⟩ ?_
      clear hK' K'
      try simp only [Act.put, List.setIfInBounds_toArray, List.set_cons_succ, List.set_cons_zero]
      refine wpAnyH_done (by kernel_rfl) ?_ _
      exact REST2 g _ hqs hgn hsc
  · refine wp_alloc_run 54 _ rfl (alloc_item _) ?_
    have hbg := Blk.new y0.w 54 (itA item0)
    have hgn := y0.q.size
    obtain ⟨y1, hy2⟩ := Wd.next y0 (q_new y0.w (itA item0) 54)
    rw [hy2] at hbg
    rw [hy2]
    obtain ⟨g, hg⟩ : ∃ g, y0.w.heap.size = g := ⟨_, rfl⟩
    rw [hg] at hbg hgn
    refine hK' _ _ ⟨y1, rfl⟩ ?_
    clear hK' K' hy2
    try simp only [Act.put, List.setIfInBounds_toArray, List.set_cons_succ, List.set_cons_zero]
    rw [hg]
    clear hg
    refine held_one 1 rfl (by kernel_rfl) rfl (fun K' hK' => ?_)
    go_simp
    refine (Sha_any emptyT y1.w (hT1 y1) (by decide)).mono ?_
    rintro e w' ⟨rfl, hq⟩
    have hbg := hbg.q hq
    obtain ⟨y2, rfl⟩ := Wd.next y1 hq
    refine hK' _ _ ⟨y2, rfl⟩ ?_
    clear hK' K' hq
    try simp only [Act.put, List.setIfInBounds_toArray, List.set_cons_succ, List.set_cons_zero]
    refine held_read 2 (v := .agg (ballotA bb)) rfl (by kernel_rfl) (by kernel_rfl) (by kernel_rfl) (by intro c a d v w h; cases d <;> exact h) rfl ⟨_, rfl⟩ (fun z hz => exec_build 50 _ _ _ rfl (by simp only [List.map_toArray, List.map_cons, List.map_nil]; rfl) (hC.bal z)) ?_
    try simp only [Act.put, List.setIfInBounds_toArray, List.set_cons_succ, List.set_cons_zero]
    refine held_one 3 rfl (by kernel_rfl) rfl (fun K' hK' => ?_)
    go_simp
    refine (hC.sign y2.w (hT1 y2)).mono ?_
    rintro e w' ⟨rfl, hq⟩
    have hbg := hbg.q hq
    obtain ⟨y3, rfl⟩ := Wd.next y2 hq
    refine hK' _ _ ⟨y3, rfl⟩ ?_
    clear hK' K' hq
    try simp only [Act.put, List.setIfInBounds_toArray, List.set_cons_succ, List.set_cons_zero]
    refine held_one 4 rfl (by kernel_rfl) rfl (fun K' hK' => ?_)
    go_simp
    refine (hC.of y3.w).mono ?_
    rintro e w' ⟨rfl, hq⟩
    have hbg := hbg.q hq
    obtain ⟨y4, rfl⟩ := Wd.next y3 hq
    refine hK' _ _ ⟨y4, rfl⟩ ?_
    clear hK' K' hq
    try simp only [Act.put, List.setIfInBounds_toArray, List.set_cons_succ, List.set_cons_zero]
    refine held_one 6 rfl (by kernel_rfl) rfl (fun K' hK' => ?_)
    refine wp_store_mid 54 (.tmp 2) (.tmp 15) rfl g 0 (itA it) rfl rfl (show y4.w.there g 0 49 by simpa using hbg.there (n := 49) (Nat.le_refl 49)) (by kernel_rfl) (it_all _) ?_
    have hqs : Q W1 (y4.w.setCells g 0 it.cells) := below_setCells hgn it.cells 0 W1 y4.w y4.q
    have hsc : Blk (y4.w.setCells g 0 it.cells) g 54 it.cells.toArray := by
      have := Blk.setCells it.cells 0 _ y4.w hbg (Nat.le_refl 49)
      rwa [splice_all _ _ (by rfl)] at this
    refine hK' _ _ ⟨⟨_, hqs⟩, rfl⟩ ?_
    clear hK' K'
    try simp only [Act.put, List.setIfInBounds_toArray, List.set_cons_succ, List.set_cons_zero]
    refine wpAnyH_done (by kernel_rfl) ?_ _
    exact REST2 g _ hqs hgn hsc
theorem small_any (w : World) (hT : Tab w) : Calls Tryz.prog 7 #[] w fun e w' => e = .returned (.bool true) ∧ Q w w' := small_walk smI smB smS (digOf smI) sm_ctx w hT
end Go.Proofs.YtppnbdbigebhaaaGreatDoor.Known

namespace Go.Proofs.YtppnbdbigebhaaaGreatDoor.Laid

end Go.Proofs.YtppnbdbigebhaaaGreatDoor.Laid

namespace Go.Proofs.YtppnbdbigebhaaaGreatDoor.Post
open Go.ChangeShapes Go.WideShapes Go.ChangeAt Go.RowKit

theorem trodAll_below {H : Type} {enc : TypeId × Value → H} {P : Program} (hl : laidOutB P = true) {W W' : World} (hb : Below W.heap.size W W') :
    ∀ {ts : List TypeId} {vs : List Value} {ds : List (DataW H)} {ps : List MemPlace}, ts.all (fun t => P.readableRec t && decide (t < P.types.size)) = true → (∀ x ∈ ps, x.block < W.heap.size) →
      DataW.TrodAll enc P W 0 (fun _ => true) true ts vs ds ps → DataW.TrodAll enc P W' 0 (fun b => decide (b < W.heap.size)) true ts vs ds ps := by
  intro ts
  induction ts with
  | nil =>
    intro vs ds ps _ _ h
    obtain ⟨rfl, rfl, rfl⟩ := trodAll_nil h
    exact trodAll_mk0
  | cons t ts ih =>
    intro vs ds ps hr hlt h
    obtain ⟨v, vs', d, ds', p, q, rfl, rfl, rfl, h1, h2⟩ := trodAll_cons h
    simp only [List.all_cons, Bool.and_eq_true, decide_eq_true_eq] at hr
    exact trodAll_cons_mk (Below.trod hl hr.1.1 hr.1.2 h1 hb (fun x hx => hlt x (List.mem_append_left _ hx))) (ih (by simpa using hr.2) (fun x hx => hlt x (List.mem_append_right _ hx)) h2)

theorem law_post {H : Type} {enc : TypeId × Value → H} {P : Program} {f : Func} {s : ChangeSpec} {apart : Bool} {W W' : World} {args : Array Value} {ds gs : List (DataW H)} {before : List MemPlace} {tb : TypeId}
    (hl : laidOutB P = true) (hts : f.params.toList.all (fun t => P.readableRec t && decide (t < P.types.size)) = true) (hvs : varsRowed P s.vars = true)
    (hrt : f.resultTypes.toList = [tb]) (hn : f.resultTypes.size = 1) (hub : P.underlying tb = some .bool)
    (hW : DataW.Whole enc P f.params.toList s.vars apart W args.toList ds gs before)
    (hr : (s.fn H (ds ++ gs)).results = [.lit (.bool true)]) (ha : (s.fn H (ds ++ gs)).args = ds) (hv : (s.fn H (ds ++ gs)).vars = gs)
    (hb : Below W.heap.size W W') :
    s.post enc P f apart true false false W args (.bool true) W' := by
  have hW' := hW
  have hlt := hW.lt
  obtain ⟨p, q, hA, hV, rfl, hfz, hnd⟩ := hW
  refine ⟨ds, gs, p ++ q, [], p, q, hW', ?_, ?_, ?_, hb.frame _, fun h => by cases h⟩
  · rw [hr, hrt, hn]
    exact trodAll_mk1 (shut_bool hub true)
  · rw [ha]
    exact trodAll_below hl hb hts (fun x hx => hlt x (List.mem_append_left _ hx)) hA
  · rw [hv]
    exact Below.trodVars hl hb hvs hV

end Go.Proofs.YtppnbdbigebhaaaGreatDoor.Post

namespace Go.Proofs.YtppnbdbigebhaaaGreatDoor.Laid
open Go.ChangeShapes Go.WideShapes Go.ChangeAt Go.RowKit

theorem own : ownKnob Tryz.prog.godebug = none := by kernel_rfl
theorem laidOut : laidOutB Tryz.prog = true := by kernel_rfl
theorem gCon : Tryz.prog.globalNamed "agora/sum.constants" = some 1 := by kernel_rfl
theorem gIni : Tryz.prog.globalNamed "agora/sum.initial" = some 0 := by kernel_rfl
theorem gConType : (Tryz.prog.globals[(1 : Nat)]?).map (·.type) = some 159 := by kernel_rfl
theorem gIniType : (Tryz.prog.globals[(0 : Nat)]?).map (·.type) = some 112 := by kernel_rfl
theorem cells64 : Tryz.prog.cellsOf 159 = 64 := by kernel_rfl
theorem cells8 : Tryz.prog.cellsOf 112 = 8 := by kernel_rfl
theorem cells1 : Tryz.prog.cellsOf 111 = 1 := by kernel_rfl

theorem laidMet_rest {P : Program} {W : World} {x : String × DataW Unit} {name : String} {k : IntKind} {zs : List Int} {g : Nat} {t e : TypeId} {n : Nat}
    (hg : P.globalNamed name = some g) (hty : (P.globals[g]?).map (·.type) = some t) (ht : P.underlying t = some (.array n e)) (he : P.underlying e = some (.int k)) (hce : P.cellsOf e = 1) (hct : P.cellsOf t = n)
    (h : laidMet P [x, (name, Lib.tabData k zs)] W) : Lib.TabIs P W name k zs := by
  obtain ⟨ps, ⟨g', t', cs, fuel, p, q, hg', ht', hvar, hd, ⟨g2, t2, cs2, fuel2, p2, q2, hg2, ht2, hvar2, hd2, _, _⟩, _⟩, _⟩ := h
  obtain rfl := Option.some.inj (hg.symm.trans hg2)
  obtain rfl := Option.some.inj (hty.symm.trans ht2)
  unfold Lib.TabIs
  rw [hvar2, ← Lib.cells_of_tab ht he hce hct hd2]

theorem block_of {P : Program} {W : World} {name : String} {cs : Array Value} {g : Nat} (hg : P.globalNamed name = some g) (h : W.var? P name = some cs) : ∃ t fr, W.heap[g]? = some (.cells cs t fr) := by
  simp only [World.var?, hg, Option.bind_some] at h
  split at h
  · rename_i cs' t fr hh
    obtain rfl := Option.some.inj h
    exact ⟨t, fr, hh⟩
  · cases h
theorem lt_of {W : World} {g : Nat} {o : Obj} (h : W.heap[g]? = some o) : g < W.heap.size := (Array.getElem?_eq_some_iff.mp h).1

theorem tab {W : World} (h : laidMetH Tryz.prog [("agora/sum.constants", Rows.laid_agora_sum_constants), ("agora/sum.initial", Rows.laid_agora_sum_initial)] W) : Sha.Tab W := by
  have hc : Lib.TabIs Tryz.prog W "agora/sum.constants" .u32 Sha.KL := Lib.tabIs_of_head (rest := [("agora/sum.initial", Rows.laid_agora_sum_initial)]) gCon gConType Tryz.underlying159 Tryz.underlying111 cells1 cells64 h
  have hi : Lib.TabIs Tryz.prog W "agora/sum.initial" .u32 Sha.HL := laidMet_rest (x := ("agora/sum.constants", Rows.laid_agora_sum_constants)) gIni gIniType Tryz.underlying112 Tryz.underlying111 cells1 cells8 h
  obtain ⟨t1, f1, h1⟩ := block_of gCon hc
  obtain ⟨t2, f2, h2⟩ := block_of gIni hi
  exact ⟨⟨t2, f2, h2⟩, fun i hi => hc.cell gCon i hi, lt_of h2, lt_of h1⟩

/- A world for the witness: the settled one, the tables holding what the text lays. -/
def put (cs : Array Value) : Obj → Obj
  | .cells _ t frozen => .cells cs t frozen
  | o => o
noncomputable def laidWorld (os : Os) (args : Array Value) : World :=
  { World.holding Tryz.prog os ⟨#[], args, []⟩ with heap := ((World.holding Tryz.prog os ⟨#[], args, []⟩).heap.modify 1 (put (Sha.KL.map fun z => Value.int .u32 z).toArray)).modify 0 (put (Sha.HL.map fun z => Value.int .u32 z).toArray) }
end Go.Proofs.YtppnbdbigebhaaaGreatDoor.Laid
