/-
  Plain laws about lists of decisions: their order by Number, the valid ones. No walk in this text.
  A map that changes while rows and structs stay; the keys of a list of decisions; reads with guards.
  decide.Valid (printed by gen_decvalid.py).
  A map from strings to true, as a set of strings.
  decide.InForce (printed by gen_decforce.py).
  DERIVED: THE SHELF's CONTRACTS AT THIS DUMP, IN PLAIN WORDS (tools/lay-plain.mjs out of 'TryzSortU.lean', which tools/lay-shelf.mjs wrote): THE SAME DECLARATIONS UNDER THE SAME NAMES: 'import', 'namespace', 'open', 'def', 'theorem' AND NOTHING ELSE: no command of the shelf's: FOR A HAND-IN. Each laying: the table of numbers ('.._ren') and one theorem, a field a fact of the dump's own or the kernel's comparison; each contract: ONE APPLICATION.
  decide.pick at strings, decide.actors, Trusted, Source.
  decide.actors, Trusted, Source.
  decide.pick[Decision], decide.Panel, decide.Keepers.
-/
import Derived.Test.YtjfcllanochhmaaGreatDoorMgDa
import Derived.Test.YtjfcllanochhmaaGreatDoorMapI
import Derived.Carry
import Derived.Shelf.Sort.Plain
import Derived.Ground.Names2Prog
import Derived.Shelf.Slices.CompactS
import Derived.Shelf.Slices.In.SortNone
import Derived.Test.YtjfcllanochhmaaGreatDoorProg
import Derived.Sort.OwnSorted
set_option linter.unusedVariables false
set_option linter.unusedSimpArgs false
namespace Go.Proofs.YtjfcllanochhmaaGreatDoor.Known
open Go.RowKit Grp Mem _root_.Go.Proofs.YtjfcllanochhmaaGreatDoor.Code Sha Sign _root_.Go.Proofs.YtjfcllanochhmaaGreatDoor.Item

/-! ### The sorting, as in Parts -/
theorem cmpS_neg (a b : ByteArray) : cmpS a b < 0 ↔ lessB a b = true := by
  unfold cmpS
  by_cases h : lessB a b = true
  · simp [h]
  · by_cases h2 : lessB b a = true <;> simp [h, h2]
theorem cmpI_neg (a b : Int) : Lib.compareInt a b < 0 ↔ a < b := by
  unfold Lib.compareInt
  (repeat' split) <;> omega
theorem cmpI_zero (a b : Int) : Lib.compareInt a b = 0 ↔ a = b := by
  unfold Lib.compareInt
  (repeat' split) <;> omega
theorem lt_iff {α : Type} (x y : Found α) : ltOf cmpF x y = true ↔ x.rank < y.rank ∨ (x.rank = y.rank ∧ lessB x.dig y.dig = true) := by
  unfold ltOf cmpF orI
  rw [decide_eq_true_eq]
  by_cases h : Lib.compareInt x.rank y.rank = 0
  · rw [if_pos h, cmpS_neg]
    have := (cmpI_zero _ _).1 h
    constructor
    · intro h2; exact .inr ⟨this, h2⟩
    · rintro (h2 | h2)
      · omega
      · exact h2.2
  · rw [if_neg h, cmpI_neg]
    have : x.rank ≠ y.rank := fun e => h ((cmpI_zero _ _).2 e)
    constructor
    · intro h2; exact .inl h2
    · rintro (h2 | h2)
      · exact h2
      · exact absurd h2.1 this
theorem lt_false {α : Type} (x y : Found α) : ltOf cmpF x y = false ↔ ¬ (x.rank < y.rank ∨ (x.rank = y.rank ∧ lessB x.dig y.dig = true)) := by
  rw [← lt_iff]
  simp
theorem swo_cmp {α : Type} [Inhabited α] : Go.Sort.SWO (ltOf (α := Found α) cmpF) := by
  refine ⟨fun x => ?_, fun x y z h1 h2 => ?_, fun x y z h1 h2 => ?_⟩
  · rw [lt_false, lessB_irrefl]
    simp
  · rw [lt_iff] at h1 h2 ⊢
    rcases h1 with h1 | ⟨h1, h1'⟩ <;> rcases h2 with h2 | ⟨h2, h2'⟩
    · exact .inl (by omega)
    · exact .inl (by omega)
    · exact .inl (by omega)
    · exact .inr ⟨by omega, lessB_trans h1' h2'⟩
  · rw [lt_false] at h1 h2 ⊢
    rintro (h | ⟨h, h'⟩)
    · by_cases h3 : x.rank < y.rank
      · exact h1 (.inl h3)
      · exact h2 (.inl (by omega))
    · by_cases h3 : x.rank < y.rank
      · exact h1 (.inl h3)
      by_cases h4 : y.rank < z.rank
      · exact h2 (.inl h4)
      have e1 : x.rank = y.rank := by omega
      have e2 : y.rank = z.rank := by omega
      have n1 : lessB x.dig y.dig = false := by
        cases hh : lessB x.dig y.dig
        · rfl
        · exact absurd (.inr ⟨e1, hh⟩) h1
      have n2 : lessB y.dig z.dig = false := by
        cases hh : lessB y.dig z.dig
        · rfl
        · exact absurd (.inr ⟨e2, hh⟩) h2
      rcases lessB_three x.dig y.dig with h5 | h5 | h5
      · rw [n1] at h5; cases h5
      · rw [h5] at h'; rw [n2] at h'; cases h'
      · have := lessB_trans h5 h'
        rw [n2] at this
        cases this
def sortL {α : Type} [Inhabited α] (l : List (Found α)) : List (Found α) := (sortA l.toArray).toList
theorem sortL_perm {α : Type} [Inhabited α] (l : List (Found α)) : (sortL l).Perm l := by
  have h := (Go.Sort.insertionSort_holds (lt := ltOf (α := Found α) cmpF) swo_cmp l.toArray 0 l.toArray.size (Nat.zero_le _) (Nat.le_refl _)).1
  obtain ⟨h1, _, h3⟩ := h
  have e : ∀ (d : Array (Found α)) (n : Nat), d.size = n → d.extract 0 n = d := by
    intro d n h
    subst h
    simp
  rw [e _ _ h1] at h3
  simpa [sortL, sortA] using h3
theorem sortL_asc {α : Type} [Inhabited α] (l : List (Found α)) (i j : Nat) (hij : i < j) (hj : j < (sortL l).length) : ((sortL l)[i]'(by omega)).rank ≤ (sortL l)[j].rank := by
  have h := (Go.Sort.insertionSort_holds (lt := ltOf (α := Found α) cmpF) swo_cmp l.toArray 0 l.toArray.size (Nat.zero_le _) (Nat.le_refl _)).2
  have hl : (sortL l).length = l.length := (sortL_perm l).length_eq
  have h2 := h i j (Nat.zero_le _) hij (by simp; omega)
  rw [lt_false] at h2
  have hs : (sortA l.toArray).size = l.length := by rw [← Array.length_toList]; exact hl
  have e1 : ∀ (m : Nat) (hm : m < (sortL l).length), (sortL l)[m] = (Go.Sort.insertionSort (ltOf cmpF) l.toArray 0 l.toArray.size)[m]! := by
    intro m hm
    have h9 : (sortA l.toArray)[m]! = (sortA l.toArray)[m]'(by omega) := getElem!_pos (sortA l.toArray) m (by omega)
    exact Eq.trans rfl h9.symm
  rw [e1, e1]
  omega


/-! ### known.Decisions -/
theorem listDe_mem (key : Int) (l : List ItemR) (d : DecR) : d ∈ listDe key l ↔ ∃ x ∈ l, (wantDe key x = true ∧ itemRight x = true) ∧ x.dec = d := by
  have h : (sortDe (takeDe key l)).Perm (takeDe key l) := sortL_perm _
  unfold listDe
  rw [List.mem_map]
  constructor
  · rintro ⟨f, hf, rfl⟩
    have := h.mem_iff.1 hf
    unfold takeDe at this
    obtain ⟨x, hx, rfl⟩ := List.mem_map.1 this
    rw [List.mem_filter, Bool.and_eq_true] at hx
    exact ⟨x, hx.1, hx.2, rfl⟩
  · rintro ⟨x, hx, hw, rfl⟩
    exact ⟨foundDe x, h.mem_iff.2 (List.mem_map.2 ⟨x, by rw [List.mem_filter, Bool.and_eq_true]; exact ⟨hx, hw⟩, rfl⟩), rfl⟩
theorem want_de {key : Int} {x : ItemR} (h : wantDe key x = true) : x.kind = 3 ∧ x.dec.server = key := by
  unfold wantDe at h
  rw [Bool.and_eq_true, decide_eq_true_eq, decide_eq_true_eq] at h
  exact h
theorem listDe_asc (key : Int) (l : List ItemR) : (listDe key l).Pairwise fun a b => a.number ≤ b.number := by
  have hrank : ∀ f ∈ sortDe (takeDe key l), f.rank = f.val.number := by
    intro f hf
    have h : (sortDe (takeDe key l)).Perm (takeDe key l) := sortL_perm _
    have := h.mem_iff.1 hf
    unfold takeDe at this
    obtain ⟨x, _, rfl⟩ := List.mem_map.1 this
    rfl
  unfold listDe
  rw [List.pairwise_map, List.pairwise_iff_getElem]
  intro i j hi hj hij
  have h := sortL_asc (takeDe key l) i j hij hj
  rw [← hrank _ (List.getElem_mem hi), ← hrank _ (List.getElem_mem hj)]
  exact h
end Go.Proofs.YtjfcllanochhmaaGreatDoor.Known

namespace Go.Proofs.YtjfcllanochhmaaGreatDoor.Dec
open Go.RowKit Grp Mem _root_.Go.Proofs.YtjfcllanochhmaaGreatDoor.Code Sha Sign _root_.Go.Proofs.YtjfcllanochhmaaGreatDoor.Item _root_.Go.Proofs.YtjfcllanochhmaaGreatDoor.Known
/-! ### Valid -/
theorem valid_facts (sv : List Int) : ∀ (ds acc : List DecR), ds.Pairwise (fun a b => a.number ≤ b.number) → acc.Pairwise (fun a b => a.number < b.number) → (∀ a ∈ acc, ∀ d ∈ ds, a.number ≤ d.number) → (ds.foldl (validStep sv) acc).Pairwise (fun a b => a.number < b.number)
  | [], acc, _, ha, _ => ha
  | d :: ds, acc, hd, ha, hx => by
    obtain ⟨h1, h2⟩ := List.pairwise_cons.1 hd
    rw [List.foldl_cons]
    unfold validStep
    split
    · exact valid_facts sv ds acc h2 ha fun a h3 e h4 => hx a h3 e (List.mem_cons_of_mem _ h4)
    · rename_i hn
      rw [Bool.or_eq_true, not_or] at hn
      have hne : ∀ a ∈ acc, a.number ≠ d.number := by
        intro a h3 e
        refine hn.1 (List.any_eq_true.2 ⟨a, h3, ?_⟩)
        rw [e]
        simp
      refine valid_facts sv ds _ h2 ?_ ?_
      · rw [List.pairwise_append]
        refine ⟨ha, by simp, fun a h3 b h4 => ?_⟩
        rw [List.mem_singleton] at h4
        subst h4
        have h5 := hx a h3 d (List.mem_cons_self ..)
        have h6 := hne a h3
        show a.number < d.number
        omega
      · intro a h3 e h4
        rcases List.mem_append.1 h3 with h3 | h3
        · exact hx a h3 e (List.mem_cons_of_mem _ h4)
        · rw [List.mem_singleton] at h3
          subst h3
          exact h1 e h4
theorem valid_asc (sv : List Int) (ds : List DecR) (h : ds.Pairwise fun a b => a.number ≤ b.number) : (validK sv ds).Pairwise fun a b => a.number < b.number := valid_facts sv ds [] h List.Pairwise.nil (by simp)
theorem valid_of (sv : List Int) : ∀ (ds acc : List DecR) (v : DecR), v ∈ ds.foldl (validStep sv) acc → v ∈ acc ∨ ∃ d ∈ ds, v = bare d ∧ signedB sv (itDec d) = true
  | [], acc, v, h => .inl h
  | d :: ds, acc, v, h => by
    rw [List.foldl_cons] at h
    rcases valid_of sv ds _ v h with h | ⟨e, he, h2⟩
    · unfold validStep at h
      split at h
      · exact .inl h
      · rename_i hn
        rw [Bool.or_eq_true, not_or, Bool.not_eq_true', Bool.not_eq_false] at hn
        rcases List.mem_append.1 h with h | h
        · exact .inl h
        · rw [List.mem_singleton] at h
          exact .inr ⟨d, List.mem_cons_self .., h, hn.2⟩
    · exact .inr ⟨e, List.mem_cons_of_mem _ he, h2⟩
theorem valid_keeps (sv : List Int) : ∀ (ds acc : List DecR) (v : DecR), v ∈ acc → v ∈ ds.foldl (validStep sv) acc
  | [], acc, v, h => h
  | d :: ds, acc, v, h => by
    rw [List.foldl_cons]
    refine valid_keeps sv ds _ v ?_
    unfold validStep
    split
    · exact h
    · exact List.mem_append.2 (.inl h)
theorem valid_all (sv : List Int) : ∀ (ds acc : List DecR) (d : DecR), d ∈ ds → signedB sv (itDec d) = true → ∃ v ∈ ds.foldl (validStep sv) acc, v.number = d.number
  | e :: ds, acc, d, h, hs => by
    rw [List.foldl_cons]
    rcases List.mem_cons.1 h with rfl | h
    · cases hn : (acc.any fun o => decide (o.number = d.number))
      · refine ⟨bare d, valid_keeps sv ds _ _ ?_, rfl⟩
        unfold validStep
        rw [hn, hs, if_neg (by simp)]
        exact List.mem_append.2 (.inr (List.mem_singleton.2 rfl))
      · obtain ⟨o, ho, he⟩ := List.any_eq_true.1 hn
        refine ⟨o, valid_keeps sv ds _ _ ?_, of_decide_eq_true he⟩
        unfold validStep
        rw [hn, if_pos (by simp)]
        exact ho
    · exact valid_all sv ds _ d h hs
end Go.Proofs.YtjfcllanochhmaaGreatDoor.Dec

namespace Go.Proofs.YtjfcllanochhmaaGreatDoor.Mem
open Go.RowKit Grp
section
variable {P : Program} {md : Region.Mode} {S : World → Prop}
theorem held_oneW {K : Exit → Act → World → Prop} {l : List Oper} (k : Nat) {o : Oper} {f : Nat} {s : Array Bool} {a : Act} {w : World} (hi : l[k]? = some o) (hr : Region.ready md l.toArray s = [k]) (hg : Region.wanted o (yielded l.toArray a.tmps) = true)
    (h : ∀ K' : Act → World → Prop, (∀ a w, S w → wpAnyH P md l.toArray K S f (s.setIfInBounds k true) a w → K' a w) → o.wp P a w K' K) : wpAnyH P md l.toArray K S (f + 1) s a w := by
  refine wpAnyH_ready hr (by simp) (AllReadyH.cons (by simpa using hi) (fun K' hK => ?_) AllReadyH.nil)
  rw [if_pos hg]
  exact h K' fun a w hS hW => hK.out a w hS fun _ => hW
theorem held_pureW {K : Exit → Act → World → Prop} {l : List Oper} (k : Nat) {o : Oper} {v : Value} {f : Nat} {s : Array Bool} {a : Act} {w : World} (hi : l[k]? = some o) (hsel : Region.noSelect l.toArray = true) (hf : Region.free md l.toArray s k = true) (hr : (Region.ready md l.toArray s).contains k = true)
    (hQ : ∀ c (a : Act) d v w, K (.panic c) (Act.put a d v) w → K (.panic c) a w) (hg : Region.wanted o (yielded l.toArray a.tmps) = true) (hS : S w) (hv : ∀ w, (execOp a.eval o).run P w = .ok (.value v) w) (h : wpAnyH P md l.toArray K S f (s.setIfInBounds k true) (a.put o.dst v) w) : wpAnyH P md l.toArray K S (f + 1) s a w :=
  wpAnyH_take (by simpa using hi) hsel hf hr (fun c a w => hQ c a o.dst v w) (Or.inl ⟨hg, fun w _ => hv w⟩) hS h
theorem held_readW {K : Exit → Act → World → Prop} {l : List Oper} (k : Nat) {o : Oper} {v : Value} {f : Nat} {s : Array Bool} {a : Act} {w : World} (hi : l[k]? = some o) (hsel : Region.noSelect l.toArray = true) (hf : Region.free md l.toArray s k = true) (hr : (Region.ready md l.toArray s).contains k = true)
    (hQ : ∀ c (a : Act) d v w, K (.panic c) (Act.put a d v) w → K (.panic c) a w) (hg : Region.wanted o (yielded l.toArray a.tmps) = true) (hS : S w) (hv : ∀ z, S z → (execOp a.eval o).run P z = .ok (.value v) z) (h : wpAnyH P md l.toArray K S f (s.setIfInBounds k true) (a.put o.dst v) w) : wpAnyH P md l.toArray K S (f + 1) s a w :=
  wpAnyH_take (by simpa using hi) hsel hf hr (fun c a w => hQ c a o.dst v w) (Or.inl ⟨hg, hv⟩) hS h
theorem exec_lookup_run {o : Oper} {a : Act} {w : World} (t : TypeId) (x k : Operand) (M N V : Value) (ho : o.op = .lookup t x k false) (hx : a.eval x = M) (hk : a.eval k = N) (hr : (Instr.lookup t M N false).run P w = .ok V w) : (execOp a.eval o).run P w = .ok (.value V) w := by
  unfold execOp
  simp only [ho, hx, hk, Sem.run_bind, hr, Result.andThen_ok, Sem.run_pure]
end
theorem wpList_mapPut_run {P : Program} {ops : Array Oper} {rest : List Oper} {o : Oper} {a : Act} {w w' : World} {K : Exit → Act → World → Prop} (t : TypeId) (m k v : Operand) (M N V : Value) (ho : o.op = .mapUpdate t m k v) (hg : o.guard = none) (hm : a.eval m = M) (hk : a.eval k = N) (hv : a.eval v = V) (hr : (Instr.mapUpdate t M N V).run P w = .ok () w') (h : wpList P ops K rest (a.put o.dst undef) w') : wpList P ops K (o :: rest) a w := by
  refine wpList_step fun K' hK => ?_
  rw [if_pos (by unfold Region.wanted; rw [hg])]
  unfold Oper.wp execOp
  simp only [ho, hm, hk, hv, Sem.run_bind, hr, Result.andThen_ok, Sem.run_pure]
  exact hK _ _ h
/-- Y is X, but for block g and for what came later. -/
structure Kp (g : Nat) (X Y : World) : Prop where
  size : X.heap.size ≤ Y.heap.size
  block : ∀ b, b < X.heap.size → b ≠ g → Y.heap[b]? = X.heap[b]?
theorem Kp.of_q {g : Nat} {X Y : World} (h : Q X Y) : Kp g X Y := ⟨h.size, fun b hb _ => h.block b hb⟩
theorem Kp.refl (g : Nat) (X : World) : Kp g X X := ⟨Nat.le_refl _, fun _ _ _ => rfl⟩
theorem Kp.trans {g : Nat} {X Y Z : World} (h : Kp g X Y) (k : Kp g Y Z) : Kp g X Z := ⟨Nat.le_trans h.size k.size, fun b hb hne => (k.block b (Nat.lt_of_lt_of_le hb h.size) hne).trans (h.block b hb hne)⟩
theorem Kp.far {g : Nat} {X Y : World} (hs : Y.heap.size = X.heap.size) (h : ∀ b, b ≠ g → Y.heap[b]? = X.heap[b]?) : Kp g X Y := ⟨Nat.le_of_eq hs.symm, fun b _ hne => h b hne⟩
def IsMap (X : World) (g : Nat) : Prop := ∃ es clock, X.heap[g]? = some (.map es clock)
theorem AMap.isMap {kd : TypeDesc} {X : World} {g : Nat} {L : List (Value × Value)} (h : AMap kd X g L) : IsMap X g := by
  obtain ⟨_, es, clock, hb, _⟩ := h
  exact ⟨es, clock, hb⟩
theorem IsMap.noCell {X : World} {g : Nat} (h : IsMap X g) (o : Nat) (v : Value) : X.cell? ⟨g, o, none⟩ ≠ some v := by
  obtain ⟨es, clock, hb⟩ := h
  unfold World.cell?
  simp [hb]
theorem cell_lt {X : World} {b o : Nat} {v : Value} (h : X.cell? ⟨b, o, none⟩ = some v) : b < X.heap.size := by
  rcases Nat.lt_or_ge b X.heap.size with h2 | h2
  · exact h2
  · unfold World.cell? at h
    simp [Array.getElem?_eq_none h2] at h
theorem Kp.cell {g : Nat} {X Y : World} (h : Kp g X Y) (hm : IsMap X g) {b o : Nat} {v : Value} (hv : X.cell? ⟨b, o, none⟩ = some v) : Y.cell? ⟨b, o, none⟩ = some v := by
  have hne : b ≠ g := fun e => hm.noCell o v (e ▸ hv)
  exact (World.cell?_of_block (w := X) (h.block b (cell_lt hv) hne)).trans hv
theorem rows_kp {α : Type} {g : Nat} {X Y : World} (h : Kp g X Y) (hm : IsMap X g) {A : Option Addr} {k : Nat} {f : α → List Value} {l : List α} (hr : RowsAt X A k f l) : RowsAt Y A k f l := fun h0 => by
  obtain ⟨b, o, e, hb, hc⟩ := hr h0
  exact ⟨b, o, e, Nat.lt_of_lt_of_le hb h.size, fun j hj i v hv => h.cell hm (hc j hj i v hv)⟩
theorem owns_kp {g : Nat} {X Y : World} (h : Kp g X Y) (hm : IsMap X g) {base : Nat} {e : TypeId} {sz : Nat} {v : Value} {n : Nat} {xs : List Value} (ho : Owns X base e sz v n xs) : Owns Y base e sz v n xs := by
  refine ⟨ho.1, ?_⟩
  rcases ho.2 with hn | ⟨b, cap, cur, fz, hv, hb, hg, rest⟩
  · exact .inl hn
  · refine .inr ⟨b, cap, cur, fz, hv, hb, ?_, rest⟩
    have hne : b ≠ g := by
      rintro rfl
      obtain ⟨es, clock, hm⟩ := hm
      rw [hm] at hg
      cases hg
    rw [h.block b (Array.getElem?_eq_some_iff.1 hg).1 hne]
    exact hg
theorem AMap.far {kd : TypeDesc} {X Y : World} {g : Nat} {L : List (Value × Value)} (h : AMap kd X g L) (e : Y.heap[g]? = X.heap[g]?) : AMap kd Y g L := by
  obtain ⟨h0, es, clock, hb, h1⟩ := h
  exact ⟨h0, es, clock, e.trans hb, h1⟩
/-- Where an own row of another type grows, a row stays. -/
theorem owns_other {W W' : World} {b1 base m n s1 sz : Nat} {t e : TypeId} {u v : Value} {ys xs : List Value} (h : Owns W b1 t s1 u m ys) (hte : t ≠ e) (hown : Owns W base e sz v n xs) (hg : W.grownBy W' v.ownBlock) : Owns W' b1 t s1 u m ys :=
  h.keep fun k hk => hg.block k (h.lt k hk).2 (fun e2 => by
    rcases h.2 with ⟨rfl, _⟩ | ⟨g1, cap1, cur1, fz1, rfl, _, hg1, _⟩
    · simp [Value.ownBlock] at hk
    rcases hown.2 with ⟨rfl, _⟩ | ⟨g2, cap2, cur2, fz2, rfl, _, hg2, _⟩
    · simp [Value.ownBlock] at e2
    simp [Value.ownBlock] at hk e2
    subst hk
    subst e2
    rw [hg1] at hg2
    injection hg2 with hg2
    injection hg2 with _ hg2
    exact hte hg2)
theorem kp_grown {g : Nat} {W2 W W' : World} {n sz : Nat} {e : TypeId} {v : Value} {xs : List Value} (h : Kp g W2 W) (hown : Owns W W2.heap.size e sz v n xs) (hg : W.grownBy W' v.ownBlock) : Kp g W2 W' :=
  ⟨Nat.le_trans h.size hg.size, fun b hb hne => (hg.block b (Nat.lt_of_lt_of_le hb h.size) (fun e2 => by
    have := (hown.lt b (by first | exact e2 | exact e2.symm)).1
    omega)).trans (h.block b hb hne)⟩
theorem map_grown {kd : TypeDesc} {g : Nat} {W W' : World} {L : List (Value × Value)} {base n sz : Nat} {e : TypeId} {v : Value} {xs : List Value} (h : AMap kd W g L) (hown : Owns W base e sz v n xs) (hg : W.grownBy W' v.ownBlock) : AMap kd W' g L :=
  h.far (hg.block g h.lt (fun e2 => by
    obtain ⟨es, clock, hm⟩ := h.isMap
    rcases hown.2 with ⟨rfl, _⟩ | ⟨g2, cap2, cur2, fz2, rfl, _, hg2, _⟩
    · simp [Value.ownBlock] at e2
    simp [Value.ownBlock] at e2
    subst e2
    rw [hm] at hg2
    cases hg2))
theorem owns_low {w : World} {base b0 n sz : Nat} {e : TypeId} {v : Value} {xs : List Value} (h : Owns w base e sz v n xs) (hb : b0 ≤ base) : Owns w b0 e sz v n xs := by
  refine ⟨h.1, ?_⟩
  rcases h.2 with hn | ⟨g, cap, cur, fz, hv, h1, rest⟩
  · exact .inl hn
  · exact .inr ⟨g, cap, cur, fz, hv, Nat.le_trans hb h1, rest⟩
end Go.Proofs.YtjfcllanochhmaaGreatDoor.Mem

namespace Go.Proofs.YtjfcllanochhmaaGreatDoor.Dec
open Go.RowKit Grp Mem _root_.Go.Proofs.YtjfcllanochhmaaGreatDoor.Code Sha Sign _root_.Go.Proofs.YtjfcllanochhmaaGreatDoor.Item _root_.Go.Proofs.YtjfcllanochhmaaGreatDoor.Known
/-- A decision whose list To lies in a row of strings of its own. -/
structure DecO (w : World) (d : DecR) : Prop where
  own : Owns w 0 9 1 (.slice d.toA d.to.length d.toC) d.to.length (d.to.flatMap strC)
  toC : d.to.length ≤ d.toC ∧ d.toC ≤ maxLen
theorem DecO.inn {w : World} {d : DecR} (h : DecO w d) : DecIn w d := ⟨strs_of (Owns.rows str_len h.own rfl), h.toC⟩
theorem DecO.q {w w' : World} {d : DecR} (h : DecO w d) (hq : Q w w') : DecO w' d := ⟨h.own.q hq, h.toC⟩
theorem DecO.kp {g : Nat} {X Y : World} (h : Kp g X Y) (hm : IsMap X g) {d : DecR} (hd : DecO X d) : DecO Y d := ⟨owns_kp h hm hd.own, hd.toC⟩
theorem DecO.grown {W W' : World} {d : DecR} {base n sz : Nat} {v : Value} {xs : List Value} (h : DecO W d) (hown : Owns W base 45 sz v n xs) (hg : W.grownBy W' v.ownBlock) : DecO W' d := ⟨owns_other h.own (by decide) hown hg, h.toC⟩
theorem dec_kp {g : Nat} {X Y : World} (h : Kp g X Y) (hm : IsMap X g) {d : DecR} (hd : DecIn X d) : DecIn Y d := ⟨strs_of (rows_kp h hm (rows_strs hd.to)), hd.toC⟩
def keysOf (acc : List DecR) : List (Value × Value) := acc.map fun d => (.int .i64 d.number, .bool true)
theorem key_int (n : Int) : KeyLike (.int .i64) (.int .i64 n) := .inl ⟨rfl, n, rfl⟩
theorem keyEq_int (n m : Int) : keyEq (.int .i64 n) (.int .i64 m) = decide (m = n) := by
  show (n == m) = _
  rw [Bool.eq_iff_iff, decide_eq_true_eq, beq_iff_eq]
  exact eq_comm
theorem assoc_keys (n : Int) : ∀ acc : List DecR, assoc (.int .i64 n) (keysOf acc) = if acc.any (fun o => decide (o.number = n)) then some (.bool true) else none
  | [] => rfl
  | d :: acc => by
    have ih := assoc_keys n acc
    unfold assoc keysOf at ih ⊢
    rw [List.map_cons, List.find?_cons, List.any_cons]
    dsimp only
    rw [keyEq_int]
    cases decide (d.number = n)
    · simpa using ih
    · rfl
theorem keys_snoc (acc : List DecR) (d : DecR) : keysOf acc ++ [(.int .i64 d.number, .bool true)] = keysOf (acc ++ [d]) := by
  unfold keysOf
  rw [List.map_append]
  rfl
theorem any_bare (acc : List DecR) (n : Int) : (acc.map bare).any (fun o => decide (o.number = n)) = acc.any fun o => decide (o.number = n) := by
  rw [List.any_map]
  rfl
end Go.Proofs.YtjfcllanochhmaaGreatDoor.Dec

namespace Go.Proofs.YtjfcllanochhmaaGreatDoor.Dec
open Go.RowKit Grp Mem _root_.Go.Proofs.YtjfcllanochhmaaGreatDoor.Code Sha Sign _root_.Go.Proofs.YtjfcllanochhmaaGreatDoor.Item _root_.Go.Proofs.YtjfcllanochhmaaGreatDoor.Known

theorem dskipV {P : Program} {C : World → Prop} {ops : Array Oper} {rest : List Oper} {o : Oper} {a : Act} {K : Act → Prop} (hw : Region.wanted o (yielded ops a.tmps) = false) (h : wpQuiet P ops C K rest (a.put o.dst undef)) : wpQuiet P ops C K (o :: rest) a := by
  unfold wpQuiet
  rw [if_neg (by rw [hw]; exact Bool.false_ne_true)]
  exact h
theorem dmoveV {P : Program} {C : World → Prop} {ops : Array Oper} {rest : List Oper} {o : Oper} {a : Act} {K : Act → Prop} (x : Operand) (v : Value) (ho : o.op = .move x) (hw : Region.wanted o (yielded ops a.tmps) = true) (hx : a.eval x = v) (h : wpQuiet P ops C K rest (a.put o.dst v)) : wpQuiet P ops C K (o :: rest) a := by
  unfold wpQuiet
  rw [if_pos hw]
  refine ⟨v, ?_, h⟩
  intro w _
  unfold Oper.quietAt execOp
  simp only [ho, hx, Sem.run_bind, Result.andThen_ok, Sem.run_pure, Oper.quietUpon]
  exact ⟨trivial, trivial⟩
theorem ld_int {w : World} {g o : Nat} {n : Int} (h : w.cell? ⟨g, o, none⟩ = some (.int .i64 n)) : (Instr.loadAt 3 (.pointer (some ⟨g, o, none⟩))).run Tryz.prog w = .ok (.int .i64 n) w := by
  have h1 := Tryz.underlying3
  have h2 := Tryz.isAgg3
  unfold Instr.loadAt
  go_simp
theorem ld_ints {w : World} {g o : Nat} {A : Option Addr} {n c : Nat} (h : w.cell? ⟨g, o, none⟩ = some (.slice A n c)) : (Instr.loadAt 25 (.pointer (some ⟨g, o, none⟩))).run Tryz.prog w = .ok (.slice A n c) w := by
  have h1 := Tryz.underlying25
  have h2 := Tryz.isAgg25
  unfold Instr.loadAt
  go_simp
def ValidAre (sv : List Int) (ds : List DecR) (w : World) (e : Ending) (w' : World) : Prop := ∃ (A : Option Addr) (c : Nat) (l : List DecR), e = .returned (.slice A l.length c) ∧ l.length ≤ c ∧ c ≤ maxLen ∧ l.map bare = validK sv ds ∧ RowsAt w' A 12 DecR.cells l ∧ (∀ d ∈ l, DecO w' d) ∧ Q w w'
/-- What holds between two rounds. -/
structure VSt (w1 W2 : World) (g : Nat) (sv : List Int) (ds : List DecR) (j : Nat) (wr : World) (A : Option Addr) (c : Nat) (acc : List DecR) : Prop where
  q : Q w1 wr
  kp : Kp g W2 wr
  map : AMap (.int .i64) wr g (keysOf acc)
  own : Owns wr W2.heap.size 45 12 (.slice A acc.length c) acc.length (acc.flatMap DecR.cells)
  inn : ∀ d ∈ acc, DecO wr d
  eq : acc.map bare = validK sv (ds.take j)
  le : acc.length ≤ c ∧ c ≤ maxLen
theorem listDe_in {key : Int} {k : KR} {w : World} (hK : KIn w k) {d : DecR} (h : d ∈ listDe key k.l) : DecIn w d ∧ d.to.length ≤ 1000000 := by
  obtain ⟨x, hx, ⟨h1, h2⟩, rfl⟩ := (listDe_mem _ _ _).1 h
  have hk := (want_de h1).1
  refine ⟨(hK.items.each x hx).dec, ?_⟩
  unfold itemRight at h2
  rw [if_neg (by omega), if_neg (by omega), if_neg (by omega), if_pos hk, Bool.and_eq_true] at h2
  exact (small_dec h2.1).2.2.2.2.2
theorem listDe_le (key : Int) (l : List ItemR) : (listDe key l).length ≤ l.length := by
  unfold listDe
  rw [List.length_map, sortDe_length]
  have := takeDe_le key l l.length
  rwa [List.take_length] at this
theorem zero_bool (w : World) : (zeroValue 4).run Tryz.prog w = .ok (.bool false) w := by kernel_rfl

set_option maxRecDepth 100000 in
set_option maxHeartbeats 8000000 in
theorem valid35_any (k : KR) (server : Int) (w : World) (hT : Tab w) (hK : KIn w k) (hn : k.l.length ≤ 20) : Calls Tryz.prog 18 #[.agg (knA k), .int .i64 server] w (ValidAre k.sv (listDe server k.l) w) := by
  obtain ⟨w1, x, hx, hq1, hbk⟩ := boxedB w 28 k.cells
  have hx : w.alloc (.cells (knA k) 28) = x.w := hx
  have hLk : ∀ y : Wd w1, (Instr.loadAt 28 (.pointer (some ⟨w.heap.size, 0, none⟩))).run Tryz.prog y.w = .ok (.agg (knA k)) y.w := Wd.load hbk.lt (Blk.range hbk) Tryz.underlying28 rfl (by kernel_rfl)
  have cS : ∀ y : Wd w1, y.w.cell? ⟨w.heap.size, 0, none⟩ = some (.slice k.sA k.sv.length k.sC) := fun y => (y.blk hbk).cell 0
  have hKy : ∀ y : Wd w1, KIn y.w k := fun y => hK.q (Q.trans hq1 y.q)
  have hTy : ∀ y : Wd w1, Tab y.w := fun y => hT.q (Q.trans hq1 y.q)
  have hDs := fun y : Wd w1 => allDe_any k server y.w (hTy y) (hKy y) hn
  have hin : ∀ d ∈ listDe server k.l, DecIn w d ∧ d.to.length ≤ 1000000 := fun d hd => listDe_in hK hd
  have hln := listDe_le server k.l
  have hsl := hK.svC
  obtain ⟨i0, hi, hi0, hi1, hi2⟩ := info_parts valDe_info
  have HQ := Lib.hid hq1
  have hlt1 := hbk.lt
  clear hbk hq1 hK
  generalize listDe server k.l = ds at *
  have hd20 : ds.length ≤ 20 := by omega
  have hmm := @run_makeMap Tryz.prog
  go_enter Tryz.func18, Tryz.ntmps18
  go_upto_region 3 with (fail)
  obtain ⟨x2, hx2⟩ : ∃ x2 : Wd w1, x.w.alloc (.map #[] 0) = x2.w := ⟨⟨_, Below.alloc x.q x.q.size _⟩, rfl⟩
  have hM0 := AMap.made (.int .i64) x.w
  have hgs := x.q.size
  rw [hx2] at hM0 ⊢
  generalize x.w.heap.size = g at *
  clear hx2 hmm
  go_wp2_with (first | (refine wpList_load_run 28 (.tmp 2) (.pointer (some ⟨w.heap.size, 0, none⟩)) (.agg (knA k)) ?_ ?_ ?_ ?_ ?_; rfl; rfl; rfl; exact hLk _) | (go_at_call 46; refine (hDs _).mono ?_; rintro e w' ⟨AD, cD, rfl, hlc, hcm, hRD, hq2⟩; obtain ⟨y, rfl⟩ := Wd.next _ hq2; have hMy := hM0.q hq2; clear hq2))
  have hSt0 : VSt w1 y.w g k.sv ds 0 y.w none 0 [] := ⟨y.q, Kp.refl _ _, hMy, Owns.nil_ _ _ _ _, by simp, rfl, Nat.le_refl _, Nat.zero_le _⟩
  have hgy := hMy.lt
  have hmy := hMy.isMap
  clear hM0 hMy hDs
  obtain ⟨W2, hW2⟩ : ∃ W2, W2 = y.w := ⟨_, rfl⟩
  rw [← hW2] at hSt0 hgy hmy hRD ⊢
  have hq2 : Q w1 W2 := hW2 ▸ y.q
  have HST0 := Lib.hid hSt0
  clear hSt0 hW2
  have hdi : ∀ d ∈ ds, DecIn W2 d := fun d hd => (hin d hd).1.q (Q.trans HQ.out hq2)
  have hto : ∀ d ∈ ds, d.to.length ≤ 1000000 := fun d hd => (hin d hd).2
  clear hin hq2
  generalize hnds : ds.length = nd at *
  go_loopw [5, 14] (fun a i wr => ∃ (j : Nat) (A : Option Addr) (c : Nat) (acc : List DecR), a = .slice A acc.length c ∧ i = .int .i64 j ∧ j ≤ nd ∧ acc.length ≤ j ∧ Hid (VSt w1 W2 g k.sv ds j wr A c acc)) (fun _ i _ => nd - (intOf i).toNat)
  case atStart => exact ⟨0, none, 0, [], rfl, rfl, Nat.zero_le _, Nat.zero_le _, HST0⟩
  case round =>
    obtain ⟨j, A, c, acc, rfl, rfl, hj, haj, hst⟩ := hrel
    have st := hst.out
    by_cases hlt : j < nd
    · have hltL : j < ds.length := by omega
      have hltI : (j : Int) < (nd : Int) := by omega
      have hRr := rows_kp st.kp hmy hRD
      obtain ⟨b, o, eA, hb0, hcs⟩ := hRr (by omega)
      have hld : ∀ y : Wd wr, (Instr.loadAt 45 (.pointer (some ⟨b, o + j * 12, none⟩))).run Tryz.prog y.w = .ok (.agg (decA ds[j])) y.w := Wd.load hb0 (hcs j hltL) Tryz.underlying45 rfl (by kernel_rfl)
      have hdj : DecIn wr ds[j] := dec_kp st.kp hmy (hdi _ (List.getElem_mem hltL))
      have htj := hto _ (List.getElem_mem hltL)
      have hVS := valid_step k.sv ds j hltL
      rw [← st.eq] at hVS
      unfold validStep at hVS
      rw [any_bare] at hVS
      have hqr := st.q
      have hqs := hqr.size
      subst eA
      clear hcs
      generalize ds[j] = d at *
      go_wp2_with (first | (refine wpList_index_rows 22 45 (.tmp 12) (.tmp 14) b o nd cD j 12 rfl rfl rfl rfl Tryz.underlying22 (by kernel_rfl) Tryz.sizeOf45 hlt ?_) | (refine wpList_load_run 45 (.tmp 16) (.pointer (some ⟨b, o + j * 12, none⟩)) (.agg (decA d)) ?_ ?_ ?_ ?_ ?_; rfl; rfl; rfl; exact hld ⟨_, Q.refl _⟩) | (refine wpList_store_blk (Blk.new wr 45 dec0.cells.toArray) rfl 45 (.tmp 8) (.tmp 17) d.cells rfl rfl rfl (by kernel_rfl) (dec_all _) (Nat.le_refl 12) ?_))
      intro W hW hbel
      rw [splice_all _ _ (by rfl)] at hW
      have hqW : Q wr W := hbel _ _ (Nat.le_refl _) (q_new _ _ _)
      have hgd : wr.heap.size < W.heap.size := hW.lt
      have hMW := st.map.q hqW
      have cN : ∀ y : Wd W, y.w.cell? ⟨wr.heap.size, 1, none⟩ = some (.int .i64 d.number) := fun y => (y.blk hW).cell 1
      have hLd : ∀ y : Wd W, (Instr.loadAt 45 (.pointer (some ⟨wr.heap.size, 0, none⟩))).run Tryz.prog y.w = .ok (.agg (decA d)) y.w := Wd.load hW.lt (Blk.range hW) Tryz.underlying45 rfl (by kernel_rfl)
      have hBd : ∀ y : Wd W, Blk y.w wr.heap.size 45 d.cells.toArray := fun y => y.blk hW
      have hAK := assoc_keys d.number acc
      cases hany : acc.any (fun o => decide (o.number = d.number))
      rotate_left
      · rw [hany] at hAK hVS
        rw [if_pos rfl] at hAK
        have hlk : ∀ y : Wd W, (Instr.lookup 95 (.map (some g)) (.int .i64 d.number) false).run Tryz.prog y.w = .ok (.bool true) y.w := fun y => (hMW.q y.q).lookup Tryz.underlying95 Tryz.underlying3 (key_int _) hAK false
        have hVE : validK k.sv (ds.take (j + 1)) = acc.map bare := by rw [hVS]; simp
        have HN : ∀ y : Wd W, Hid (VSt w1 W2 g k.sv ds (j + 1) y.w A c acc) := fun y => Lib.hid (by
          have hqy := Q.trans hqW y.q
          exact ⟨Q.trans st.q hqy, st.kp.trans (Kp.of_q hqy), st.map.q hqy, st.own.q hqy, fun d hd => (st.inn d hd).q hqy, hVE.symm, st.le⟩)
        clear hVS hVE hAK hany hbel hW hMW hBd hLd hld hdj st hst
        obtain ⟨v, hv⟩ := Wd.first W
        rw [hv]
        clear hv
        go_upto_region 6 with (fail)
        refine wp_region_wd v (by kernel_rfl) (by kernel_rfl) ?_
        iterate 4 (go_big_quiet_step (fail))
        with_reducible refine dmoveV (.tmp 21) (.bool true) (by kernel_rfl) (by kernel_rfl) (by kernel_rfl) ?_
        dsimp only [Act.put]
        simp only [List.setIfInBounds_toArray, List.set_cons_succ, List.set_cons_zero]
        iterate 6 (with_reducible refine dskipV (by kernel_rfl) ?_; dsimp only [Act.put]; simp only [List.setIfInBounds_toArray, List.set_cons_succ, List.set_cons_zero])
        repeat (go_big_quiet_step (fail))
        refine wpQuiet_nil ?_
        rintro w'' ⟨y, rfl⟩
        go_wp2_with fail
        exact ⟨⟨j + 1, A, c, acc, rfl, by go_num, by omega, by omega, HN y⟩, by simp only [intOf]; omega⟩
      · rw [hany] at hAK hVS
        rw [if_neg Bool.false_ne_true] at hAK
        have hlk : ∀ y : Wd W, (Instr.lookup 95 (.map (some g)) (.int .i64 d.number) false).run Tryz.prog y.w = .ok (.bool false) y.w := fun y => (hMW.q y.q).miss Tryz.underlying95 Tryz.underlying3 (key_int _) hAK zero_bool false
        have hq1W := Q.trans hqr hqW
        have cSW : ∀ y : Wd W, y.w.cell? ⟨w.heap.size, 0, none⟩ = some (.slice k.sA k.sv.length k.sC) := fun y => cS ⟨y.w, Q.trans hq1W y.q⟩
        have hOf := fun y : Wd W => ofDec_from d y.w (hdj.q (Q.trans hqW y.q)) htj
        have hSg : ∀ (TA : Option Addr) (tc : Nat) (y : Wd W), DecIn y.w (DecR.to' d TA tc) → Calls Tryz.prog 35 #[.slice k.sA k.sv.length k.sC, .agg (itA (itDec (DecR.to' d TA tc)))] y.w fun e w' => e = .returned (.bool (signedB k.sv (itDec d))) ∧ Q y.w w' := fun TA tc y hd => signed_any k.sA k.sC k.sv (itDec (DecR.to' d TA tc)) y.w (hTy ⟨y.w, Q.trans hq1W y.q⟩) ⟨act0_in y.w, hd⟩ (hKy ⟨y.w, Q.trans hq1W y.q⟩).sv (by omega)
        obtain ⟨v, hv⟩ := Wd.first W
        rw [hv]
        clear hv
        go_upto_region 6 with (fail)
        refine wp_region_S (fun z => ∃ y : Wd W, z = y.w) (by kernel_rfl) (v.next (Q.refl _).drew) ?_
        rintro z ⟨y, rfl⟩
        refine held_pure 0 (v := .map (some g)) rfl (by kernel_rfl) (by kernel_rfl) (by kernel_rfl) (by intro c a d v w h; cases d <;> exact h) rfl ⟨y, rfl⟩ (fun w => by rfl) ?_
        try simp only [Act.put, List.setIfInBounds_toArray, List.set_cons_succ, List.set_cons_zero]
        refine held_pure 1 (v := .pointer (some ⟨wr.heap.size, 1, none⟩)) rfl (by kernel_rfl) (by kernel_rfl) (by kernel_rfl) (by intro c a d v w h; cases d <;> exact h) rfl ⟨y, rfl⟩ (fun w => by rfl) ?_
        try simp only [Act.put, List.setIfInBounds_toArray, List.set_cons_succ, List.set_cons_zero]
        refine held_read 2 (v := .int .i64 d.number) rfl (by kernel_rfl) (by kernel_rfl) (by kernel_rfl) (by intro c a d v w h; cases d <;> exact h) rfl ⟨y, rfl⟩ (fun z hz => by obtain ⟨y, rfl⟩ := hz; exact exec_load 3 (.tmp 19) _ _ rfl rfl (ld_int (cN y))) ?_
        try simp only [Act.put, List.setIfInBounds_toArray, List.set_cons_succ, List.set_cons_zero]
        refine held_read 3 (v := .bool false) rfl (by kernel_rfl) (by kernel_rfl) (by kernel_rfl) (by intro c a d v w h; cases d <;> exact h) rfl ⟨y, rfl⟩ (fun z hz => by obtain ⟨y, rfl⟩ := hz; exact exec_lookup_run 95 (.tmp 18) (.tmp 20) _ _ _ rfl rfl rfl (hlk y)) ?_
        try simp only [Act.put, List.setIfInBounds_toArray, List.set_cons_succ, List.set_cons_zero]
        refine held_pure 4 (v := .bool false) rfl (by kernel_rfl) (by kernel_rfl) (by kernel_rfl) (by intro c a d v w h; cases d <;> exact h) rfl ⟨y, rfl⟩ (fun w => by rfl) ?_
        try simp only [Act.put, List.setIfInBounds_toArray, List.set_cons_succ, List.set_cons_zero]
        refine held_pureW 5 (v := .pointer (some ⟨w.heap.size, 0, none⟩)) rfl (by kernel_rfl) (by kernel_rfl) (by kernel_rfl) (by intro c a d v w h; cases d <;> exact h) (by kernel_rfl) ⟨y, rfl⟩ (fun w => by rfl) ?_
        try simp only [Act.put, List.setIfInBounds_toArray, List.set_cons_succ, List.set_cons_zero]
        refine held_readW 6 (v := .slice k.sA k.sv.length k.sC) rfl (by kernel_rfl) (by kernel_rfl) (by kernel_rfl) (by intro c a d v w h; cases d <;> exact h) (by kernel_rfl) ⟨y, rfl⟩ (fun z hz => by obtain ⟨y, rfl⟩ := hz; exact exec_load 25 (.tmp 23) _ _ rfl rfl (ld_ints (cSW y))) ?_
        try simp only [Act.put, List.setIfInBounds_toArray, List.set_cons_succ, List.set_cons_zero]
        refine held_readW 7 (v := .agg (decA d)) rfl (by kernel_rfl) (by kernel_rfl) (by kernel_rfl) (by intro c a d v w h; cases d <;> exact h) (by kernel_rfl) ⟨y, rfl⟩ (fun z hz => by obtain ⟨y, rfl⟩ := hz; exact exec_load 45 (.tmp 8) _ _ rfl rfl (hLd y)) ?_
        try simp only [Act.put, List.setIfInBounds_toArray, List.set_cons_succ, List.set_cons_zero]
        refine held_oneW 8 rfl (by kernel_rfl) (by kernel_rfl) (fun K' hK' => ?_)
        go_simp
        refine (hOf y).mono ?_
        rintro e w5 ⟨TA, tc, rfl, htR, ht1, ht2, q5⟩
        obtain ⟨y5, rfl⟩ := y.next q5
        refine hK' _ _ ⟨y5, rfl⟩ ?_
        clear hK' K'
        try simp only [Act.put, List.setIfInBounds_toArray, List.set_cons_succ, List.set_cons_zero]
        refine held_oneW 9 rfl (by kernel_rfl) (by kernel_rfl) (fun K' hK' => ?_)
        go_simp
        refine (hSg TA tc y5 (dec_in htR ht1 ht2)).mono ?_
        rintro e w6 ⟨rfl, q6⟩
        obtain ⟨y6, rfl⟩ := y5.next q6
        refine hK' _ _ ⟨y6, rfl⟩ ?_
        clear hK' K'
        try simp only [Act.put, List.setIfInBounds_toArray, List.set_cons_succ, List.set_cons_zero]
        generalize hsb : signedB k.sv (itDec d) = sb at *
        refine held_pureW 10 (v := .bool (!sb)) rfl (by kernel_rfl) (by kernel_rfl) (by kernel_rfl) (by intro c a d v w h; cases d <;> exact h) (by kernel_rfl) ⟨y6, rfl⟩ (fun w => by cases sb <;> rfl) ?_
        try simp only [Act.put, List.setIfInBounds_toArray, List.set_cons_succ, List.set_cons_zero]
        refine held_pure 11 (v := .bool (!sb)) rfl (by kernel_rfl) (by kernel_rfl) (by kernel_rfl) (by intro c a d v w h; cases d <;> exact h) rfl ⟨y6, rfl⟩ (fun w => by rfl) ?_
        try simp only [Act.put, List.setIfInBounds_toArray, List.set_cons_succ, List.set_cons_zero]
        refine wpAnyH_done (by kernel_rfl) ?_ _
        clear htR ht1 ht2 q5 q6 hOf hSg hlk cSW
        cases sb
        · have hVE : validK k.sv (ds.take (j + 1)) = acc.map bare := by rw [hVS]; simp
          have hqy := Q.trans hqW y6.q
          have HN : Hid (VSt w1 W2 g k.sv ds (j + 1) y6.w A c acc) := Lib.hid ⟨Q.trans st.q hqy, st.kp.trans (Kp.of_q hqy), st.map.q hqy, st.own.q hqy, fun d hd => (st.inn d hd).q hqy, hVE.symm, st.le⟩
          clear hVS hVE hAK hany hbel hW hMW hBd hLd hld hdj st hst
          go_wp2_with fail
          exact ⟨⟨j + 1, A, c, acc, rfl, by go_num, by omega, by omega, HN⟩, by simp only [intOf]; omega⟩
        · have hVE : validK k.sv (ds.take (j + 1)) = acc.map bare ++ [bare d] := by rw [hVS]; simp
          obtain ⟨w7, hr7, hM7, hs7, hB7, hf7⟩ := (hMW.q y6.q).insert (P := Tryz.prog) (k := .int .i64 d.number) (v := .bool true) Tryz.underlying95 Tryz.underlying3 (key_int _) hAK
          rw [keys_snoc] at hM7
          have hMr := st.map.isMap
          have hgw : g < wr.heap.size := st.map.lt
          have hqr6 : Q wr y6.w := Q.trans hqW y6.q
          have hq17 : Q w1 w7 := Below.trans (Q.trans st.q hqr6) (hB7 _ hgs)
          have hkr7 : Kp g wr w7 := (Kp.of_q hqr6).trans (Kp.far hs7 hf7)
          have hB6 : Blk w7 wr.heap.size 45 d.cells.toArray := (hf7 _ (by omega)).trans (hBd y6)
          have cN6 := cN y6
          have hBd7 : ∀ y : Wd w7, Blk y.w wr.heap.size 45 d.cells.toArray := fun y => y.blk hB6
          have c67 : ∀ y : Wd w7, y.w.cell? ⟨wr.heap.size, 6, none⟩ = some (.slice d.toA d.to.length d.toC) := fun y => (hBd7 y).cell 6
          have hfz7 : ∀ y : Wd w7, y.w.frozen? ⟨wr.heap.size, 6, none⟩ = false := fun y => (hBd7 y).frozen 6
          have hCl := fun y : Wd w7 => cloneS_own d.toA d.toC d.to y.w (rows_strs ((dec_kp hkr7 hMr hdj).q y.q).to) htj
          clear hVS hAK hany hbel hW hBd hLd hld hdj cN
          go_upto_region 8 with (refine wpList_mapPut_run 95 (.tmp 30) (.tmp 32) (.const (.bool true)) (.map (some g)) (.int .i64 d.number) (.bool true) rfl rfl rfl rfl rfl hr7 ?_)
          obtain ⟨v7, hv7⟩ := Wd.first w7
          rw [hv7]
          clear hr7
          go_upto_region 9 with (go_at_call 47; refine (hCl _).mono ?_; rintro e w' ⟨TB, tb, rfl, hb1, hb2, hbO, hq8⟩; obtain ⟨y8, rfl⟩ := Wd.next _ hq8; clear hq8)
          have hW8 := Blk.setCells [.slice TB d.to.length tb] 6 _ y8.w (hBd7 y8) (show 7 ≤ 12 by decide)
          rw [dto_cells] at hW8
          have hfar8 := fun b (hne : b ≠ wr.heap.size) => setCells_far (g := wr.heap.size) hne [.slice TB d.to.length tb] 6 y8.w
          have hbel8 := fun (B : Nat) (w0 : World) (hB : B ≤ wr.heap.size) (hw : Below B w0 y8.w) => below_setCells hB [.slice TB d.to.length tb] 6 w0 y8.w hw
          obtain ⟨W8, hWe⟩ : ∃ W8, y8.w.setCell ⟨wr.heap.size, 6, none⟩ (.slice TB d.to.length tb) = W8 := ⟨_, rfl⟩
          have hWe2 : y8.w.setCells wr.heap.size 6 [.slice TB d.to.length tb] = W8 := hWe
          rw [hWe2] at hW8 hfar8 hbel8
          rw [hWe]
          have h78 := y8.q.size
          have hq18 : Q w1 W8 := hbel8 _ _ (by omega) (Q.trans hq17 y8.q)
          have hs8 : y8.w.heap.size ≤ W8.heap.size := (hbel8 _ _ (Nat.zero_le _) (Below.refl _ y8.w)).size
          have hkr8 : Kp g wr W8 := ⟨Nat.le_trans (hkr7.trans (Kp.of_q y8.q)).size hs8, fun b hb hne => (hfar8 b (by omega)).trans ((hkr7.trans (Kp.of_q y8.q)).block b hb hne)⟩
          have hM8 : AMap (.int .i64) W8 g (keysOf (acc ++ [d])) := (hM7.q y8.q).far (hfar8 _ (by omega))
          have hdN : DecO W8 (DecR.to' d TB tb) := ⟨(owns_low hbO (Nat.zero_le _)).keep fun kk hk => hfar8 kk (by have h1 := (hbO.lt kk hk).1; have h2 := v7.q.size; have h3 := hB6.lt; omega), hb1, hb2⟩
          have hold8 : ∀ d ∈ acc, DecO W8 d := fun d hd => DecO.kp hkr8 hMr (st.inn d hd)
          have hown8 := owns_kp hkr8 hMr st.own
          have hk28 : Kp g W2 W8 := st.kp.trans hkr8
          have hLd8 := Wd.load (P := Tryz.prog) (ty := 45) hW8.lt (Blk.range hW8) Tryz.underlying45 rfl (by kernel_rfl) ⟨W8, Q.refl W8⟩
          have hs28 := hk28.size
          clear hWe hWe2 hfar8 hbel8 hBd7 c67 hfz7 hCl hbO hM7 hB7 hf7 hW8 hv7
          go_wp2_with (first | (refine wpList_load_run 45 (.tmp 8) (.pointer (some ⟨wr.heap.size, 0, none⟩)) (.agg (decA (DecR.to' d TB tb))) ?_ ?_ ?_ ?_ ?_; rfl; rfl; rfl; exact hLd8) | (refine wpList_buildSlice_run 22 1 _ #[(0, .agg (decA (DecR.to' d TB tb)))] _ rfl rfl (by simp only [List.map_toArray, List.map_cons, List.map_nil]; rfl) (bsDe_val (DecR.to' d TB tb) _) ?_) | (at_builtin; refine wpList_append_rows valDe_len valDe_one rfl (.tmp 37) (.tmp 39) 22 45 i0 _ 136 rfl Tryz.underlying22 hi hi0 hi1 hi2 rfl (by decide) (by decide) W2.heap.size (.slice A acc.length c) acc.length _ rfl (hown8.alloc (.cells (decA (DecR.to' d TB tb)) 45)) (some ⟨W8.heap.size, 0, none⟩) 1 1 [DecR.to' d TB tb] rfl (RowsAt.one W8 45 (DecR.to' d TB tb) _ rfl) rfl (by omega) (by simp; omega) ?_))
          intro A9 c9 w9 hc9 hm9 hown9 hg9
          have hqa := q_new W8 (decA (DecR.to' d TB tb)) 45
          have hownA := hown8.alloc (.cells (decA (DecR.to' d TB tb)) 45)
          have hW21 : w1.heap.size ≤ W2.heap.size := by omega
          have hq19 : Q w1 w9 := q_grown (Q.trans hq18 hqa) hW21 hownA hg9
          have hlen : (acc ++ [DecR.to' d TB tb]).length = acc.length + 1 := by simp
          have eF : acc.flatMap DecR.cells ++ (DecR.to' d TB tb).cells = (acc ++ [DecR.to' d TB tb]).flatMap DecR.cells := by simp
          have hke : keysOf (acc ++ [d]) = keysOf (acc ++ [DecR.to' d TB tb]) := by unfold keysOf; rw [List.map_append, List.map_append]; rfl
          have HN : Hid (VSt w1 W2 g k.sv ds (j + 1) w9 A9 c9 (acc ++ [DecR.to' d TB tb])) := Lib.hid ⟨hq19, kp_grown (hk28.trans (Kp.of_q hqa)) hownA hg9, hke ▸ map_grown (hM8.q hqa) hownA hg9, by rw [hlen, ← eF]; exact hown9, fun e he => by
            rcases List.mem_append.1 he with he | he
            · exact ((hold8 e he).q hqa).grown hownA hg9
            · rw [List.mem_singleton] at he
              subst he
              exact (hdN.q hqa).grown hownA hg9, by rw [hVE, List.map_append]; rfl, by rw [hlen]; exact ⟨by omega, hm9⟩⟩
          clear hown9 hg9 hqa hownA hold8 hown8 hdN hM8 hk28 st hst
          go_wp2_with fail
          exact ⟨⟨j + 1, A9, c9, acc ++ [DecR.to' d TB tb], by rw [hlen], by go_num, by omega, by rw [hlen]; omega, HN⟩, by simp only [intOf]; omega⟩
    · obtain rfl : j = nd := by omega
      have hnl : ¬ ((j : Int) < (j : Int)) := by omega
      have HF : Hid (ValidAre k.sv ds w (.returned (.slice A acc.length c)) wr) := Lib.hid ⟨A, c, acc, rfl, st.le.1, st.le.2, by rw [st.eq, ← hnds, List.take_length], Owns.rows valDe_len st.own rfl, st.inn, Q.trans HQ.out st.q⟩
      clear st hst
      go_wp2_with fail
      go_ret
      exact HF.out
end Go.Proofs.YtjfcllanochhmaaGreatDoor.Dec

namespace Go.Proofs.YtjfcllanochhmaaGreatDoor.Mem
open Go.RowKit Grp

def memB (ds : List ByteArray) (d : ByteArray) : Bool := ds.any fun o => decide (o = d)
def DSet (w : World) (b : Nat) (ds : List ByteArray) : Prop := ∃ L, AMap .string w b L ∧ (∀ p ∈ L, p.2 = .bool true) ∧ ∀ d, (assoc (.string d) L).isSome = memB ds d
theorem keyLike_str (d : ByteArray) : KeyLike .string (.string d) := .inr ⟨rfl, d, rfl⟩
theorem DSet.lt {w : World} {b : Nat} {ds : List ByteArray} (h : DSet w b ds) : b < w.heap.size := by
  obtain ⟨L, h1, _⟩ := h
  exact h1.lt
theorem DSet.q {w w' : World} {b : Nat} {ds : List ByteArray} (h : DSet w b ds) (hq : Q w w') : DSet w' b ds := by
  obtain ⟨L, h1, h2, h3⟩ := h
  exact ⟨L, h1.q hq, h2, h3⟩
theorem DSet.made (w : World) : DSet (w.alloc (.map #[] 0)) w.heap.size [] := ⟨[], AMap.made _ _, by simp, fun d => by simp [assoc, memB]⟩
theorem DSet.lookup {P : Program} {t kt et : TypeId} {w : World} {b : Nat} {ds : List ByteArray} (h : DSet w b ds) (ht : P.underlying t = some (.map kt et)) (hu : P.underlying kt = some .string) (hz : ∀ w, (zeroValue et).run P w = .ok (.bool false) w) (d : ByteArray) :
    (Instr.lookup t (.map (some b)) (.string d) false).run P w = .ok (.bool (memB ds d)) w := by
  obtain ⟨L, h1, h2, h3⟩ := h
  have hd := h3 d
  cases ha : assoc (.string d) L with
  | none =>
    rw [ha] at hd
    rw [← hd]
    exact h1.miss ht hu (keyLike_str d) ha hz false
  | some v =>
    rw [ha] at hd
    rw [← hd]
    have hv : v = .bool true := by
      unfold assoc at ha
      obtain ⟨p, hp, rfl⟩ := Option.map_eq_some_iff.1 ha
      exact h2 p (List.mem_of_find?_eq_some hp)
    have := h1.lookup ht hu (keyLike_str d) ha false
    rw [hv] at this
    exact this
theorem assoc_snoc (k : Value) (L : List (Value × Value)) (p : Value × Value) : (assoc k (L ++ [p])).isSome = ((assoc k L).isSome || keyEq k p.1) := by
  unfold assoc
  rw [List.find?_append]
  cases h : L.find? fun p => keyEq k p.1 with
  | some x => simp
  | none =>
    simp only [Option.none_or, Option.map_none, Option.isSome_none, Bool.false_or, List.find?_cons, List.find?_nil]
    cases keyEq k p.1 <;> rfl
theorem memB_snoc (ds : List ByteArray) (d e : ByteArray) : memB (ds ++ [e]) d = (memB ds d || decide (e = d)) := by
  unfold memB
  rw [List.any_append]
  simp
theorem keyEq_str (a b : ByteArray) : keyEq (.string a) (.string b) = decide (b = a) := by
  rw [Bool.eq_iff_iff, decide_eq_true_eq]
  constructor
  · intro h
    have h1 : (a.data == b.data) = true := h
    have h2 : a.data = b.data := eq_of_beq h1
    cases a
    cases b
    simp at h2
    rw [h2]
  · rintro rfl
    show (b.data == b.data) = true
    exact beq_self_eq_true _
theorem modify_same {es : List MapEntry} {i : Nat} {f : MapEntry → MapEntry} (h : ∀ e, es[i]? = some e → (fun e : MapEntry => (e.key, e.val)) (f e) = (e.key, e.val)) : (es.modify i f).map (fun e => (e.key, e.val)) = es.map (fun e => (e.key, e.val)) := by
  refine List.ext_getElem? fun j => ?_
  rw [List.getElem?_map, List.getElem?_map, List.getElem?_modify]
  by_cases hij : i = j
  · subst hij
    simp only [if_true]
    cases he : es[i]? with
    | none => rfl
    | some e => simpa using h e he
  · simp [hij]
/-- A string is put in, there already or not. -/
theorem DSet.put {P : Program} {t kt et : TypeId} {w : World} {b : Nat} {ds : List ByteArray} (h : DSet w b ds) (ht : P.underlying t = some (.map kt et)) (hu : P.underlying kt = some .string) (d : ByteArray) :
    ∃ w', (Instr.mapUpdate t (.map (some b)) (.string d) (.bool true)).run P w = .ok () w' ∧ DSet w' b (ds ++ [d]) ∧ w'.heap.size = w.heap.size ∧ (∀ B, B ≤ b → Below B w w') ∧ ∀ g, g ≠ b → w'.heap[g]? = w.heap[g]? := by
  obtain ⟨L, hL, h2, h3⟩ := h
  cases ha : assoc (.string d) L with
  | none =>
    obtain ⟨w', hr, hA, hs, hB, hf⟩ := hL.insert ht hu (keyLike_str d) (v := .bool true) ha
    refine ⟨w', hr, ⟨_, hA, fun p hp => ?_, fun e => ?_⟩, hs, hB, hf⟩
    · rcases List.mem_append.1 hp with hp | hp
      · exact h2 p hp
      · rw [List.mem_singleton] at hp
        rw [hp]
    · rw [assoc_snoc, h3, memB_snoc, keyEq_str]
  | some v =>
    have hlt := hL.lt
    obtain ⟨h0, es, clock, hb, h1⟩ := hL
    obtain ⟨r, q2, q3, q4⟩ := findNow_eq (keyLike_str d) es.toList L 0 h0 h1
    rw [ha] at q3
    obtain ⟨⟨j, v'⟩, rfl, hv'⟩ := Option.map_eq_some_iff.1 q3
    obtain ⟨_, e, he, hk, hv⟩ := q4 j v' rfl
    rw [Nat.sub_zero] at he
    have hmem : (e.key, e.val) ∈ L := by rw [← h1]; exact List.mem_map.2 ⟨e, List.mem_of_getElem? he, rfl⟩
    have hek : e.key = .string d := by
      rcases h0 _ hmem with ⟨hh, _⟩ | ⟨_, s, hs⟩
      · cases hh
      · have hs' : e.key = .string s := hs
        rw [hs', keyEq_str, decide_eq_true_eq] at hk
        rw [hs', hk]
    have hev : e.val = .bool true := h2 _ hmem
    have hes : es[j]? = some e := by rw [← Array.getElem?_toList]; exact he
    refine ⟨{ w with heap := w.heap.setIfInBounds b (.map (es.modify j fun e => { e with key := .string d, val := .bool true }) clock) }, ?_, ⟨L, ⟨h0, es.modify j fun e => { e with key := .string d, val := .bool true }, clock, by simp [Array.getElem?_setIfInBounds, hlt], ?_⟩, h2, fun x => ?_⟩, by simp, fun B hB => ⟨rfl, rfl, rfl, by simp, fun g hg => by simp [Array.getElem?_setIfInBounds]; omega⟩, fun g hg => by simp [Array.getElem?_setIfInBounds, Ne.symm hg]⟩
    · have hdd : (d == d) = true := (show (d.data == d.data) = true from beq_self_eq_true _)
      unfold Instr.mapUpdate
      simp only [Sem.run_bind, run_underlying ht w, Result.andThen_ok, getObj, setObj, Sem.run, hb, checkKey_eq hu (keyLike_str d), findKey_eq hu q2, Instr.keyThatStays, hes, Option.map_some, Option.getD_some, hek, Instr.sameBits, hdd, if_true, Sem.run_pure, hb]
    · rw [Array.toList_modify, ← h1]
      refine modify_same fun e2 he2 => ?_
      rw [he] at he2
      cases he2
      simp [hek, hev]
    · rw [h3, memB_snoc]
      by_cases hx : d = x
      · subst hx
        have := h3 d
        rw [ha] at this
        rw [← this]
        simp
      · simp [hx]
end Go.Proofs.YtjfcllanochhmaaGreatDoor.Mem

namespace Go.Proofs.YtjfcllanochhmaaGreatDoor.Dec
open Go.RowKit Grp Mem _root_.Go.Proofs.YtjfcllanochhmaaGreatDoor.Code Sha Sign _root_.Go.Proofs.YtjfcllanochhmaaGreatDoor.Item _root_.Go.Proofs.YtjfcllanochhmaaGreatDoor.Known

/-! ### In force, as plain data -/
def curB (now : Int) (d : DecR) : Bool := decide (d.start ≤ now) && decide (now < d.stop)
def undoB (d : DecR) : Bool := decide (d.kind = 5)
def curL (now : Int) (vs : List DecR) : List DecR := vs.filter (curB now)
def undL (cur : List DecR) : List ByteArray := (cur.filter undoB).map (·.object)
def keepB (und : List ByteArray) (d : DecR) : Bool := undoB d || !memB und (digOf (itDec d))
def forceK (now : Int) (vs : List DecR) : List DecR := (curL now vs).filter (keepB (undL (curL now vs)))
theorem curL_bare (now : Int) (vs : List DecR) : curL now (vs.map bare) = (curL now vs).map bare := by
  unfold curL
  rw [List.filter_map]
  rfl
theorem undL_bare (cur : List DecR) : undL (cur.map bare) = undL cur := by
  unfold undL
  rw [List.filter_map, List.map_map]
  rfl
theorem forceK_bare (now : Int) (vs : List DecR) : forceK now (vs.map bare) = (forceK now vs).map bare := by
  unfold forceK
  rw [curL_bare, undL_bare, List.filter_map]
  rfl
theorem filter_step {α : Type} (p : α → Bool) (l : List α) (j : Nat) (h : j < l.length) : (l.take (j + 1)).filter p = (l.take j).filter p ++ if p l[j] then [l[j]] else [] := by
  rw [List.take_succ_eq_append_getElem h, List.filter_append]
  congr 1
  cases hp : p l[j] <;> simp [List.filter, hp]
theorem filter_le {α : Type} (p : α → Bool) (l : List α) (j : Nat) : ((l.take j).filter p).length ≤ j := Nat.le_trans (List.length_filter_le _ _) (by rw [List.length_take]; omega)
theorem undL_snoc (cur : List DecR) (d : DecR) : undL (cur ++ [d]) = undL cur ++ if undoB d then [d.object] else [] := by
  unfold undL
  rw [List.filter_append, List.map_append]
  congr 1
  cases h : undoB d <;> simp [List.filter, h]
theorem dset_grown {g : Nat} {W W' : World} {ds : List ByteArray} {base n sz : Nat} {e : TypeId} {v : Value} {xs : List Value} (h : DSet W g ds) (hown : Owns W base e sz v n xs) (hg : W.grownBy W' v.ownBlock) : DSet W' g ds := by
  obtain ⟨L, h1, h2, h3⟩ := h
  exact ⟨L, map_grown h1 hown hg, h2, h3⟩
theorem dset_map {g : Nat} {W : World} {ds : List ByteArray} (h : DSet W g ds) : IsMap W g := by
  obtain ⟨L, h1, h2, h3⟩ := h
  exact h1.isMap
/-- What holds between two rounds of the first loop. -/
structure FSt (w1 W2 : World) (g : Nat) (now : Int) (vs : List DecR) (j : Nat) (wr : World) (A : Option Addr) (c : Nat) (acc : List DecR) : Prop where
  q : Q w1 wr
  kp : Kp g W2 wr
  map : DSet wr g (undL acc)
  own : Owns wr W2.heap.size 45 12 (.slice A acc.length c) acc.length (acc.flatMap DecR.cells)
  inn : ∀ d ∈ vs, DecO wr d
  eq : acc = curL now (vs.take j)
  le : acc.length ≤ c ∧ c ≤ maxLen
/-- What holds between two rounds of the second loop. -/
structure GSt (W5 : World) (und : List ByteArray) (cur : List DecR) (j : Nat) (wr : World) (A : Option Addr) (c : Nat) (acc : List DecR) : Prop where
  q : Q W5 wr
  own : Owns wr W5.heap.size 45 12 (.slice A acc.length c) acc.length (acc.flatMap DecR.cells)
  eq : acc = (cur.take j).filter (keepB und)
  le : acc.length ≤ c ∧ c ≤ maxLen
def ForceAre (now : Int) (vs : List DecR) (w : World) (e : Ending) (w' : World) : Prop := ∃ (A : Option Addr) (c : Nat) (l : List DecR), e = .returned (.slice A l.length c) ∧ l.length ≤ c ∧ c ≤ maxLen ∧ l.map bare = forceK now vs ∧ RowsAt w' A 12 DecR.cells l ∧ (∀ d ∈ l, DecO w' d) ∧ Q w w'
theorem valid_in {sv : List Int} {ds : List DecR} {l : List DecR} (h : l.map bare = validK sv ds) {d : DecR} (hd : d ∈ l) : ∃ e ∈ ds, bare d = bare e := by
  have hm : bare d ∈ validK sv ds := h ▸ List.mem_map.2 ⟨d, hd, rfl⟩
  rcases valid_of sv ds [] _ hm with h1 | ⟨e, he, h2, _⟩
  · cases h1
  · exact ⟨e, he, h2⟩

set_option maxRecDepth 100000 in
set_option maxHeartbeats 8000000 in
theorem inforce35_any (k : KR) (server now : Int) (w : World) (hT : Tab w) (hK : KIn w k) (hn : k.l.length ≤ 20) : Calls Tryz.prog 13 #[.agg (knA k), .int .i64 server, .int .i64 now] w (ForceAre now (validK k.sv (listDe server k.l)) w) := by
  obtain ⟨w1, x, hx, hq1, hbk⟩ := boxedB w 28 k.cells
  have hx : w.alloc (.cells (knA k) 28) = x.w := hx
  have hLk : ∀ y : Wd w1, (Instr.loadAt 28 (.pointer (some ⟨w.heap.size, 0, none⟩))).run Tryz.prog y.w = .ok (.agg (knA k)) y.w := Wd.load hbk.lt (Blk.range hbk) Tryz.underlying28 rfl (by kernel_rfl)
  have hTy : ∀ y : Wd w1, Tab y.w := fun y => hT.q (Q.trans hq1 y.q)
  have hVa := fun y : Wd w1 => valid35_any k server y.w (hTy y) (hK.q (Q.trans hq1 y.q)) hn
  have hln := listDe_le server k.l
  have hto0 : ∀ d ∈ listDe server k.l, d.to.length ≤ 1000000 := fun d hd => (listDe_in hK hd).2
  obtain ⟨i0, hi, hi0, hi1, hi2⟩ := info_parts valDe_info
  have HQ := Lib.hid hq1
  have hlt1 := hbk.lt
  have hvle := valid_le k.sv (listDe server k.l) (listDe server k.l).length
  rw [List.take_length] at hvle
  have HVI : ∀ {l : List DecR}, l.map bare = validK k.sv (listDe server k.l) → ∀ d ∈ l, d.to.length ≤ 1000000 := fun h d hd => by
    obtain ⟨e, he, h2⟩ := valid_in h hd
    have h3 : d.to = e.to := show (bare d).to = (bare e).to by rw [h2]
    rw [h3]
    exact hto0 e he
  clear hbk hq1 hK hto0
  unfold ValidAre at hVa
  generalize validK k.sv (listDe server k.l) = VK at *
  have hv20 : VK.length ≤ 20 := by omega
  clear hvle hln
  have hmm := @run_makeMap Tryz.prog
  go_enter Tryz.func13, Tryz.ntmps13
  go_upto_region 3 with (fail)
  obtain ⟨x2, hx2⟩ : ∃ x2 : Wd w1, x.w.alloc (.map #[] 0) = x2.w := ⟨⟨_, Below.alloc x.q x.q.size _⟩, rfl⟩
  have hM0 := DSet.made x.w
  have hgs := x.q.size
  rw [hx2] at hM0 ⊢
  generalize x.w.heap.size = g at *
  clear hx2 hmm
  go_wp2_with (first | (refine wpList_load_run 28 (.tmp 3) (.pointer (some ⟨w.heap.size, 0, none⟩)) (.agg (knA k)) ?_ ?_ ?_ ?_ ?_; rfl; rfl; rfl; exact hLk _) | (go_at_call 18; refine (hVa _).mono ?_; rintro e w' ⟨AD, cD, vs, rfl, hlc, hcm, hvE, hRD, hDO, hq2⟩; obtain ⟨y, rfl⟩ := Wd.next _ hq2; have hMy := hM0.q hq2; clear hq2))
  have hto := HVI hvE
  clear HVI
  have hvl : vs.length = VK.length := by rw [← hvE, List.length_map]
  have hSt0 : FSt w1 y.w g now vs 0 y.w none 0 [] := ⟨y.q, Kp.refl _ _, hMy, Owns.nil_ _ _ _ _, hDO, rfl, Nat.le_refl _, Nat.zero_le _⟩
  have hgy := hMy.lt
  have hmy := dset_map hMy
  clear hM0 hMy hVa hDO
  obtain ⟨W2, hW2⟩ : ∃ W2, W2 = y.w := ⟨_, rfl⟩
  rw [← hW2] at hSt0 hgy hmy hRD ⊢
  have HST0 := Lib.hid hSt0
  have hs12 : w1.heap.size ≤ W2.heap.size := by rw [hW2]; exact y.q.size
  clear hSt0 hW2
  generalize hnds : vs.length = nd at *
  have hnd20 : nd ≤ 20 := by omega
  clear hvl
  go_loopw [7, 19] (fun a i wr => ∃ (j : Nat) (A : Option Addr) (c : Nat) (acc : List DecR), a = .slice A acc.length c ∧ i = .int .i64 j ∧ j ≤ nd ∧ acc.length ≤ j ∧ Hid (FSt w1 W2 g now vs j wr A c acc)) (fun _ i _ => nd - (intOf i).toNat)
  case atStart => exact ⟨0, none, 0, [], rfl, rfl, Nat.zero_le _, Nat.zero_le _, HST0⟩
  case round =>
    obtain ⟨j, A, c, acc, rfl, rfl, hj, haj, hst⟩ := hrel
    have st := hst.out
    by_cases hlt : j < nd
    · have hltL : j < vs.length := by omega
      have hltI : (j : Int) < (nd : Int) := by omega
      have hRr := rows_kp st.kp hmy hRD
      obtain ⟨b, o, eA, hb0, hcs⟩ := hRr (by omega)
      have hld : ∀ y : Wd wr, (Instr.loadAt 45 (.pointer (some ⟨b, o + j * 12, none⟩))).run Tryz.prog y.w = .ok (.agg (decA vs[j])) y.w := Wd.load hb0 (hcs j hltL) Tryz.underlying45 rfl (by kernel_rfl)
      have hFS := filter_step (curB now) vs j hltL
      have hFE : acc = (vs.take j).filter (curB now) := st.eq
      rw [← hFE] at hFS
      clear hFE
      have hqs := st.q.size
      subst eA
      clear hcs
      have hmem := List.getElem_mem hltL
      generalize vs[j] = d at *
      go_wp2_with (first | (refine wpList_index_rows 22 45 (.tmp 17) (.tmp 19) b o nd cD j 12 rfl rfl rfl rfl Tryz.underlying22 (by kernel_rfl) Tryz.sizeOf45 hlt ?_) | (refine wpList_load_run 45 (.tmp 21) (.pointer (some ⟨b, o + j * 12, none⟩)) (.agg (decA d)) ?_ ?_ ?_ ?_ ?_; rfl; rfl; rfl; exact hld ⟨_, Q.refl _⟩) | (refine wpList_store_blk (Blk.new wr 45 dec0.cells.toArray) rfl 45 (.tmp 10) (.tmp 22) d.cells rfl rfl rfl (by kernel_rfl) (dec_all _) (Nat.le_refl 12) ?_))
      intro W hW hbel
      rw [splice_all _ _ (by rfl)] at hW
      have hqW : Q wr W := hbel _ _ (Nat.le_refl _) (q_new _ _ _)
      have hgd : wr.heap.size < W.heap.size := hW.lt
      have cF : ∀ y : Wd W, y.w.cell? ⟨wr.heap.size, 8, none⟩ = some (.int .i64 d.start) := fun y => (y.blk hW).cell 8
      have cU : ∀ y : Wd W, y.w.cell? ⟨wr.heap.size, 9, none⟩ = some (.int .i64 d.stop) := fun y => (y.blk hW).cell 9
      have hLd := Wd.load (P := Tryz.prog) (ty := 45) hW.lt (Blk.range hW) Tryz.underlying45 rfl (by kernel_rfl)
      have hways : (curB now d = false ∧ decide (now < d.start) = true) ∨ (curB now d = false ∧ decide (now < d.start) = false ∧ decide (d.stop ≤ now) = true) ∨ (curB now d = true ∧ decide (now < d.start) = false ∧ decide (d.stop ≤ now) = false) := by
        unfold curB
        by_cases h1 : now < d.start
        · exact .inl ⟨by rw [decide_eq_false (by omega : ¬ d.start ≤ now)]; rfl, decide_eq_true h1⟩
        · by_cases h2 : d.stop ≤ now
          · exact .inr (.inl ⟨by rw [decide_eq_false (by omega : ¬ now < d.stop)]; simp, decide_eq_false h1, decide_eq_true h2⟩)
          · exact .inr (.inr ⟨by rw [decide_eq_true (by omega : d.start ≤ now), decide_eq_true (by omega : now < d.stop)]; rfl, decide_eq_false h1, decide_eq_false h2⟩)
      rcases hways with ⟨hcb, h1⟩ | ⟨hcb, h1, h2⟩ | ⟨hcb, h1, h2⟩
      rotate_left 2
      · rw [hcb, if_pos rfl] at hFS
        have cK : ∀ y : Wd W, y.w.cell? ⟨wr.heap.size, 2, none⟩ = some (.int .i64 d.kind) := fun y => (y.blk hW).cell 2
        have cO : ∀ y : Wd W, y.w.cell? ⟨wr.heap.size, 4, none⟩ = some (.string d.object) := fun y => (y.blk hW).cell 4
        have hBW : Blk W wr.heap.size 45 d.cells.toArray := hW
        have hownW := st.own.q hqW
        have cFW := cF ⟨W, Q.refl _⟩
        have cUW := cU ⟨W, Q.refl _⟩
        dsimp only at cFW cUW
        have hLdW := hLd ⟨W, Q.refl _⟩
        have hs2W := (st.kp.trans (Kp.of_q hqW)).size
        go_upto_region 8 with (first | (refine wpList_load_run 45 (.tmp 10) (.pointer (some ⟨wr.heap.size, 0, none⟩)) (.agg (decA d)) ?_ ?_ ?_ ?_ ?_; rfl; rfl; rfl; exact hLdW) | (refine wpList_buildSlice_run 22 1 _ #[(0, .agg (decA d))] _ rfl rfl (by simp only [List.map_toArray, List.map_cons, List.map_nil]; rfl) (bsDe_val d _) ?_) | (at_builtin; refine wpList_append_rows valDe_len valDe_one rfl (.tmp 33) (.tmp 35) 22 45 i0 _ 136 rfl Tryz.underlying22 hi hi0 hi1 hi2 rfl (by decide) (by decide) W2.heap.size (.slice A acc.length c) acc.length _ rfl (hownW.alloc (.cells (decA d) 45)) (some ⟨W.heap.size, 0, none⟩) 1 1 [d] rfl (RowsAt.one W 45 d _ rfl) rfl (by omega) (by simp; omega) ?_))
        intro A9 c9 w9 hc9 hm9 hown9 hg9
        have hqa := q_new W (decA d) 45
        have hownA := hownW.alloc (.cells (decA d) 45)
        have hqWa := Q.trans hqW hqa
        have hq19 : Q w1 w9 := q_grown (Q.trans st.q hqWa) hs12 hownA hg9
        have hk9 : Kp g W2 w9 := kp_grown (st.kp.trans (Kp.of_q hqWa)) hownA hg9
        have hM9 : DSet w9 g (undL acc) := dset_grown (st.map.q hqWa) hownA hg9
        have hB9 : Blk w9 wr.heap.size 45 d.cells.toArray := (hg9.block wr.heap.size (by have := hqa.size; omega) (fun e2 => by
          rcases hown9 with _
          rcases st.own.2 with ⟨e3, _⟩ | ⟨g2, cap2, cur2, fz2, e3, _, hg2, _⟩
          · rw [e3] at e2
            simp [Value.ownBlock] at e2
          · rw [e3] at e2
            simp [Value.ownBlock] at e2
            have := (Array.getElem?_eq_some_iff.1 hg2).1
            omega)).trans (hBW.q hqa)
        have hinn : ∀ e ∈ vs, DecO w9 e := fun e he => ((st.inn e he).q hqWa).grown hownA hg9
        have hlen : (acc ++ [d]).length = acc.length + 1 := by simp
        have eF : acc.flatMap DecR.cells ++ d.cells = (acc ++ [d]).flatMap DecR.cells := by simp
        rw [eF, ← hlen] at hown9
        have hUS := undL_snoc acc d
        have cK9 : w9.cell? ⟨wr.heap.size, 2, none⟩ = some (.int .i64 d.kind) := hB9.cell 2
        have cO9 : w9.cell? ⟨wr.heap.size, 4, none⟩ = some (.string d.object) := hB9.cell 4
        clear hbel hW hld hLd cF cU cK cO hLdW cFW cUW hownW hBW
        cases hu : undoB d
        · rw [hu, if_neg Bool.false_ne_true, List.append_nil] at hUS
          have hk5 : (d.kind == 5) = false := by unfold undoB at hu; simpa using hu
          have HN : Hid (FSt w1 W2 g now vs (j + 1) w9 A9 c9 (acc ++ [d])) := Lib.hid ⟨hq19, hk9, by rw [hUS]; exact hM9, hown9, hinn, hFS.symm, by rw [hlen]; exact ⟨by omega, hm9⟩⟩
          clear hown9 hg9 hqa hownA hM9 hk9 hinn st hst hB9
          go_wp2_with fail
          exact ⟨⟨j + 1, A9, c9, acc ++ [d], by rw [hlen], by go_num, by omega, by rw [hlen]; omega, HN⟩, by simp only [intOf]; omega⟩
        · rw [hu, if_pos rfl] at hUS
          have hk5 : (d.kind == 5) = true := by unfold undoB at hu; simpa using hu
          obtain ⟨w10, hr10, hM10, hs10, hB10, hf10⟩ := hM9.put (P := Tryz.prog) Tryz.underlying87 Tryz.underlying9 d.object
          have hk910 : Kp g w9 w10 := Kp.far hs10 hf10
          have hm9' := dset_map hM9
          have HN : Hid (FSt w1 W2 g now vs (j + 1) w10 A9 c9 (acc ++ [d])) := Lib.hid ⟨Below.trans hq19 (hB10 _ hgs), hk9.trans hk910, by rw [hUS]; exact hM10, owns_kp hk910 hm9' hown9, fun e he => DecO.kp hk910 hm9' (hinn e he), hFS.symm, by rw [hlen]; exact ⟨by omega, hm9⟩⟩
          clear hown9 hg9 hqa hownA hM9 hk9 hinn st hst hB9 hB10 hf10 hM10 hk910
          go_wp2_with (refine wpList_mapPut_run 87 (.tmp 40) (.tmp 42) (.const (.bool true)) (.map (some g)) (.string d.object) (.bool true) rfl rfl rfl rfl rfl hr10 ?_)
          exact ⟨⟨j + 1, A9, c9, acc ++ [d], by rw [hlen], by go_num, by omega, by rw [hlen]; omega, HN⟩, by simp only [intOf]; omega⟩
      all_goals
        rw [hcb, if_neg Bool.false_ne_true, List.append_nil] at hFS
        have HN : Hid (FSt w1 W2 g now vs (j + 1) W A c acc) := Lib.hid ⟨Q.trans st.q hqW, st.kp.trans (Kp.of_q hqW), st.map.q hqW, st.own.q hqW, fun e he => (st.inn e he).q hqW, hFS.symm, st.le⟩
        have cFW := cF ⟨W, Q.refl _⟩
        have cUW := cU ⟨W, Q.refl _⟩
        dsimp only at cFW cUW
        clear hbel hW hld hLd cF cU st hst
        go_wp2_with fail
        exact ⟨⟨j + 1, A, c, acc, rfl, by go_num, by omega, by omega, HN⟩, by simp only [intOf]; omega⟩
    · obtain rfl : j = nd := by omega
      have hnl : ¬ ((j : Int) < (j : Int)) := by omega
      have hacc : acc = curL now vs := by rw [st.eq, ← hnds, List.take_length]
      have hR5 := Owns.rows valDe_len st.own rfl
      have hq15 := st.q
      have hM5 := st.map
      have hin5 : ∀ e ∈ acc, DecO wr e := fun e he => st.inn e (List.mem_filter.1 (hacc ▸ he)).1
      have hto5 : ∀ e ∈ acc, e.to.length ≤ 1000000 := fun e he => hto e (List.mem_filter.1 (hacc ▸ he)).1
      have HFK : Hid (((acc.filter (keepB (undL acc))).map bare) = forceK now VK) := Lib.hid (by rw [← hvE, forceK_bare]; unfold forceK; rw [← hacc])
      clear st hst hvE hto hRD hmy hgy hnds hacc
      generalize hund : undL acc = und at *
      clear hund
      generalize hnc : acc.length = nc at *
      have hnc20 : nc ≤ 20 := by omega
      have HQ5 := Lib.hid (Q.trans HQ.out hq15)
      have hTy5 : ∀ z, Q wr z → Tab z := fun z hz => hTy ⟨z, Q.trans hq15 hz⟩
      clear hq15 hTy hLk HST0 haj hj
      generalize wr = W5 at *
      obtain ⟨z5, hz5⟩ := Wd.first W5
      rw [hz5]
      go_wp2_with fail
      have HG0 : Hid (GSt W5 und acc 0 z5.w none 0 []) := Lib.hid ⟨z5.q, Owns.nil_ _ _ _ _, rfl, Nat.le_refl _, Nat.zero_le _⟩
      clear hz5
      go_loopw [11, 46] (fun a i wr => ∃ (j : Nat) (B : Option Addr) (c : Nat) (cc : List DecR), a = .slice B cc.length c ∧ i = .int .i64 j ∧ j ≤ nc ∧ cc.length ≤ j ∧ Hid (GSt W5 und acc j wr B c cc)) (fun _ i _ => nc - (intOf i).toNat)
      case atStart => exact ⟨0, none, 0, [], rfl, rfl, Nat.zero_le _, Nat.zero_le _, HG0⟩
      case round =>
        clear HG0
        obtain ⟨j, B, c5, cc, rfl, rfl, hj, hcj, hst⟩ := hrel
        have st := hst.out
        by_cases hlt : j < nc
        · have hltL : j < acc.length := by omega
          have hltI : (j : Int) < (nc : Int) := by omega
          obtain ⟨b, o, eA, hb0, hcs⟩ := hR5 (by omega)
          have hld := Wd.load (P := Tryz.prog) (ty := 45) hb0 (hcs j hltL) Tryz.underlying45 rfl (by kernel_rfl) ⟨wr, st.q⟩
          have hFS := filter_step (keepB und) acc j hltL
          have hFE : cc = (acc.take j).filter (keepB und) := st.eq
          rw [← hFE] at hFS
          clear hFE
          have hqs := st.q.size
          subst eA
          clear hcs
          have hmem := List.getElem_mem hltL
          generalize acc[j] = d at *
          have hdO := (hin5 d hmem).q st.q
          have htd := hto5 d hmem
          go_wp2_with (first | (refine wpList_index_rows 22 45 (.tmp 44) (.tmp 46) b o nc c j 12 rfl rfl rfl rfl Tryz.underlying22 (by kernel_rfl) Tryz.sizeOf45 hlt ?_) | (refine wpList_load_run 45 (.tmp 48) (.pointer (some ⟨b, o + j * 12, none⟩)) (.agg (decA d)) ?_ ?_ ?_ ?_ ?_; rfl; rfl; rfl; exact hld) | (refine wpList_store_blk (Blk.new wr 45 dec0.cells.toArray) rfl 45 (.tmp 13) (.tmp 49) d.cells rfl rfl rfl (by kernel_rfl) (dec_all _) (Nat.le_refl 12) ?_))
          intro W hW hbel
          rw [splice_all _ _ (by rfl)] at hW
          have hqW : Q wr W := hbel _ _ (Nat.le_refl _) (q_new _ _ _)
          have hq5W : Q W5 W := Q.trans st.q hqW
          have cK : W.cell? ⟨wr.heap.size, 2, none⟩ = some (.int .i64 d.kind) := hW.cell 2
          have hLd : ∀ y : Wd W, (Instr.loadAt 45 (.pointer (some ⟨wr.heap.size, 0, none⟩))).run Tryz.prog y.w = .ok (.agg (decA d)) y.w := Wd.load hW.lt (Blk.range hW) Tryz.underlying45 rfl (by kernel_rfl)
          have hownW := st.own.q hqW
          have hs2W := hq5W.size
          have hM5W := hM5.q hq5W
          have HKE := Lib.hid (show keepB und d = (undoB d || !memB und (digOf (itDec d))) from rfl)
          have hOf := fun y : Wd W => ofDec_from d y.w (hdO.inn.q (Q.trans hqW y.q)) htd
          have hDg : ∀ (TA : Option Addr) (tc : Nat) (y : Wd W), DecIn y.w (DecR.to' d TA tc) → Calls Tryz.prog 17 #[.agg (itA (itDec (DecR.to' d TA tc)))] y.w fun e w' => e = .returned (.string (digOf (itDec d))) ∧ Q y.w w' := fun TA tc y hd => digest_any (itDec (DecR.to' d TA tc)) y.w (hTy5 _ (Q.trans hq5W y.q)) ⟨act0_in y.w, hd⟩
          have hlk : ∀ y : Wd W, (Instr.lookup 87 (.map (some g)) (.string (digOf (itDec d))) false).run Tryz.prog y.w = .ok (.bool (memB und (digOf (itDec d)))) y.w := fun y => (hM5W.q y.q).lookup Tryz.underlying87 Tryz.underlying9 zero_bool (digOf (itDec d))
          generalize digOf (itDec d) = dg at *
          generalize memB und dg = mb at *
          have hle := st.le
          have hq5r := st.q
          have hqsW := hqW.size
          clear hbel hW hld hM5W hdO htd st hst
          cases hu : undoB d
          · have hk5 : (d.kind == 5) = false := by unfold undoB at hu; simpa using hu
            rw [hu, Bool.false_or] at HKE
            obtain ⟨v, hv⟩ := Wd.first W
            rw [hv] at cK ⊢
            cases mb
            · rw [HKE.out, if_pos (show (!false) = true from rfl)] at hFS
              go_upto_region 16 with (first | (refine wpList_load_run 45 (.tmp 13) (.pointer (some ⟨wr.heap.size, 0, none⟩)) (.agg (decA d)) ?_ ?_ ?_ ?_ ?_; rfl; rfl; rfl; exact hLd _) | (go_at_call 38; refine (hOf _).mono ?_; rintro e w' ⟨TA, tc, rfl, htR, ht1, ht2, hq2⟩; have hdi := dec_in htR ht1 ht2; obtain ⟨y, rfl⟩ := Wd.next _ hq2; clear hq2) | (go_at_call 17; refine (hDg _ _ _ hdi).mono ?_; rintro e w' ⟨rfl, hq3⟩; obtain ⟨y2, rfl⟩ := Wd.next _ hq3; clear hq3))
              have hown2 := hownW.q y2.q
              have hs2 := y2.q.size
              go_wp2_with (first | (refine wpList_load_run 45 (.tmp 13) (.pointer (some ⟨wr.heap.size, 0, none⟩)) (.agg (decA d)) ?_ ?_ ?_ ?_ ?_; rfl; rfl; rfl; exact hLd _) | (refine wpList_buildSlice_run 22 1 _ #[(0, .agg (decA d))] _ rfl rfl (by simp only [List.map_toArray, List.map_cons, List.map_nil]; rfl) (bsDe_val d _) ?_) | (at_builtin; refine wpList_append_rows valDe_len valDe_one rfl (.tmp 61) (.tmp 63) 22 45 i0 _ 136 rfl Tryz.underlying22 hi hi0 hi1 hi2 rfl (by decide) (by decide) W5.heap.size (.slice B cc.length c5) cc.length _ rfl (hown2.alloc (.cells (decA d) 45)) (some ⟨y2.w.heap.size, 0, none⟩) 1 1 [d] rfl (RowsAt.one y2.w 45 d _ rfl) rfl (by omega) (by simp; omega) ?_))
              intro A9 c9 w9 hc9 hm9 hown9 hg9
              have hqa := q_new y2.w (decA d) 45
              have hownA := hown2.alloc (.cells (decA d) 45)
              have hq9 : Q W5 w9 := q_grown (Q.trans (Q.trans hq5W y2.q) hqa) (Nat.le_refl _) hownA hg9
              have hlen : (cc ++ [d]).length = cc.length + 1 := by simp
              have eF : cc.flatMap DecR.cells ++ d.cells = (cc ++ [d]).flatMap DecR.cells := by simp
              rw [eF, ← hlen] at hown9
              have HN : Hid (GSt W5 und acc (j + 1) w9 A9 c9 (cc ++ [d])) := Lib.hid ⟨hq9, hown9, hFS.symm, by rw [hlen]; exact ⟨by omega, hm9⟩⟩
              clear hown9 hg9 hqa hownA hown2
              go_wp2_with fail
              exact ⟨⟨j + 1, A9, c9, cc ++ [d], by rw [hlen], by go_num, by omega, by rw [hlen]; omega, HN⟩, by simp only [intOf]; omega⟩
            · rw [HKE.out, if_neg (by decide), List.append_nil] at hFS
              go_wp2_with (first | (refine wpList_load_run 45 (.tmp 13) (.pointer (some ⟨wr.heap.size, 0, none⟩)) (.agg (decA d)) ?_ ?_ ?_ ?_ ?_; rfl; rfl; rfl; exact hLd _) | (go_at_call 38; refine (hOf _).mono ?_; rintro e w' ⟨TA, tc, rfl, htR, ht1, ht2, hq2⟩; have hdi := dec_in htR ht1 ht2; obtain ⟨y, rfl⟩ := Wd.next _ hq2; clear hq2) | (go_at_call 17; refine (hDg _ _ _ hdi).mono ?_; rintro e w' ⟨rfl, hq3⟩; obtain ⟨y2, rfl⟩ := Wd.next _ hq3; clear hq3))
              have HN : Hid (GSt W5 und acc (j + 1) y2.w B c5 cc) := Lib.hid ⟨Q.trans hq5W y2.q, hownW.q y2.q, hFS.symm, hle⟩
              exact ⟨⟨j + 1, B, c5, cc, rfl, by go_num, by omega, by omega, HN⟩, by simp only [intOf]; omega⟩
          · have hk5 : (d.kind == 5) = true := by unfold undoB at hu; simpa using hu
            rw [hu, Bool.true_or] at HKE
            rw [HKE.out, if_pos rfl] at hFS
            obtain ⟨v, hv⟩ := Wd.first W
            rw [hv] at cK ⊢
            have hown2 := hownW.q v.q
            have hs2 := v.q.size
            go_wp2_with (first | (refine wpList_load_run 45 (.tmp 13) (.pointer (some ⟨wr.heap.size, 0, none⟩)) (.agg (decA d)) ?_ ?_ ?_ ?_ ?_; rfl; rfl; rfl; exact hLd _) | (refine wpList_buildSlice_run 22 1 _ #[(0, .agg (decA d))] _ rfl rfl (by simp only [List.map_toArray, List.map_cons, List.map_nil]; rfl) (bsDe_val d _) ?_) | (at_builtin; refine wpList_append_rows valDe_len valDe_one rfl (.tmp 61) (.tmp 63) 22 45 i0 _ 136 rfl Tryz.underlying22 hi hi0 hi1 hi2 rfl (by decide) (by decide) W5.heap.size (.slice B cc.length c5) cc.length _ rfl (hown2.alloc (.cells (decA d) 45)) (some ⟨v.w.heap.size, 0, none⟩) 1 1 [d] rfl (RowsAt.one v.w 45 d _ rfl) rfl (by omega) (by simp; omega) ?_))
            intro A9 c9 w9 hc9 hm9 hown9 hg9
            have hqa := q_new v.w (decA d) 45
            have hownA := hown2.alloc (.cells (decA d) 45)
            have hq9 : Q W5 w9 := q_grown (Q.trans (Q.trans hq5W v.q) hqa) (Nat.le_refl _) hownA hg9
            have hlen : (cc ++ [d]).length = cc.length + 1 := by simp
            have eF : cc.flatMap DecR.cells ++ d.cells = (cc ++ [d]).flatMap DecR.cells := by simp
            rw [eF, ← hlen] at hown9
            have HN : Hid (GSt W5 und acc (j + 1) w9 A9 c9 (cc ++ [d])) := Lib.hid ⟨hq9, hown9, hFS.symm, by rw [hlen]; exact ⟨by omega, hm9⟩⟩
            clear hown9 hg9 hqa hownA hown2
            go_wp2_with fail
            exact ⟨⟨j + 1, A9, c9, cc ++ [d], by rw [hlen], by go_num, by omega, by rw [hlen]; omega, HN⟩, by simp only [intOf]; omega⟩
        · obtain rfl : j = nc := by omega
          have hnl2 : ¬ ((j : Int) < (j : Int)) := by omega
          have hcc : cc = acc.filter (keepB und) := by rw [st.eq, ← hnc, List.take_length]
          have HF : Hid (ForceAre now VK w (.returned (.slice B cc.length c5)) wr) := Lib.hid ⟨B, c5, cc, rfl, st.le.1, st.le.2, by rw [hcc]; exact HFK.out, Owns.rows valDe_len st.own rfl, fun e he => (hin5 e (List.mem_filter.1 (hcc ▸ he)).1).q st.q, Q.trans HQ5.out st.q⟩
          clear st hst hcc
          go_wp2_with fail
          go_ret
          exact HF.out
end Go.Proofs.YtjfcllanochhmaaGreatDoor.Dec

namespace Go.Proofs
open Go.Shelf
def Tryz.lays190_ren : Go.Shelf.Ren := ⟨fun | 190 => 75 | 125 => 109 | 258 => 108 | 128 => 156 | 129 => 144 | 302 => 147 | 303 => 148 | 304 => 149 | 305 => 150 | 306 => 151 | 307 => 152 | 308 => 153 | 309 => 154 | 310 => 155 | 333 => 170 | 329 => 171 | 330 => 172 | 334 => 173 | 335 => 174 | 336 => 160 | 344 => 180 | n => n, fun | 31 => 32 | 9 => 9 | 3 => 3 | 46 => 123 | 0 => 0 | 51 => 119 | 53 => 152 | 4 => 4 | 183 => 172 | 182 => 171 | 131 => 177 | 5 => 5 | 218 => 194 | 222 => 198 | 228 => 204 | 229 => 205 | n => n, fun | n => n⟩
theorem Tryz.lays190 : Go.Proofs.Lays.n190 Tryz.prog Tryz.lays190_ren := {
  mixed := by kernel_rfl
  f125 := Tryz.func109.trans (congrArg some (by kernel_rfl))
  f128 := Tryz.func156.trans (congrArg some (by kernel_rfl))
  f129 := Tryz.func144.trans (congrArg some (by kernel_rfl))
  f190 := Tryz.func75.trans (congrArg some (by kernel_rfl))
  f258 := Tryz.func108.trans (congrArg some (by kernel_rfl))
  f302 := Tryz.func147.trans (congrArg some (by kernel_rfl))
  f303 := Tryz.func148.trans (congrArg some (by kernel_rfl))
  f304 := Tryz.func149.trans (congrArg some (by kernel_rfl))
  f305 := Tryz.func150.trans (congrArg some (by kernel_rfl))
  f306 := Tryz.func151.trans (congrArg some (by kernel_rfl))
  f307 := Tryz.func152.trans (congrArg some (by kernel_rfl))
  f308 := Tryz.func153.trans (congrArg some (by kernel_rfl))
  f309 := Tryz.func154.trans (congrArg some (by kernel_rfl))
  f310 := Tryz.func155.trans (congrArg some (by kernel_rfl))
  f329 := Tryz.func171.trans (congrArg some (by kernel_rfl))
  f330 := Tryz.func172.trans (congrArg some (by kernel_rfl))
  f333 := Tryz.func170.trans (congrArg some (by kernel_rfl))
  f334 := Tryz.func173.trans (congrArg some (by kernel_rfl))
  f335 := Tryz.func174.trans (congrArg some (by kernel_rfl))
  f336 := Tryz.func160.trans (congrArg some (by kernel_rfl))
  f344 := Tryz.func180.trans (congrArg some (by kernel_rfl))
  t0 := Tryz.underlying0
  a0 := Tryz.isAgg0
  z0 := Tryz.sizeOf0
  v0 := Tryz.zeroValue0
  t3 := Tryz.underlying3
  a3 := Tryz.isAgg3
  z3 := Tryz.sizeOf3
  v3 := Tryz.zeroValue3
  t4 := Tryz.underlying4
  a4 := Tryz.isAgg4
  z4 := Tryz.sizeOf4
  v4 := Tryz.zeroValue4
  t5 := Tryz.underlying5
  a5 := Tryz.isAgg5
  z5 := Tryz.sizeOf5
  v5 := Tryz.zeroValue5
  t9 := Tryz.underlying9
  a9 := Tryz.isAgg9
  z9 := Tryz.sizeOf9
  v9 := Tryz.zeroValue9
  t31 := Tryz.underlying32
  a31 := Tryz.isAgg32
  z31 := Tryz.sizeOf32
  v31 := Tryz.zeroValue32
  t46 := Tryz.underlying123
  a46 := Tryz.isAgg123
  z46 := Tryz.sizeOf123
  v46 := Tryz.zeroValue123
  t51 := Tryz.underlying119
  a51 := Tryz.isAgg119
  z51 := Tryz.sizeOf119
  v51 := Tryz.zeroValue119
  t53 := Tryz.underlying152
  a53 := Tryz.isAgg152
  z53 := Tryz.sizeOf152
  v53 := Tryz.zeroValue152
  t131 := Tryz.underlying177
  a131 := Tryz.isAgg177
  z131 := Tryz.sizeOf177
  v131 := Tryz.zeroValue177
  t182 := Tryz.underlying171
  a182 := Tryz.isAgg171
  z182 := Tryz.sizeOf171
  v182 := Tryz.zeroValue171
  t183 := Tryz.underlying172
  a183 := Tryz.isAgg172
  z183 := Tryz.sizeOf172
  v183 := Tryz.zeroValue172
  t218 := Tryz.underlying194
  a218 := Tryz.isAgg194
  z218 := Tryz.sizeOf194
  v218 := Tryz.zeroValue194
  t222 := Tryz.underlying198
  a222 := Tryz.isAgg198
  z222 := Tryz.sizeOf198
  v222 := Tryz.zeroValue198
  t228 := Tryz.underlying204
  a228 := Tryz.isAgg204
  z228 := Tryz.sizeOf204
  v228 := Tryz.zeroValue204
  t229 := Tryz.underlying205
  a229 := Tryz.isAgg205
  z229 := Tryz.sizeOf205
  v229 := Tryz.zeroValue205 }
open Go.Sort Go.RowKit in
theorem Tryz.slices_Sort_string (blk off cap : Nat) (ss : List (List UInt8)) (w : World) (hH : Holds encStr w blk off ss.toArray) (hblk : blk < w.heap.size) (hsz : ss.length < 4611686018427387904) :
    Calls Tryz.prog 75 #[.slice (some ⟨blk, off, none⟩) ss.length cap] w fun e w' =>
      e = .returned (.tuple #[]) ∧ ∃ n os, w' = grow (putRow encStr (Sort.ahead w n) blk off (ss.mergeSort fun x y => decide (x ≤ y)).toArray) os := Any.slices_Sort_string Tryz.lays190 blk off cap ss w hH hblk hsz
def Tryz.lays194_ren : Go.Shelf.Ren := ⟨fun | 194 => 76 | n => n, fun | 31 => 32 | 9 => 9 | 3 => 3 | 4 => 4 | 0 => 0 | n => n, fun | n => n⟩
theorem Tryz.lays194 : Go.Proofs.Lays.n194 Tryz.prog Tryz.lays194_ren := {
  mixed := by kernel_rfl
  f194 := Tryz.func76.trans (congrArg some (by kernel_rfl))
  t0 := Tryz.underlying0
  a0 := Tryz.isAgg0
  z0 := Tryz.sizeOf0
  v0 := Tryz.zeroValue0
  t3 := Tryz.underlying3
  a3 := Tryz.isAgg3
  z3 := Tryz.sizeOf3
  v3 := Tryz.zeroValue3
  t4 := Tryz.underlying4
  a4 := Tryz.isAgg4
  z4 := Tryz.sizeOf4
  v4 := Tryz.zeroValue4
  t9 := Tryz.underlying9
  a9 := Tryz.isAgg9
  z9 := Tryz.sizeOf9
  v9 := Tryz.zeroValue9
  t31 := Tryz.underlying32
  a31 := Tryz.isAgg32
  z31 := Tryz.sizeOf32
  v31 := Tryz.zeroValue32 }
open Go.RowKit Go.Lib Go.Sort in
/-- slices.Compact at []string, over an array: the library's two loops are walked. (LAID: no walk: one application.) -/
theorem Tryz.slices_Compact_string_arr (blk off cap : Nat) (d : Array (List UInt8)) (w : World) (hH : Holds encStr w blk off d) (hsz : d.size ≤ 9223372036854775807) (hcap : d.size ≤ cap) :
    Calls Tryz.prog 76 #[.slice (some ⟨blk, off, none⟩) d.size cap] w fun e w' => e = .returned (.slice (some ⟨blk, off, none⟩) (compactUpTo d d.size).length cap) ∧ ∃ q, w' = putRow encStr (Sort.ahead w q) blk off (compactUpTo d d.size ++ List.replicate (d.size - (compactUpTo d d.size).length) []).toArray := Any.slices_Compact_string_arr Tryz.lays194 blk off cap d w hH hsz hcap
open Go.RowKit Go.Lib Go.Sort in
/-- slices.Compact at []string: "Compact replaces consecutive runs of equal elements with a single copy. This is like the uniq command found on Unix. Compact modifies the contents of the slice s and returns the modified slice, which may have a smaller length. Compact zeroes the elements between the new length and the original length. The result preserves the nilness of s.": IT RETURNS THE SLICE CUT TO 'Lib.compact zs'; ITS CELLS HOLD 'Lib.compact zs', THEN ZERO VALUES up to the old length; all else is as it was, but for the count of draws. IN THE WORDS OF slices.Sort's CONTRACT ('Holds', 'putRow'): so the everyday 'slices.Sort(xs); xs = slices.Compact(xs)' goes from the one contract to the other. It asks 'zs.length ≤ cap' (every slice's: the reslicing 's[:k]' looks at it). Length 0, nil: '.._empty'. (LAID: no walk: one application.) -/
theorem Tryz.slices_Compact_string (blk off cap : Nat) (zs : List (List UInt8)) (w : World) (hH : Holds encStr w blk off zs.toArray) (hsz : zs.length ≤ 9223372036854775807) (hcap : zs.length ≤ cap) :
    Calls Tryz.prog 76 #[.slice (some ⟨blk, off, none⟩) zs.length cap] w fun e w' => e = .returned (.slice (some ⟨blk, off, none⟩) (Lib.compact zs).length cap) ∧ ∃ q, w' = putRow encStr (Sort.ahead w q) blk off (Lib.compact zs ++ List.replicate (zs.length - (Lib.compact zs).length) []).toArray := Any.slices_Compact_string Tryz.lays194 blk off cap zs w hH hsz hcap
open Go.RowKit Go.Lib Go.Sort in
/-- The same at a slice of length 0, a nil one too: it comes back as it is. (LAID: no walk: one application.) -/
theorem Tryz.slices_Compact_string_empty (a : Option Addr) (cap : Nat) (w : World) :
    Calls Tryz.prog 76 #[.slice a 0 cap] w fun e w' => e = .returned (.slice a 0 cap) ∧ w' = w := Any.slices_Compact_string_empty Tryz.lays194 a cap w
open Go.RowKit Go.Sort in
/-- .. and plain. (LAID: no walk: one application.) -/
theorem Tryz.slices_Sort_string_none (p : Option Addr) (cap : Nat) (w : World) :
    Calls Tryz.prog 75 #[.slice p 0 cap] w fun e w' => e = .returned (.tuple #[]) ∧ w' = w := Any.slices_Sort_string_none Tryz.lays190 p cap w
end Go.Proofs

namespace Go.Proofs.YtjfcllanochhmaaGreatDoor.Dec
open Go.RowKit Grp Mem _root_.Go.Proofs.YtjfcllanochhmaaGreatDoor.Code Sha Sign _root_.Go.Proofs.YtjfcllanochhmaaGreatDoor.Item _root_.Go.Proofs.YtjfcllanochhmaaGreatDoor.Known

abbrev strEn : List UInt8 → Value := encStr
def toB (s : ByteArray) : List UInt8 := s.data.toList
def ofB (l : List UInt8) : ByteArray := ⟨l.toArray⟩
theorem of_toB (s : ByteArray) : ofB (toB s) = s := rfl
def sortS (zs : List (List UInt8)) : List (List UInt8) := zs.mergeSort fun x y => decide (x ≤ y)
theorem sortS_len (zs : List (List UInt8)) : (sortS zs).length = zs.length := List.length_mergeSort zs
theorem compactS_len (zs : List (List UInt8)) : (Lib.compact zs).length ≤ zs.length := by
  unfold Lib.compact Lib.compactUpTo
  rw [List.length_map]
  refine Nat.le_trans (List.length_filter_le _ _) ?_
  rw [List.length_range]
  exact Nat.le_refl _
/-- The actors of the decisions of a kind, ascending, each once. -/
def actorsK (kind : Int) (fs : List DecR) : List ByteArray := (Lib.compact (sortS (((fs.filter fun d => decide (d.kind = kind)).map (·.actor)).map toB))).map ofB
theorem actorsK_bare (kind : Int) (fs : List DecR) : actorsK kind (fs.map bare) = actorsK kind fs := by
  unfold actorsK
  simp only [List.filter_map, List.map_map]
  rfl
def sourceK (fs : List DecR) : ByteArray := ((fs.filter fun d => decide (d.kind = 9)).map (·.text)).getLast?.getD emptyT

/-! ### Sort and Compact -/
theorem put_holdsS {w : World} {g n : Nat} {d d' : Array (List UInt8)} (h : Go.Sort.Holds strEn w g 0 d) (hs : d'.size = d.size) : Go.Sort.Holds strEn (Go.Sort.putRow strEn (Go.Sort.ahead w n) g 0 d') g 0 d' :=
  Go.Sort.holds_putRow strEn (Go.Sort.ahead w n) g 0 d d' h hs
theorem holds_cutS {w : World} {g : Nat} {l m : List (List UInt8)} (h : Go.Sort.Holds strEn w g 0 (l ++ m).toArray) : Go.Sort.Holds strEn w g 0 l.toArray := fun j hj => by
  have hj' : j < l.length := by simpa using hj
  have := h j (by simp; omega)
  rw [getElem!_pos (l ++ m).toArray j (by simp; omega)] at this
  rw [getElem!_pos l.toArray j hj]
  simp only [List.getElem_toArray, List.getElem_append_left hj'] at this ⊢
  exact this
theorem sortS_any (g cap n : Nat) (zs : List (List UInt8)) (w : World) (hnz : n = zs.length) (hH : Go.Sort.Holds strEn w g 0 zs.toArray) (hg : g < w.heap.size) (hn : zs.length ≤ 1000) :
    Calls Tryz.prog 75 #[.slice (some ⟨g, 0, none⟩) n cap] w fun e w' => e = .returned (.tuple #[]) ∧ Go.Sort.Holds strEn w' g 0 (sortS zs).toArray ∧ w.grownBy w' (some g) := by
  subst hnz
  refine (Tryz.slices_Sort_string g 0 cap zs w hH hg (by omega)).mono ?_
  rintro e w' ⟨rfl, n, os, rfl⟩
  refine ⟨rfl, ?_, grownBy_sorted _⟩
  refine Go.Sort.holds_grow strEn _ os g 0 _ ?_ (put_holdsS hH ?_)
  · rw [Go.Sort.size_putRow]
    exact hg
  · simp
theorem compactS_any (g cap n : Nat) (zs : List (List UInt8)) (w : World) (hnz : n = zs.length) (hH : Go.Sort.Holds strEn w g 0 zs.toArray) (hn : zs.length ≤ 1000) (hc : zs.length ≤ cap) :
    Calls Tryz.prog 76 #[.slice (some ⟨g, 0, none⟩) n cap] w fun e w' => e = .returned (.slice (some ⟨g, 0, none⟩) (Lib.compact zs).length cap) ∧ Go.Sort.Holds strEn w' g 0 (Lib.compact zs).toArray ∧ w.grownBy w' (some g) := by
  subst hnz
  refine (Tryz.slices_Compact_string g 0 cap zs w hH (by omega) hc).mono ?_
  rintro e w' ⟨rfl, q, rfl⟩
  have hl := compactS_len zs
  refine ⟨rfl, holds_cutS (m := List.replicate (zs.length - (Lib.compact zs).length) []) (put_holdsS hH (by simp; omega)), ?_⟩
  have := grownBy_sorted (w := w) (g := g) (n := q) (os := #[]) (Lib.compact zs ++ List.replicate (zs.length - (Lib.compact zs).length) []).toArray
  rwa [Go.Sort.grow_empty] at this
theorem holds_strs {w : World} {g : Nat} {zs : List (List UInt8)} (h : Go.Sort.Holds strEn w g 0 zs.toArray) (hg : g < w.heap.size) : Strs w (some ⟨g, 0, none⟩) (zs.map ofB) := fun h0 => ⟨g, 0, rfl, hg, fun j hj => by
  have hj' : j < zs.length := by simpa using hj
  have := (h j (by simpa using hj')).1
  rw [getElem!_pos zs.toArray j (by simpa using hj')] at this
  simpa [ofB] using this⟩
theorem flat_strs (l : List ByteArray) : l.flatMap strC = l.map Value.string := by
  induction l with
  | nil => rfl
  | cons a l ih => rw [List.flatMap_cons, ih]; rfl
theorem owns_holdsS {w : World} {base g cap n : Nat} {l : List ByteArray} (h : Owns w base 9 1 (.slice (some ⟨g, 0, none⟩) n cap) n (l.flatMap strC)) (hn : n = l.length) : Go.Sort.Holds strEn w g 0 (l.map toB).toArray := fun j hj => by
  have hj' : j < l.length := by simpa using hj
  obtain ⟨g', e, _, _, h1, h2⟩ := h.cellAt j (.string l[j]) (by rw [flat_strs, List.getElem?_map, List.getElem?_eq_getElem hj']; rfl)
  injection e with e
  injection e with e
  subst e
  rw [getElem!_pos (l.map toB).toArray j hj, Nat.zero_add]
  exact ⟨by simpa [toB] using h1, h2⟩

/-! ### pick -/
def StrsOwn (ss : List ByteArray) (w : World) (e : Ending) (w' : World) : Prop := ∃ (A : Option Addr) (c : Nat), e = .returned (.slice A ss.length c) ∧ ss.length ≤ c ∧ c ≤ maxLen ∧ Owns w' w.heap.size 9 1 (.slice A ss.length c) ss.length (ss.flatMap strC) ∧ Q w w'
def StrsAre35 (ss : List ByteArray) (w : World) (e : Ending) (w' : World) : Prop := ∃ (A : Option Addr) (c : Nat), e = .returned (.slice A ss.length c) ∧ ss.length ≤ c ∧ c ≤ maxLen ∧ Strs w' A ss ∧ Q w w'
set_option maxRecDepth 100000 in
set_option maxHeartbeats 4000000 in
theorem pickS_any (fn : FuncId) (proj : DecR → ByteArray) (hE : ∀ args w, (callFunc fn args).run Tryz.prog w = .ok (.enter fn args) w) (hP : ∀ d w, Calls Tryz.prog fn #[.agg (decA d)] w fun e w' => e = .returned (.string (proj d)) ∧ Q w w')
    (A : Option Addr) (c : Nat) (l : List DecR) (kind : Int) (w : World) (hR : RowsAt w A 12 DecR.cells l) (hn : l.length ≤ 100) :
    Calls Tryz.prog 48 #[.slice A l.length c, .int .i64 kind, .func (.func fn) #[] #[]] w (StrsOwn ((l.filter fun d => decide (d.kind = kind)).map proj) w) := by
  obtain ⟨i0, hi, hz0, hz1, hz2⟩ := info_parts str_info
  obtain ⟨x, hx⟩ := Wd.first w
  refine (show Calls Tryz.prog 48 #[.slice A l.length c, .int .i64 kind, .func (.func fn) #[] #[]] x.w _ → _ from fun h => by rwa [← hx] at h) ?_
  clear hx
  generalize hnl : l.length = nl at *
  go_enter Tryz.func48, Tryz.ntmps48
  go_wp2_with fail
  go_loopw [7, 12] (fun a i wr => ∃ (j : Nat) (B : Option Addr) (cb : Nat) (ss : List ByteArray) (z : Wd w), a = .slice B ss.length cb ∧ i = .int .i64 j ∧ wr = z.w ∧ j ≤ nl ∧ ss.length ≤ j ∧ ss.length ≤ cb ∧ cb ≤ maxLen ∧ Hid (ss = ((l.take j).filter fun d => decide (d.kind = kind)).map proj) ∧ Owns z.w w.heap.size 9 1 (.slice B ss.length cb) ss.length (ss.flatMap strC)) (fun _ i _ => nl - (intOf i).toNat)
  case atStart => exact ⟨0, none, 0, [], x, rfl, rfl, rfl, Nat.zero_le _, Nat.zero_le _, Nat.zero_le _, Nat.zero_le _, Lib.hid rfl, Owns.nil_ _ _ _ _⟩
  case round =>
    obtain ⟨j, B, cb, ss, z, rfl, rfl, rfl, hj, hsj, hsc, hcm, hss, hown⟩ := hrel
    by_cases hlt : j < nl
    · have hltL : j < l.length := by omega
      have hltI : (j : Int) < (nl : Int) := by omega
      obtain ⟨b, o, eA, hb0, hcs⟩ := hR (by omega)
      have hld := Wd.load (P := Tryz.prog) (ty := 45) hb0 (hcs j hltL) Tryz.underlying45 rfl (by kernel_rfl) z
      have hFS := filter_step (fun d : DecR => decide (d.kind = kind)) l j hltL
      have hzs := z.q.size
      subst eA
      clear hcs
      generalize l[j] = d at *
      go_wp2_with (first | (refine wpList_index_rows 22 45 (.tmp 10) (.tmp 12) b o nl c j 12 rfl rfl rfl rfl Tryz.underlying22 (by kernel_rfl) Tryz.sizeOf45 hlt ?_) | (refine wpList_load_run 45 (.tmp 14) (.pointer (some ⟨b, o + j * 12, none⟩)) (.agg (decA d)) ?_ ?_ ?_ ?_ ?_; rfl; rfl; rfl; exact hld) | (refine wpList_store_blk (Blk.new z.w 45 dec0.cells.toArray) rfl 45 (.tmp 9) (.tmp 15) d.cells rfl rfl rfl (by kernel_rfl) (dec_all _) (Nat.le_refl 12) ?_))
      intro W hW hbel
      rw [splice_all _ _ (by rfl)] at hW
      have hqW : Q z.w W := hbel _ _ (Nat.le_refl _) (q_new _ _ _)
      have hqw : Q w W := Q.trans z.q hqW
      have cK : W.cell? ⟨z.w.heap.size, 2, none⟩ = some (.int .i64 d.kind) := hW.cell 2
      have hLd := Wd.load (P := Tryz.prog) (ty := 45) hW.lt (Blk.range hW) Tryz.underlying45 rfl (by kernel_rfl) ⟨W, Q.refl W⟩
      have hownW := hown.q hqW
      have hPr := fun w => hP d w
      clear hbel hW hld
      by_cases hk : d.kind = kind
      · rw [if_pos (by simpa using hk)] at hFS
        have hk2 : (d.kind == kind) = true := by simpa using hk
        have HSN : Hid (ss ++ [proj d] = ((l.take (j + 1)).filter fun d => decide (d.kind = kind)).map proj) := Lib.hid (by rw [hFS, List.map_append, hss.out]; rfl)
        go_wp2_with (refine wpList_load_run 45 (.tmp 9) (.pointer (some ⟨z.w.heap.size, 0, none⟩)) (.agg (decA d)) ?_ ?_ ?_ ?_ ?_; rfl; rfl; rfl; exact hLd)
        refine (hPr _).mono ?_
        rintro e w5 ⟨rfl, q5⟩
        have hown5 := hownW.q q5
        have hqw5 := Q.trans hqw q5
        have hs5 := hqw5.size
        go_wp2_with (at_builtin; refine wpList_append_rows str_len str_one rfl (.tmp 20) (.tmp 24) 32 9 i0 _ 16 rfl Tryz.underlying32 hi hz0 hz1 hz2 rfl (by decide) (by decide) w.heap.size (.slice B ss.length cb) ss.length _ rfl (hown5.alloc (.cells #[.string (proj d)] 9)) (some ⟨w5.heap.size, 0, none⟩) 1 1 [proj d] rfl (RowsAt.one w5 9 (proj d) _ rfl) rfl (by omega) (by simp; omega) ?_)
        intro A9 c9 w9 hc9 hm9 hown9 hg9
        have hq9 : Q w w9 := q_grown (Q.trans hqw5 (q_new _ _ _)) (Nat.le_refl _) (hown5.alloc _) hg9
        have hlen : (ss ++ [proj d]).length = ss.length + 1 := by simp
        have eF : ss.flatMap strC ++ strC (proj d) = (ss ++ [proj d]).flatMap strC := by simp
        rw [eF, ← hlen] at hown9
        have HO9 := Lib.hid hown9
        clear hown9 hg9 hown5 hownW hown hPr
        go_wp2_with fail
        exact ⟨⟨j + 1, A9, c9, ss ++ [proj d], ⟨w9, hq9⟩, by rw [hlen], by go_num, rfl, by omega, by rw [hlen]; omega, by rw [hlen]; omega, hm9, HSN, HO9.out⟩, by simp only [intOf]; omega⟩
      · rw [if_neg (by simpa using hk), List.append_nil] at hFS
        have hk2 : (d.kind == kind) = false := by simpa using hk
        have HSN : Hid (ss = ((l.take (j + 1)).filter fun d => decide (d.kind = kind)).map proj) := Lib.hid (by rw [hFS, hss.out])
        have HO := Lib.hid hownW
        clear hownW hown hPr
        go_wp2_with fail
        exact ⟨⟨j + 1, B, cb, ss, ⟨W, hqw⟩, rfl, by go_num, rfl, by omega, by omega, hsc, hcm, HSN, HO.out⟩, by simp only [intOf]; omega⟩
    · obtain rfl : j = nl := by omega
      have hnl2 : ¬ ((j : Int) < (j : Int)) := by omega
      have hse : ss = (l.filter fun d => decide (d.kind = kind)).map proj := by rw [hss.out, ← hnl, List.take_length]
      have HF : Hid (StrsOwn ((l.filter fun d => decide (d.kind = kind)).map proj) w (.returned (.slice B ss.length cb)) z.w) := Lib.hid (hse ▸ ⟨B, cb, rfl, hsc, hcm, hown, z.q⟩)
      clear hown hss hse
      go_wp2_with fail
      go_ret
      exact HF.out
theorem actorF_any (d : DecR) (w : World) : Calls Tryz.prog 74 #[.agg (decA d)] w fun e w' => e = .returned (.string d.actor) ∧ Q w w' := by
  obtain ⟨w1, x, hx, hq1, hbk⟩ := boxedB w 45 d.cells
  have hx : w.alloc (.cells (decA d) 45) = x.w := hx
  have c3 : ∀ y : Wd w1, y.w.cell? ⟨w.heap.size, 3, none⟩ = some (.string d.actor) := fun y => (y.blk hbk).cell 3
  clear hbk
  go_enter Tryz.func74, Tryz.ntmps74
  go_wp2_with fail
  go_ret
  exact ⟨rfl, Q.trans hq1 x.q⟩
theorem textF_any (d : DecR) (w : World) : Calls Tryz.prog 49 #[.agg (decA d)] w fun e w' => e = .returned (.string d.text) ∧ Q w w' := by
  obtain ⟨w1, x, hx, hq1, hbk⟩ := boxedB w 45 d.cells
  have hx : w.alloc (.cells (decA d) 45) = x.w := hx
  have c3 : ∀ y : Wd w1, y.w.cell? ⟨w.heap.size, 5, none⟩ = some (.string d.text) := fun y => (y.blk hbk).cell 5
  clear hbk
  go_enter Tryz.func49, Tryz.ntmps49
  go_wp2_with fail
  go_ret
  exact ⟨rfl, Q.trans hq1 x.q⟩
theorem actorF_enter : ∀ args w, (callFunc 74 args).run Tryz.prog w = .ok (.enter 74 args) w := fun args w => enter_run (fn := Tryz.f74) Tryz.func74 (by kernel_rfl) rfl args w
theorem textF_enter : ∀ args w, (callFunc 49 args).run Tryz.prog w = .ok (.enter 49 args) w := fun args w => enter_run (fn := Tryz.f49) Tryz.func49 (by kernel_rfl) rfl args w
end Go.Proofs.YtjfcllanochhmaaGreatDoor.Dec

namespace Go.Proofs.YtjfcllanochhmaaGreatDoor.Dec
open Go.RowKit Grp Mem _root_.Go.Proofs.YtjfcllanochhmaaGreatDoor.Code Sha Sign _root_.Go.Proofs.YtjfcllanochhmaaGreatDoor.Item _root_.Go.Proofs.YtjfcllanochhmaaGreatDoor.Known

theorem owns_zero35 {w : World} {base n : Nat} {e : TypeId} {sz : Nat} {A : Option Addr} {c : Nat} {xs : List Value} (h : Owns w base e sz (.slice A n c) n xs) (hn : 0 < n) : ∃ g, A = some ⟨g, 0, none⟩ ∧ base ≤ g ∧ g < w.heap.size := by
  rcases h.2 with ⟨_, h0⟩ | ⟨g, cap, cur, fz, hv, hb, hg, _⟩
  · omega
  · injection hv with h1 _ _
    exact ⟨g, h1, hb, (Array.getElem?_eq_some_iff.1 hg).1⟩
theorem actorsK_map (kind : Int) (fs : List DecR) : actorsK kind fs = (Lib.compact (sortS (((fs.filter fun d => decide (d.kind = kind)).map (·.actor)).map toB))).map ofB := rfl
set_option maxRecDepth 100000 in
set_option maxHeartbeats 1000000 in
theorem actors_any (k : KR) (server now kind : Int) (w : World) (hT : Tab w) (hK : KIn w k) (hn : k.l.length ≤ 20) : Calls Tryz.prog 44 #[.agg (knA k), .int .i64 server, .int .i64 now, .int .i64 kind] w (StrsAre35 (actorsK kind (forceK now (validK k.sv (listDe server k.l)))) w) := by
  obtain ⟨w1, x, hx, hq1, hbk⟩ := boxedB w 28 k.cells
  have hx : w.alloc (.cells (knA k) 28) = x.w := hx
  have hLk : ∀ y : Wd w1, (Instr.loadAt 28 (.pointer (some ⟨w.heap.size, 0, none⟩))).run Tryz.prog y.w = .ok (.agg (knA k)) y.w := Wd.load hbk.lt (Blk.range hbk) Tryz.underlying28 rfl (by kernel_rfl)
  have hIf := fun y : Wd w1 => inforce35_any k server now y.w (hT.q (Q.trans hq1 y.q)) (hK.q (Q.trans hq1 y.q)) hn
  have hvle := valid_le k.sv (listDe server k.l) (listDe server k.l).length
  rw [List.take_length] at hvle
  have hln := listDe_le server k.l
  have hfle : (forceK now (validK k.sv (listDe server k.l))).length ≤ 20 := by
    unfold forceK curL
    refine Nat.le_trans (List.length_filter_le _ _) (Nat.le_trans (List.length_filter_le _ _) ?_)
    omega
  have HQ := Lib.hid hq1
  have hlt1 := hbk.lt
  unfold ForceAre at hIf
  clear hbk hq1 hK hvle hln
  generalize forceK now (validK k.sv (listDe server k.l)) = FK at *
  go_enter Tryz.func44, Tryz.ntmps44
  go_upto_region 2 with (first | (refine wpList_load_run 28 (.tmp 4) (.pointer (some ⟨w.heap.size, 0, none⟩)) (.agg (knA k)) ?_ ?_ ?_ ?_ ?_; rfl; rfl; rfl; exact hLk _) | (go_at_call 13; refine (hIf _).mono ?_; rintro e w' ⟨AF, cF, fs, rfl, -, -, hfE, hRF, -, hq2⟩; have hfl : fs.length ≤ 100 := (by have h1 := congrArg List.length hfE; rw [List.length_map] at h1; omega); have hPk := pickS_any 74 (·.actor) actorF_enter actorF_any AF cF fs kind w' hRF hfl; obtain ⟨ss, hss⟩ : ∃ ss, ss = ((fs.filter fun d => decide (d.kind = kind)).map (·.actor)) := ⟨_, rfl⟩; rw [← hss] at hPk; replace hss := Lib.hid hss; obtain ⟨y, rfl⟩ := Wd.next _ hq2; clear hq2 hRF) | (go_at_call 48; refine hPk.mono ?_; rintro e w' ⟨A, c, rfl, hlc, hcm, hown, hq3⟩; obtain ⟨y2, rfl⟩ := Wd.next _ hq3; clear hq3))
  have hys := y.q.size
  have hAK : actorsK kind FK = (Lib.compact (sortS (ss.map toB))).map ofB := by rw [← hfE, actorsK_bare, actorsK_map, hss.out]
  have hsl : ss.length ≤ 100 := by
    rw [hss.out, List.length_map]
    exact Nat.le_trans (List.length_filter_le _ _) hfl
  clear hPk hfE hIf hLk hss
  have hq2w : Q w y2.w := Q.trans HQ.out y2.q
  rcases Nat.eq_zero_or_pos ss.length with h0 | h0
  · have hs0 : ss = [] := List.length_eq_zero_iff.1 h0
    subst hs0
    have hA0 : actorsK kind FK = [] := by rw [hAK]; exact congrArg (List.map ofB) (show Lib.compact (sortS (List.map toB [])) = [] from List.eq_nil_of_length_eq_zero (Nat.le_zero.1 (Nat.le_trans (compactS_len _) (by rw [sortS_len]; exact Nat.le_refl _))))
    have hso := fun w => Tryz.slices_Sort_string_none A c w
    have hco := fun w => Tryz.slices_Compact_string_empty A c w
    have HF : Hid (StrsAre35 (actorsK kind FK) w (.returned (.slice A 0 c)) y2.w) := Lib.hid (by rw [hA0]; exact ⟨A, c, rfl, hlc, hcm, fun h => by simp at h, hq2w⟩)
    clear hown hAK hA0 hq2w
    go_wp2_with (first | (go_at_call 75; refine (hso _).mono ?_; rintro e w' ⟨rfl, rfl⟩) | (go_at_call 76; refine (hco _).mono ?_; rintro e w' ⟨rfl, rfl⟩))
    go_ret
    exact HF.out
  · obtain ⟨g, rfl, hb, hg⟩ := owns_zero35 hown h0
    have hHo := owns_holdsS hown rfl
    have hS := sortS_any g c ss.length (ss.map toB) y2.w (by simp) hHo hg (by simp; omega)
    have hC := fun (w5 : World) (hH : Go.Sort.Holds strEn w5 g 0 (sortS (ss.map toB)).toArray) => compactS_any g c ss.length (sortS (ss.map toB)) w5 (by rw [sortS_len, List.length_map]) hH (by rw [sortS_len, List.length_map]; omega) (by rw [sortS_len, List.length_map]; exact hlc)
    have hcl : (Lib.compact (sortS (ss.map toB))).length ≤ ss.length := by
      have h1 := compactS_len (sortS (ss.map toB))
      rwa [sortS_len, List.length_map] at h1
    have hFin : ∀ w6, Go.Sort.Holds strEn w6 g 0 (Lib.compact (sortS (ss.map toB))).toArray → g < w6.heap.size → Q w w6 → Hid (StrsAre35 (actorsK kind FK) w (.returned (.slice (some ⟨g, 0, none⟩) (Lib.compact (sortS (ss.map toB))).length c)) w6) := fun w6 hH h6 hq => Lib.hid (by
      rw [hAK]
      exact ⟨some ⟨g, 0, none⟩, c, by rw [List.length_map], by rw [List.length_map]; omega, hcm, holds_strs hH h6, hq⟩)
    have hgw : w.heap.size ≤ g := by have := HQ.out.size; omega
    generalize sortS (ss.map toB) = zs at *
    generalize Lib.compact zs = cs at *
    clear hown hAK hHo hlc
    go_wp2_with (first | (go_at_call 75; refine hS.mono ?_; rintro e w5 ⟨rfl, hH5, hg5⟩; have hq5 : Q w w5 := Below.grown hq2w hg5 hq2w.size (fun kk hk => by cases hk; exact hgw)) | (go_at_call 76; refine (hC w5 hH5).mono ?_; rintro e w6 ⟨rfl, hH6, hg6⟩; have hq6 : Q w w6 := Below.grown hq5 hg6 hq5.size (fun kk hk => by cases hk; exact hgw)))
    go_ret
    exact (hFin w6 hH6 (Nat.lt_of_lt_of_le hg (Nat.le_trans hg5.size hg6.size)) hq6).out
set_option maxRecDepth 100000 in
set_option maxHeartbeats 2000000 in
theorem trusted_any (k : KR) (server now : Int) (w : World) (hT : Tab w) (hK : KIn w k) (hn : k.l.length ≤ 20) : Calls Tryz.prog 16 #[.agg (knA k), .int .i64 server, .int .i64 now] w (StrsAre35 (actorsK 6 (forceK now (validK k.sv (listDe server k.l)))) w) := by
  obtain ⟨w1, x, hx, hq1, hbk⟩ := boxedB w 28 k.cells
  have hx : w.alloc (.cells (knA k) 28) = x.w := hx
  have hLk : ∀ y : Wd w1, (Instr.loadAt 28 (.pointer (some ⟨w.heap.size, 0, none⟩))).run Tryz.prog y.w = .ok (.agg (knA k)) y.w := Wd.load hbk.lt (Blk.range hbk) Tryz.underlying28 rfl (by kernel_rfl)
  have hAc := fun y : Wd w1 => actors_any k server now 6 y.w (hT.q (Q.trans hq1 y.q)) (hK.q (Q.trans hq1 y.q)) hn
  have HQ := Lib.hid hq1
  clear hbk hq1 hK
  generalize actorsK 6 (forceK now (validK k.sv (listDe server k.l))) = L at *
  go_enter Tryz.func16, Tryz.ntmps16
  go_wp2_with (first | (refine wpList_load_run 28 (.tmp 3) (.pointer (some ⟨w.heap.size, 0, none⟩)) (.agg (knA k)) ?_ ?_ ?_ ?_ ?_; rfl; rfl; rfl; exact hLk _) | (go_at_call 44; refine (hAc _).mono ?_; rintro e w' ⟨A, c, rfl, hlc, hcm, hS, hq2⟩; obtain ⟨y, rfl⟩ := Wd.next _ hq2; clear hq2))
  go_ret
  exact ⟨A, c, rfl, hlc, hcm, hS, Q.trans HQ.out y.q⟩
set_option maxRecDepth 100000 in
set_option maxHeartbeats 1000000 in
theorem source_any (k : KR) (server now : Int) (w : World) (hT : Tab w) (hK : KIn w k) (hn : k.l.length ≤ 20) : Calls Tryz.prog 19 #[.agg (knA k), .int .i64 server, .int .i64 now] w fun e w' => e = .returned (.string (sourceK (forceK now (validK k.sv (listDe server k.l))))) ∧ Q w w' := by
  obtain ⟨w1, x, hx, hq1, hbk⟩ := boxedB w 28 k.cells
  have hx : w.alloc (.cells (knA k) 28) = x.w := hx
  have hLk : ∀ y : Wd w1, (Instr.loadAt 28 (.pointer (some ⟨w.heap.size, 0, none⟩))).run Tryz.prog y.w = .ok (.agg (knA k)) y.w := Wd.load hbk.lt (Blk.range hbk) Tryz.underlying28 rfl (by kernel_rfl)
  have hIf := fun y : Wd w1 => inforce35_any k server now y.w (hT.q (Q.trans hq1 y.q)) (hK.q (Q.trans hq1 y.q)) hn
  have hvle := valid_le k.sv (listDe server k.l) (listDe server k.l).length
  rw [List.take_length] at hvle
  have hln := listDe_le server k.l
  have hfle : (forceK now (validK k.sv (listDe server k.l))).length ≤ 20 := by
    unfold forceK curL
    refine Nat.le_trans (List.length_filter_le _ _) (Nat.le_trans (List.length_filter_le _ _) ?_)
    omega
  have HQ := Lib.hid hq1
  have hlt1 := hbk.lt
  unfold ForceAre at hIf
  clear hbk hq1 hK hvle hln
  generalize forceK now (validK k.sv (listDe server k.l)) = FK at *
  go_enter Tryz.func19, Tryz.ntmps19
  go_upto_region 2 with (first | (refine wpList_load_run 28 (.tmp 3) (.pointer (some ⟨w.heap.size, 0, none⟩)) (.agg (knA k)) ?_ ?_ ?_ ?_ ?_; rfl; rfl; rfl; exact hLk _) | (go_at_call 13; refine (hIf _).mono ?_; rintro e w' ⟨AF, cF, fs, rfl, -, -, hfE, hRF, -, hq2⟩; have hfl : fs.length ≤ 100 := (by have h1 := congrArg List.length hfE; rw [List.length_map] at h1; omega); have hPk := pickS_any 49 (·.text) textF_enter textF_any AF cF fs 9 w' hRF hfl; obtain ⟨ss, hss⟩ : ∃ ss, ss = ((fs.filter fun d => decide (d.kind = 9)).map (·.text)) := ⟨_, rfl⟩; rw [← hss] at hPk; replace hss := Lib.hid hss; obtain ⟨y, rfl⟩ := Wd.next _ hq2; clear hq2 hRF) | (go_at_call 48; refine hPk.mono ?_; rintro e w' ⟨A, c, rfl, hlc, hcm, hown, hq3⟩; obtain ⟨y2, rfl⟩ := Wd.next _ hq3; clear hq3))
  have hys := y.q.size
  have hAK : sourceK FK = ss.getLast?.getD emptyT := by
    rw [hss.out, ← hfE]
    unfold sourceK
    rw [List.filter_map, List.map_map]
    rfl
  have hsl : ss.length ≤ 100 := by
    rw [hss.out, List.length_map]
    exact Nat.le_trans (List.length_filter_le _ _) hfl
  clear hPk hfE hIf hLk hss
  have hq2w : Q w y2.w := Q.trans HQ.out y2.q
  have hSt := strs_of (Owns.rows str_len hown rfl)
  clear hown
  rcases Nat.eq_zero_or_pos ss.length with h0 | h0
  · have hs0 : ss = [] := List.length_eq_zero_iff.1 h0
    subst hs0
    have HA : Hid (sourceK FK = emptyT) := Lib.hid (show sourceK FK = emptyT from hAK)
    clear hAK hSt
    go_wp2_with fail
    go_ret
    exact ⟨by rw [HA.out]; rfl, hq2w⟩
  · obtain ⟨b, o, rfl, hb, hc⟩ := hSt h0
    have HA : Hid (sourceK FK = ss[ss.length - 1]) := Lib.hid (by rw [hAK, List.getLast?_eq_getElem?, List.getElem?_eq_getElem (by omega)]; rfl)
    have hc1 := hc (ss.length - 1) (by omega)
    clear hAK hSt hc
    generalize ss[ss.length - 1] = last at *
    generalize hm : ss.length - 1 = m at *
    generalize hnn : ss.length = nn at *
    obtain rfl : nn = m + 1 := by omega
    have hne : ((m + 1 : Nat) : Int) ≠ 0 := by omega
    have hne2 : (((m + 1 : Nat) : Int) == 0) = false := by simpa using hne
    have hsub : ((m + 1 : Nat) : Int) - 1 = (m : Int) := by omega
    go_wp2_with fail
    go_ret
    exact ⟨by rw [HA.out]; rfl, hq2w⟩
end Go.Proofs.YtjfcllanochhmaaGreatDoor.Dec

namespace Go.Proofs.YtjfcllanochhmaaGreatDoor.Dec
open Go.RowKit Grp Mem _root_.Go.Proofs.YtjfcllanochhmaaGreatDoor.Code Sha Sign _root_.Go.Proofs.YtjfcllanochhmaaGreatDoor.Item _root_.Go.Proofs.YtjfcllanochhmaaGreatDoor.Known

/-- The last decision of a kind among those in force, or the zero decision. -/
def panelD (fs : List DecR) : DecR := (fs.filter fun d => decide (d.kind = 8)).getLast?.getD dec0
theorem panelD_bare (fs : List DecR) : bare (panelD (fs.map bare)) = bare (panelD fs) := by
  unfold panelD
  rw [List.filter_map, List.getLast?_map]
  show bare ((Option.map bare (fs.filter fun d => decide (d.kind = 8)).getLast?).getD dec0) = _
  cases (fs.filter fun d => decide (d.kind = 8)).getLast? <;> rfl
set_option maxRecDepth 100000 in
set_option maxHeartbeats 2000000 in
theorem keepers_any (k : KR) (server now : Int) (w : World) (hT : Tab w) (hK : KIn w k) (hn : k.l.length ≤ 20) : Calls Tryz.prog 40 #[.agg (knA k), .int .i64 server, .int .i64 now] w (StrsAre35 (actorsK 7 (forceK now (validK k.sv (listDe server k.l)))) w) := by
  obtain ⟨w1, x, hx, hq1, hbk⟩ := boxedB w 28 k.cells
  have hx : w.alloc (.cells (knA k) 28) = x.w := hx
  have hLk : ∀ y : Wd w1, (Instr.loadAt 28 (.pointer (some ⟨w.heap.size, 0, none⟩))).run Tryz.prog y.w = .ok (.agg (knA k)) y.w := Wd.load hbk.lt (Blk.range hbk) Tryz.underlying28 rfl (by kernel_rfl)
  have hAc := fun y : Wd w1 => actors_any k server now 7 y.w (hT.q (Q.trans hq1 y.q)) (hK.q (Q.trans hq1 y.q)) hn
  have HQ := Lib.hid hq1
  clear hbk hq1 hK
  generalize actorsK 7 (forceK now (validK k.sv (listDe server k.l))) = L at *
  go_enter Tryz.func40, Tryz.ntmps40
  go_wp2_with (first | (refine wpList_load_run 28 (.tmp 3) (.pointer (some ⟨w.heap.size, 0, none⟩)) (.agg (knA k)) ?_ ?_ ?_ ?_ ?_; rfl; rfl; rfl; exact hLk _) | (go_at_call 44; refine (hAc _).mono ?_; rintro e w' ⟨A, c, rfl, hlc, hcm, hS, hq2⟩; obtain ⟨y, rfl⟩ := Wd.next _ hq2; clear hq2))
  go_ret
  exact ⟨A, c, rfl, hlc, hcm, hS, Q.trans HQ.out y.q⟩
/-! ### pick[Decision] -/
set_option maxRecDepth 100000 in
theorem panelF_any (d : DecR) (w : World) : Calls Tryz.prog 71 #[.agg (decA d)] w fun e w' => e = .returned (.agg (decA d)) ∧ Q w w' := by
  have hb1 := Blk.new w 45 (decA d)
  have hq1 := q_new w (decA d) 45
  have hbr := Blk.new' (g := w.heap.size + 1) (w.alloc (.cells (decA d) 45)) 45 (decA dec0) (by simp)
  have hq2 := q_new (w.alloc (.cells (decA d) 45)) (decA dec0) 45
  have hb1 := hb1.q hq2
  have hq := Q.trans hq1 hq2
  clear hq1 hq2
  obtain ⟨W0, hW0⟩ : ∃ W0, W0 = (w.alloc (.cells (decA d) 45)).alloc (.cells (decA dec0) 45) := ⟨_, rfl⟩
  rw [← hW0] at hb1 hbr hq
  have hL := Wd.load (P := Tryz.prog) (ty := 45) (cs := d.cells) hb1.lt (Blk.range hb1) Tryz.underlying45 rfl (by kernel_rfl) ⟨W0, Q.refl W0⟩
  have HX := Lib.hid hW0
  have HQ := Lib.hid hq
  clear hW0 hb1 hq
  go_enter Tryz.func71, Tryz.ntmps71
  go_upto_region 1 with (fail)
  refine (show Code.wp _ _ _ _ W0 → Code.wp _ _ _ _ _ from fun h => by rw [HX.out] at h; exact h) ?_
  go_upto_region 1 with (fail)
  refine wp_region_lit ?_
  refine wpList_load_run 45 (.tmp 1) (.pointer (some ⟨w.heap.size, 0, none⟩)) (.agg (decA d)) rfl rfl rfl hL ?_
  dsimp only [Act.put]
  simp only [List.setIfInBounds_toArray, List.set_cons_succ, List.set_cons_zero]
  refine wpList_store_far (cs := dec0.cells) hbr rfl 45 (.tmp 2) (.tmp 3) d.cells rfl rfl rfl (by kernel_rfl) (dec_all _) (Nat.le_refl 12) ?_
  intro W3 hW3 hbel3 hfar3
  rw [splice_all _ _ (by rfl)] at hW3
  have HF : Hid (Q w W3) := Lib.hid (hbel3 _ _ (Nat.le_succ _) HQ.out)
  clear hbel3 hfar3 hL
  go_wp2_with fail
  exact bodyPost_ret (results_cell_row rfl _ _ (w.heap.size + 1) 45 (decA d) (0, 0) _ rfl hW3 Tryz.underlying45 rfl (by kernel_rfl)) rfl ⟨rfl, HF.out⟩
theorem panelF_enter : ∀ args w, (callFunc 71 args).run Tryz.prog w = .ok (.enter 71 args) w := fun args w => enter_run (fn := Tryz.f71) Tryz.func71 (by kernel_rfl) rfl args w
def DecsOwn (ds : List DecR) (w : World) (e : Ending) (w' : World) : Prop := ∃ (A : Option Addr) (c : Nat), e = .returned (.slice A ds.length c) ∧ ds.length ≤ c ∧ c ≤ maxLen ∧ Owns w' w.heap.size 45 12 (.slice A ds.length c) ds.length (ds.flatMap DecR.cells) ∧ Q w w'
set_option maxRecDepth 100000 in
set_option maxHeartbeats 4000000 in
theorem pickD_any (fn : FuncId) (hE : ∀ args w, (callFunc fn args).run Tryz.prog w = .ok (.enter fn args) w) (hP : ∀ d w, Calls Tryz.prog fn #[.agg (decA d)] w fun e w' => e = .returned (.agg (decA d)) ∧ Q w w')
    (A : Option Addr) (c : Nat) (l : List DecR) (kind : Int) (w : World) (hR : RowsAt w A 12 DecR.cells l) (hn : l.length ≤ 100) :
    Calls Tryz.prog 70 #[.slice A l.length c, .int .i64 kind, .func (.func fn) #[] #[]] w (DecsOwn (l.filter fun d => decide (d.kind = kind)) w) := by
  obtain ⟨i0, hi, hz0, hz1, hz2⟩ := info_parts valDe_info
  obtain ⟨x, hx⟩ := Wd.first w
  refine (show Calls Tryz.prog 70 #[.slice A l.length c, .int .i64 kind, .func (.func fn) #[] #[]] x.w _ → _ from fun h => by rwa [← hx] at h) ?_
  clear hx
  generalize hnl : l.length = nl at *
  go_enter Tryz.func70, Tryz.ntmps70
  go_wp2_with fail
  go_loopw [7, 12] (fun a i wr => ∃ (j : Nat) (B : Option Addr) (cb : Nat) (ss : List DecR) (z : Wd w), a = .slice B ss.length cb ∧ i = .int .i64 j ∧ wr = z.w ∧ j ≤ nl ∧ ss.length ≤ j ∧ ss.length ≤ cb ∧ cb ≤ maxLen ∧ Hid (ss = (l.take j).filter fun d => decide (d.kind = kind)) ∧ Owns z.w w.heap.size 45 12 (.slice B ss.length cb) ss.length (ss.flatMap DecR.cells)) (fun _ i _ => nl - (intOf i).toNat)
  case atStart => exact ⟨0, none, 0, [], x, rfl, rfl, rfl, Nat.zero_le _, Nat.zero_le _, Nat.zero_le _, Nat.zero_le _, Lib.hid rfl, Owns.nil_ _ _ _ _⟩
  case round =>
    obtain ⟨j, B, cb, ss, z, rfl, rfl, rfl, hj, hsj, hsc, hcm, hss, hown⟩ := hrel
    by_cases hlt : j < nl
    · have hltL : j < l.length := by omega
      have hltI : (j : Int) < (nl : Int) := by omega
      obtain ⟨b, o, eA, hb0, hcs⟩ := hR (by omega)
      have hld := Wd.load (P := Tryz.prog) (ty := 45) hb0 (hcs j hltL) Tryz.underlying45 rfl (by kernel_rfl) z
      have hFS := filter_step (fun d : DecR => decide (d.kind = kind)) l j hltL
      have hzs := z.q.size
      subst eA
      clear hcs
      generalize l[j] = d at *
      go_wp2_with (first | (refine wpList_index_rows 22 45 (.tmp 10) (.tmp 12) b o nl c j 12 rfl rfl rfl rfl Tryz.underlying22 (by kernel_rfl) Tryz.sizeOf45 hlt ?_) | (refine wpList_load_run 45 (.tmp 14) (.pointer (some ⟨b, o + j * 12, none⟩)) (.agg (decA d)) ?_ ?_ ?_ ?_ ?_; rfl; rfl; rfl; exact hld) | (refine wpList_store_blk (Blk.new z.w 45 dec0.cells.toArray) rfl 45 (.tmp 9) (.tmp 15) d.cells rfl rfl rfl (by kernel_rfl) (dec_all _) (Nat.le_refl 12) ?_))
      intro W hW hbel
      rw [splice_all _ _ (by rfl)] at hW
      have hqW : Q z.w W := hbel _ _ (Nat.le_refl _) (q_new _ _ _)
      have hqw : Q w W := Q.trans z.q hqW
      have cK : W.cell? ⟨z.w.heap.size, 2, none⟩ = some (.int .i64 d.kind) := hW.cell 2
      have hLd := Wd.load (P := Tryz.prog) (ty := 45) hW.lt (Blk.range hW) Tryz.underlying45 rfl (by kernel_rfl) ⟨W, Q.refl W⟩
      have hownW := hown.q hqW
      have hPr := fun w => hP d w
      clear hbel hW hld
      by_cases hk : d.kind = kind
      · rw [if_pos (by simpa using hk)] at hFS
        have hk2 : (d.kind == kind) = true := by simpa using hk
        have HSN : Hid (ss ++ [d] = (l.take (j + 1)).filter fun d => decide (d.kind = kind)) := Lib.hid (by rw [hFS, hss.out])
        go_wp2_with (refine wpList_load_run 45 (.tmp 9) (.pointer (some ⟨z.w.heap.size, 0, none⟩)) (.agg (decA d)) ?_ ?_ ?_ ?_ ?_; rfl; rfl; rfl; exact hLd)
        refine (hPr _).mono ?_
        rintro e w5 ⟨rfl, q5⟩
        have hown5 := hownW.q q5
        have hqw5 := Q.trans hqw q5
        have hs5 := hqw5.size
        go_wp2_with (first | (refine wpList_buildSlice_run 22 1 _ #[(0, .agg (decA d))] _ rfl rfl (by simp only [List.map_toArray, List.map_cons, List.map_nil]; rfl) (bsDe_val d _) ?_) | (at_builtin; refine wpList_append_rows valDe_len valDe_one rfl (.tmp 20) (.tmp 24) 22 45 i0 _ 136 rfl Tryz.underlying22 hi hz0 hz1 hz2 rfl (by decide) (by decide) w.heap.size (.slice B ss.length cb) ss.length _ rfl (hown5.alloc (.cells (decA d) 45)) (some ⟨w5.heap.size, 0, none⟩) 1 1 [d] rfl (RowsAt.one w5 45 d _ rfl) rfl (by omega) (by simp; omega) ?_))
        intro A9 c9 w9 hc9 hm9 hown9 hg9
        have hq9 : Q w w9 := q_grown (Q.trans hqw5 (q_new _ _ _)) (Nat.le_refl _) (hown5.alloc _) hg9
        have hlen : (ss ++ [d]).length = ss.length + 1 := by simp
        have eF : ss.flatMap DecR.cells ++ d.cells = (ss ++ [d]).flatMap DecR.cells := by simp
        rw [eF, ← hlen] at hown9
        have HO9 := Lib.hid hown9
        clear hown9 hg9 hown5 hownW hown hPr
        go_wp2_with fail
        exact ⟨⟨j + 1, A9, c9, ss ++ [d], ⟨w9, hq9⟩, by rw [hlen], by go_num, rfl, by omega, by rw [hlen]; omega, by rw [hlen]; omega, hm9, HSN, HO9.out⟩, by simp only [intOf]; omega⟩
      · rw [if_neg (by simpa using hk), List.append_nil] at hFS
        have hk2 : (d.kind == kind) = false := by simpa using hk
        have HSN : Hid (ss = (l.take (j + 1)).filter fun d => decide (d.kind = kind)) := Lib.hid (by rw [hFS, hss.out])
        have HO := Lib.hid hownW
        clear hownW hown hPr
        go_wp2_with fail
        exact ⟨⟨j + 1, B, cb, ss, ⟨W, hqw⟩, rfl, by go_num, rfl, by omega, by omega, hsc, hcm, HSN, HO.out⟩, by simp only [intOf]; omega⟩
    · obtain rfl : j = nl := by omega
      have hnl2 : ¬ ((j : Int) < (j : Int)) := by omega
      have hse : ss = l.filter fun d => decide (d.kind = kind) := by rw [hss.out, ← hnl, List.take_length]
      have HF : Hid (DecsOwn (l.filter fun d => decide (d.kind = kind)) w (.returned (.slice B ss.length cb)) z.w) := Lib.hid (hse ▸ ⟨B, cb, rfl, hsc, hcm, hown, z.q⟩)
      clear hown hss hse
      go_wp2_with fail
      go_ret
      exact HF.out
/-! ### Panel -/
def PanelIs (ss : List ByteArray) (n : Int) (w : World) (e : Ending) (w' : World) : Prop := ∃ (A : Option Addr) (c : Nat), e = .returned (.tuple #[.slice A ss.length c, .int .i64 n]) ∧ Strs w' A ss ∧ ss.length ≤ maxLen ∧ Q w w'
set_option maxRecDepth 100000 in
set_option maxHeartbeats 4000000 in
theorem panel_any (k : KR) (server now : Int) (w : World) (hT : Tab w) (hK : KIn w k) (hn : k.l.length ≤ 20) : Calls Tryz.prog 41 #[.agg (knA k), .int .i64 server, .int .i64 now] w (PanelIs (panelD (forceK now (validK k.sv (listDe server k.l)))).to (panelD (forceK now (validK k.sv (listDe server k.l)))).n w) := by
  obtain ⟨w1, x, hx, hq1, hbk⟩ := boxedB w 28 k.cells
  have hx : w.alloc (.cells (knA k) 28) = x.w := hx
  have hLk : ∀ y : Wd w1, (Instr.loadAt 28 (.pointer (some ⟨w.heap.size, 0, none⟩))).run Tryz.prog y.w = .ok (.agg (knA k)) y.w := Wd.load hbk.lt (Blk.range hbk) Tryz.underlying28 rfl (by kernel_rfl)
  have hIf := fun y : Wd w1 => inforce35_any k server now y.w (hT.q (Q.trans hq1 y.q)) (hK.q (Q.trans hq1 y.q)) hn
  have hvle := valid_le k.sv (listDe server k.l) (listDe server k.l).length
  rw [List.take_length] at hvle
  have hln := listDe_le server k.l
  have hfle : (forceK now (validK k.sv (listDe server k.l))).length ≤ 20 := by
    unfold forceK curL
    refine Nat.le_trans (List.length_filter_le _ _) (Nat.le_trans (List.length_filter_le _ _) ?_)
    omega
  have HQ := Lib.hid hq1
  have hlt1 := hbk.lt
  unfold ForceAre at hIf
  clear hbk hq1 hK hvle hln
  generalize forceK now (validK k.sv (listDe server k.l)) = FK at *
  go_enter Tryz.func41, Tryz.ntmps41
  go_upto_region 2 with (first | (refine wpList_load_run 28 (.tmp 3) (.pointer (some ⟨w.heap.size, 0, none⟩)) (.agg (knA k)) ?_ ?_ ?_ ?_ ?_; rfl; rfl; rfl; exact hLk _) | (go_at_call 13; refine (hIf _).mono ?_; rintro e w' ⟨AF, cF, fs, rfl, -, -, hfE, hRF, hDO, hq2⟩; have hfl : fs.length ≤ 100 := (by have h1 := congrArg List.length hfE; rw [List.length_map] at h1; omega); have hPk := pickD_any 71 panelF_enter panelF_any AF cF fs 8 w' hRF hfl; obtain ⟨ss, hss⟩ : ∃ ss, ss = (fs.filter fun d => decide (d.kind = 8)) := ⟨_, rfl⟩; rw [← hss] at hPk; replace hss := Lib.hid hss; obtain ⟨y, rfl⟩ := Wd.next _ hq2; clear hq2 hRF) | (go_at_call 70; refine hPk.mono ?_; rintro e w' ⟨A, c, rfl, hlc, hcm, hown, hq3⟩; replace hDO := (fun d (hd : d ∈ fs) => (hDO d hd).q hq3); obtain ⟨y2, rfl⟩ := Wd.next _ hq3; clear hq3))
  have hys := y.q.size
  have hAK : bare (panelD FK) = bare (ss.getLast?.getD dec0) := by
    rw [hss.out, ← hfE, panelD_bare]
    rfl
  have hAt : (panelD FK).to = (ss.getLast?.getD dec0).to := show (bare (panelD FK)).to = (bare (ss.getLast?.getD dec0)).to by rw [hAK]
  have hAn : (panelD FK).n = (ss.getLast?.getD dec0).n := show (bare (panelD FK)).n = (bare (ss.getLast?.getD dec0)).n by rw [hAK]
  have HPI : ∀ e w', PanelIs (ss.getLast?.getD dec0).to (ss.getLast?.getD dec0).n w e w' → PanelIs (panelD FK).to (panelD FK).n w e w' := fun e w' h => by rw [hAt, hAn]; exact h
  replace HPI := Lib.hid HPI
  have hsl : ss.length ≤ 100 := by
    rw [hss.out]
    exact Nat.le_trans (List.length_filter_le _ _) hfl
  have hSI : ∀ d ∈ ss, DecO y2.w d := fun d hd => by
    rw [hss.out] at hd
    exact hDO d (List.mem_filter.1 hd).1
  clear hPk hfE hIf hLk hss hAK hAt hAn hDO
  have hq2w : Q w y2.w := Q.trans HQ.out y2.q
  have hSt := Owns.rows valDe_len hown rfl
  clear hown
  rcases Nat.eq_zero_or_pos ss.length with h0 | h0
  · have hs0 : ss = [] := List.length_eq_zero_iff.1 h0
    subst hs0
    clear hSt
    go_wp2_with fail
    exact bodyPost_ret (results_tmp2 rfl _ _ _) rfl (HPI.out _ _ ⟨none, 0, rfl, fun h => absurd h (by simp [dec0]), Nat.zero_le _, hq2w⟩)
  · obtain ⟨b, o, rfl, hb, hc⟩ := hSt h0
    have hgl : ss.getLast?.getD dec0 = ss[ss.length - 1] := by rw [List.getLast?_eq_getElem?, List.getElem?_eq_getElem (by omega)]; rfl
    have hc1 := hc (ss.length - 1) (by omega)
    have hd1 := hSI _ (List.getElem_mem (show ss.length - 1 < ss.length by omega))
    rw [hgl] at HPI
    clear hSt hc hSI hgl
    generalize ss[ss.length - 1] = last at *
    generalize hm : ss.length - 1 = m at *
    generalize hnn : ss.length = nn at *
    obtain rfl : nn = m + 1 := by omega
    have hne : ((m + 1 : Nat) : Int) ≠ 0 := by omega
    have hne2 : (((m + 1 : Nat) : Int) == 0) = false := by simpa using hne
    have hsub : ((m + 1 : Nat) : Int) - 1 = (m : Int) := by omega
    have hlt : m < m + 1 := Nat.lt_succ_self m
    have hld := Wd.load (P := Tryz.prog) (ty := 45) hb hc1 Tryz.underlying45 rfl (by kernel_rfl) ⟨y2.w, Q.refl _⟩
    go_wp2_with (first | (refine wpList_index_rows 22 45 (.tmp 18) (.tmp 21) b o (m + 1) c m 12 rfl rfl rfl rfl Tryz.underlying22 (by kernel_rfl) Tryz.sizeOf45 hlt ?_) | (refine wpList_load_run 45 (.tmp 22) (.pointer (some ⟨b, o + m * 12, none⟩)) (.agg (decA last)) ?_ ?_ ?_ ?_ ?_; rfl; rfl; rfl; exact hld) | (refine wpList_store_blk (Blk.new y2.w 45 dec0.cells.toArray) rfl 45 (.tmp 9) (.tmp 23) last.cells rfl rfl rfl (by kernel_rfl) (dec_all _) (Nat.le_refl 12) ?_))
    intro W hW hbel
    rw [splice_all _ _ (by rfl)] at hW
    have hqW : Q y2.w W := hbel _ _ (Nat.le_refl _) (q_new _ _ _)
    have c6 : ∀ z : Wd W, z.w.cell? ⟨y2.w.heap.size, 6, none⟩ = some (.slice last.toA last.to.length last.toC) := fun z => (z.blk hW).cell 6
    have c7 : ∀ z : Wd W, z.w.cell? ⟨y2.w.heap.size, 7, none⟩ = some (.int .i64 last.n) := fun z => (z.blk hW).cell 7
    have hto := hd1.inn.to.q hqW
    have htl := Nat.le_trans hd1.toC.1 hd1.toC.2
    have hqw : Q w W := Q.trans hq2w hqW
    clear hbel hW hld hd1
    obtain ⟨u, hu⟩ := Wd.first W
    rw [hu]
    clear hu
    go_upto_region 5 with (fail)
    refine wp_region_wd u (by kernel_rfl) (by kernel_rfl) ?_
    repeat (go_big_quiet_step (fail))
    refine wpQuiet_nil ?_
    rintro w'' ⟨y3, rfl⟩
    go_wp2_with fail
    exact bodyPost_ret (results_tmp2 rfl _ _ _) rfl (HPI.out _ _ ⟨last.toA, last.toC, rfl, hto.q y3.q, htl, Q.trans hqw y3.q⟩)
end Go.Proofs.YtjfcllanochhmaaGreatDoor.Dec
