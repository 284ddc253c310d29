/-
  Known sets as plain data: adding an item, filling, and what these are. No walk in this text.
-/
import Derived.Test.YtjfcllanochhmaaGreatDoorIdent2
set_option linter.unusedVariables false
set_option linter.unusedSimpArgs false
namespace Go.Proofs.YtjfcllanochhmaaGreatDoor.Known
open Go.RowKit Grp Mem _root_.Go.Proofs.YtjfcllanochhmaaGreatDoor.Code Sha Sign _root_.Go.Proofs.YtjfcllanochhmaaGreatDoor.Item

def digs (l : List ItemR) : List ByteArray := l.map digOf
def cutK (d : ByteArray) (l : List ByteArray) : Nat := (l.takeWhile fun o => !lessB d o).length
def insK (l : List ItemR) (x : ItemR) : List ItemR := l.take (cutK (digOf x) (digs l)) ++ x :: l.drop (cutK (digOf x) (digs l))
def hasD (l : List ItemR) (d : ByteArray) : Bool := (digs l).any fun o => decide (o = d)
def addOk (sv : List Int) (l : List ItemR) (x : ItemR) : Bool := signedB sv x && !hasD l (digOf x)
def addK (sv : List Int) (l : List ItemR) (x : ItemR) : List ItemR := if addOk sv l x then insK l x else l
def fillK (sv : List Int) (l : List ItemR) (k : List ItemR) : List ItemR := k.foldl (addK sv) l

/-! ### Digests in order -/
def Asc (l : List ByteArray) : Prop := l.Pairwise fun a b => lessB a b = true
def insD : List ByteArray → ByteArray → List ByteArray
  | [], d => [d]
  | o :: r, d => if lessB d o then d :: o :: r else o :: insD r d
theorem insD_eq (d : ByteArray) : ∀ l, insD l d = l.take (cutK d l) ++ d :: l.drop (cutK d l)
  | [] => rfl
  | o :: r => by
    unfold insD cutK
    cases h : lessB d o
    · simp only [Bool.false_eq_true, if_false, List.takeWhile_cons, h, Bool.not_false, if_true, List.length_cons, List.take_succ_cons, List.drop_succ_cons, List.cons_append]
      rw [insD_eq d r]
      rfl
    · simp [List.takeWhile_cons, h]
theorem digs_insK (l : List ItemR) (x : ItemR) : digs (insK l x) = insD (digs l) (digOf x) := by
  rw [insD_eq]
  unfold insK digs
  rw [List.map_append, List.map_cons, List.map_take, List.map_drop]
theorem mem_insD (d e : ByteArray) : ∀ l, e ∈ insD l d ↔ e = d ∨ e ∈ l
  | [] => by simp [insD]
  | o :: r => by
    unfold insD
    split
    · simp
    · rw [List.mem_cons, mem_insD d e r, List.mem_cons]
      constructor
      · rintro (h | h | h)
        · exact .inr (.inl h)
        · exact .inl h
        · exact .inr (.inr h)
      · rintro (h | h | h)
        · exact .inr (.inl h)
        · exact .inl h
        · exact .inr (.inr h)
theorem asc_insD (d : ByteArray) : ∀ l, Asc l → d ∉ l → Asc (insD l d)
  | [], _, _ => List.pairwise_cons.2 ⟨by simp, List.Pairwise.nil⟩
  | o :: r, h, hd => by
    obtain ⟨h1, h2⟩ := List.pairwise_cons.1 h
    unfold insD
    cases hl : lessB d o
    · have hod : lessB o d = true := by
        rcases lessB_three o d with h3 | h3 | h3
        · exact h3
        · exact absurd (List.mem_cons.2 (.inl h3.symm)) hd
        · rw [hl] at h3; cases h3
      refine List.pairwise_cons.2 ⟨fun e he => ?_, asc_insD d r h2 fun hm => hd (List.mem_cons_of_mem _ hm)⟩
      rcases (mem_insD d e r).1 he with rfl | he
      · exact hod
      · exact h1 e he
    · refine List.pairwise_cons.2 ⟨fun e he => ?_, h⟩
      rcases List.mem_cons.1 he with rfl | he
      · exact hl
      · exact lessB_trans hl (h1 e he)
theorem asc_ext : ∀ l m : List ByteArray, Asc l → Asc m → (∀ d, d ∈ l ↔ d ∈ m) → l = m
  | [], [], _, _, _ => rfl
  | [], b :: m, _, _, h => by have := (h b).2 (List.mem_cons_self ..); simp at this
  | a :: l, [], _, _, h => by have := (h a).1 (List.mem_cons_self ..); simp at this
  | a :: l, b :: m, hl, hm, h => by
    obtain ⟨l1, l2⟩ := List.pairwise_cons.1 hl
    obtain ⟨m1, m2⟩ := List.pairwise_cons.1 hm
    have hab : a = b := by
      rcases List.mem_cons.1 ((h a).1 (List.mem_cons_self ..)) with e | e
      · exact e
      · rcases List.mem_cons.1 ((h b).2 (List.mem_cons_self ..)) with e2 | e2
        · exact e2.symm
        · have := lessB_asymm (m1 a e)
          rw [l1 b e2] at this
          cases this
    subst hab
    congr 1
    refine asc_ext l m l2 m2 fun d => ⟨fun hd => ?_, fun hd => ?_⟩
    · rcases List.mem_cons.1 ((h d).1 (List.mem_cons_of_mem _ hd)) with rfl | e
      · have := l1 _ hd; rw [lessB_irrefl] at this; cases this
      · exact e
    · rcases List.mem_cons.1 ((h d).2 (List.mem_cons_of_mem _ hd)) with rfl | e
      · have := m1 _ hd; rw [lessB_irrefl] at this; cases this
      · exact e

/-! ### Adding and filling -/
theorem hasD_iff (l : List ItemR) (d : ByteArray) : hasD l d = true ↔ d ∈ digs l := by
  unfold hasD
  rw [List.any_eq_true]
  constructor
  · rintro ⟨x, hx, he⟩
    rw [decide_eq_true_eq] at he
    exact he ▸ hx
  · intro h
    exact ⟨d, h, by simp⟩
theorem hasD_false (l : List ItemR) (d : ByteArray) : hasD l d = false ↔ d ∉ digs l := by
  rw [← hasD_iff]
  simp
/-- What every set that was filled from an empty one is. -/
structure Filled (sv : List Int) (l : List ItemR) : Prop where
  asc : Asc (digs l)
  all : ∀ x ∈ l, signedB sv x = true
theorem Filled.nil (sv : List Int) : Filled sv [] := ⟨List.Pairwise.nil, by simp⟩
theorem mem_insK (l : List ItemR) (x y : ItemR) : y ∈ insK l x ↔ y = x ∨ y ∈ l := by
  unfold insK
  have h : y ∈ l ↔ y ∈ l.take (cutK (digOf x) (digs l)) ∨ y ∈ l.drop (cutK (digOf x) (digs l)) := by rw [← List.mem_append, List.take_append_drop]
  rw [List.mem_append, List.mem_cons, h]
  constructor
  · rintro (h | h | h)
    · exact .inr (.inl h)
    · exact .inl h
    · exact .inr (.inr h)
  · rintro (h | h | h)
    · exact .inr (.inl h)
    · exact .inl h
    · exact .inr (.inr h)
theorem Filled.add {sv : List Int} {l : List ItemR} (h : Filled sv l) (x : ItemR) : Filled sv (addK sv l x) := by
  unfold addK
  cases ha : addOk sv l x
  · simpa using h
  · rw [if_pos rfl]
    unfold addOk at ha
    rw [Bool.and_eq_true, Bool.not_eq_true', hasD_false] at ha
    refine ⟨?_, fun y hy => ?_⟩
    · rw [digs_insK]
      exact asc_insD _ _ h.asc ha.2
    · rcases (mem_insK l x y).1 hy with rfl | hy
      · exact ha.1
      · exact h.all y hy
theorem Filled.fill {sv : List Int} : ∀ (k : List ItemR) {l : List ItemR}, Filled sv l → Filled sv (fillK sv l k)
  | [], _, h => h
  | x :: k, l, h => Filled.fill (sv := sv) k (l := addK sv l x) (h.add x)
theorem mem_addK (sv : List Int) (l : List ItemR) (x : ItemR) (d : ByteArray) : d ∈ digs (addK sv l x) ↔ d ∈ digs l ∨ (signedB sv x = true ∧ d = digOf x) := by
  unfold addK
  cases ha : addOk sv l x
  · rw [if_neg Bool.false_ne_true]
    refine ⟨.inl, ?_⟩
    rintro (h | ⟨h1, rfl⟩)
    · exact h
    · unfold addOk at ha
      rw [h1, Bool.true_and, Bool.not_eq_false', hasD_iff] at ha
      exact ha
  · rw [if_pos rfl, digs_insK, mem_insD]
    unfold addOk at ha
    rw [Bool.and_eq_true] at ha
    constructor
    · rintro (h | h)
      · exact .inr ⟨ha.1, h⟩
      · exact .inl h
    · rintro (h | h)
      · exact .inr h
      · exact .inl h.2
theorem mem_fillK (sv : List Int) (d : ByteArray) : ∀ (k l : List ItemR), d ∈ digs (fillK sv l k) ↔ d ∈ digs l ∨ ∃ x ∈ k, signedB sv x = true ∧ digOf x = d
  | [], l => by simp [fillK]
  | x :: k, l => by
    show d ∈ digs (fillK sv (addK sv l x) k) ↔ _
    rw [mem_fillK sv d k (addK sv l x), mem_addK]
    constructor
    · rintro ((h | ⟨h1, h2⟩) | ⟨y, hy, h⟩)
      · exact .inl h
      · exact .inr ⟨x, List.mem_cons_self .., h1, h2.symm⟩
      · exact .inr ⟨y, List.mem_cons_of_mem _ hy, h⟩
    · rintro (h | ⟨y, hy, h1, h2⟩)
      · exact .inl (.inl h)
      · rcases List.mem_cons.1 hy with rfl | hy
        · exact .inl (.inr ⟨h1, h2.symm⟩)
        · exact .inr ⟨y, hy, h1, h2⟩
theorem fillK_snoc (sv : List Int) (l k : List ItemR) (x : ItemR) : fillK sv l (k ++ [x]) = addK sv (fillK sv l k) x := by simp [fillK]
theorem fillK_append (sv : List Int) (l k m : List ItemR) : fillK sv l (k ++ m) = fillK sv (fillK sv l k) m := by simp [fillK]
theorem addK_length (sv : List Int) (l : List ItemR) (x : ItemR) : (addK sv l x).length = l.length + if addOk sv l x then 1 else 0 := by
  unfold addK
  cases ha : addOk sv l x
  · simp
  · rw [if_pos rfl, if_pos rfl]
    unfold insK
    rw [List.length_append, List.length_cons, ← Nat.add_assoc, ← List.length_append, List.take_append_drop]
theorem fillK_length (sv : List Int) : ∀ (k l : List ItemR), (fillK sv l k).length ≤ l.length + k.length
  | [], l => Nat.le_refl _
  | x :: k, l => by
    have h := fillK_length sv k (addK sv l x)
    have h2 := addK_length sv l x
    rw [List.length_cons]
    show (fillK sv (addK sv l x) k).length ≤ _
    split at h2 <;> omega
/-- Two fillings by the same members are alike. -/
theorem fill_same (sv : List Int) (k m : List ItemR) (h : ∀ x, x ∈ k ↔ x ∈ m) : digs (fillK sv [] k) = digs (fillK sv [] m) := by
  refine asc_ext _ _ (Filled.fill k (Filled.nil sv)).asc (Filled.fill m (Filled.nil sv)).asc fun d => ?_
  rw [mem_fillK, mem_fillK]
  constructor
  · rintro (h1 | ⟨x, hx, h1⟩)
    · exact .inl h1
    · exact .inr ⟨x, (h x).1 hx, h1⟩
  · rintro (h1 | ⟨x, hx, h1⟩)
    · exact .inl h1
    · exact .inr ⟨x, (h x).2 hx, h1⟩

/-! ### What the laws ask of a filling -/
theorem digOf_size {x : ItemR} {sv : List Int} (h : signedB sv x = true) : (digOf x).size = 32 := by
  unfold signedB at h
  rw [Bool.and_eq_true] at h
  unfold digOf
  rw [if_pos h.1]
  exact sha_size _
/-- Is there an item with this digest (known.Has)? -/
def hasE (l : List ItemR) (d : ByteArray) : Bool := !noneB d && hasD l d
theorem hasE_fill (sv : List Int) (k : List ItemR) (d : ByteArray) : hasE (fillK sv [] k) d = k.any fun x => signedB sv x && decide (digOf x = d) := by
  rw [Bool.eq_iff_iff]
  unfold hasE
  rw [Bool.and_eq_true, hasD_iff, mem_fillK, List.any_eq_true]
  constructor
  · rintro ⟨_, h | ⟨x, hx, h1, h2⟩⟩
    · simp [digs] at h
    · exact ⟨x, hx, by rw [h1, h2]; simp⟩
  · rintro ⟨x, hx, h⟩
    rw [Bool.and_eq_true, decide_eq_true_eq] at h
    refine ⟨?_, .inr ⟨x, hx, h.1, h.2⟩⟩
    have := digOf_size h.1
    rw [h.2] at this
    simp [noneB, this]
theorem hasD_fill (sv : List Int) (k : List ItemR) (d : ByteArray) : hasD (fillK sv [] k) d = k.any fun x => signedB sv x && decide (digOf x = d) := by
  rw [Bool.eq_iff_iff, hasD_iff, mem_fillK, List.any_eq_true]
  constructor
  · rintro (h | ⟨x, hx, h1, h2⟩)
    · simp [digs] at h
    · exact ⟨x, hx, by rw [h1, h2]; simp⟩
  · rintro ⟨x, hx, h⟩
    rw [Bool.and_eq_true, decide_eq_true_eq] at h
    exact .inr ⟨x, hx, h.1, h.2⟩
/-- How many of the first i items are new and signed. -/
def countK (sv : List Int) (k : List ItemR) (i : Nat) : Nat := (fillK sv [] (k.take i)).length
theorem countK_step (sv : List Int) (k : List ItemR) (i : Nat) (h : i < k.length) : countK sv k (i + 1) = countK sv k i + if signedB sv k[i] && !((k.take i).any fun x => signedB sv x && decide (digOf x = digOf k[i])) then 1 else 0 := by
  unfold countK
  rw [List.take_succ_eq_append_getElem h, fillK_snoc, addK_length]
  unfold addOk
  rw [hasD_fill]
theorem countK_all (sv : List Int) (k : List ItemR) : countK sv k k.length = (fillK sv [] k).length := by
  unfold countK
  rw [List.take_length]
theorem countK_le (sv : List Int) (k : List ItemR) (i : Nat) : countK sv k i ≤ i := by
  unfold countK
  have := fillK_length sv (k.take i) []
  rw [List.length_take, List.length_nil] at this
  omega

/-! ### Right sets, digests of sets -/
def publicsB (l : List Int) : Bool := l.all publicB
def chainB : ByteArray → List ByteArray → Bool
  | _, [] => true
  | a, b :: r => lessB a b && chainB b r
def rightK (sv : List Int) (l : List ItemR) : Bool := decide (sv.length ≤ 20) && (publicsB sv && (l.all (signedB sv) && chainB emptyT (digs l)))
theorem chainB_of : ∀ (l : List ByteArray) (a : ByteArray), Asc (a :: l) → chainB a l = true
  | [], _, _ => rfl
  | b :: r, a, h => by
    obtain ⟨h1, h2⟩ := List.pairwise_cons.1 h
    rw [chainB, h1 b (List.mem_cons_self ..), chainB_of r b h2]
    rfl
theorem chainB_asc : ∀ (l : List ByteArray) (a : ByteArray), chainB a l = true → Asc (a :: l)
  | [], a, _ => List.pairwise_cons.2 ⟨by simp, List.Pairwise.nil⟩
  | b :: r, a, h => by
    rw [chainB, Bool.and_eq_true] at h
    have ih := chainB_asc r b h.2
    refine List.pairwise_cons.2 ⟨fun c hc => ?_, ih⟩
    rcases List.mem_cons.1 hc with rfl | hc
    · exact h.1
    · exact lessB_trans h.1 ((List.pairwise_cons.1 ih).1 c hc)
theorem Filled.right {sv : List Int} {l : List ItemR} (h : Filled sv l) (h1 : sv.length ≤ 20) (h2 : publicsB sv = true) : rightK sv l = true := by
  unfold rightK
  rw [h2, decide_eq_true h1, List.all_eq_true.2 h.all, chainB_of]
  · rfl
  · refine List.pairwise_cons.2 ⟨fun d hd => ?_, h.asc⟩
    unfold digs at hd
    obtain ⟨x, hx, rfl⟩ := List.mem_map.1 hd
    rw [show emptyT = ⟨#[]⟩ from rfl, lessB_empty, digOf_size (h.all x hx)]
    rfl
theorem rightK_filled {sv : List Int} {l : List ItemR} (h : rightK sv l = true) : Filled sv l ∧ sv.length ≤ 20 ∧ publicsB sv = true := by
  unfold rightK at h
  simp only [Bool.and_eq_true, decide_eq_true_eq] at h
  exact ⟨⟨(List.pairwise_cons.1 (chainB_asc _ _ h.2.2.2)).2, fun x hx => List.all_eq_true.1 h.2.2.1 x hx⟩, h.1, h.2.1⟩
/-- The zigzag varint of an integer, and the list of them (code.Nums). -/
def zigN (n : Int) : Int := if n < 0 then -2 * n - 1 else 2 * n
def intL (n : Int) : List UInt8 := if n < -2305843009213693952 ∨ 2305843009213693952 < n then [] else numL (zigN n)
def numsL (l : List Int) : List UInt8 := numL l.length ++ l.flatMap intL
def setL (sv : List Int) (l : List ItemR) : List UInt8 := numsL sv ++ listL (digs l)
def setDig (sv : List Int) (l : List ItemR) : ByteArray := sha ⟨(setL sv l).toArray⟩
theorem setDig_same {sv : List Int} {l m : List ItemR} (h : digs l = digs m) : setDig sv l = setDig sv m := by
  unfold setDig setL
  rw [h]
/-- A list of items in an order that integers choose (the law's own function mixed). -/
def absMod (n : Int) (m : Nat) : Nat := (n.tmod m).natAbs
def mixK (l : List ItemR) (o : List Int) : List ItemR := (o.take 20).filterMap (fun n => l[absMod n l.length]?) ++ l
theorem mem_mixK (l : List ItemR) (o : List Int) (x : ItemR) : x ∈ mixK l o ↔ x ∈ l := by
  unfold mixK
  rw [List.mem_append, List.mem_filterMap]
  constructor
  · rintro (⟨n, _, h⟩ | h)
    · exact List.mem_of_getElem? h
    · exact h
  · exact .inr
theorem absMod_lt (n : Int) (m : Nat) (h : 0 < m) : absMod n m < m := by
  unfold absMod
  have h1 := Int.tmod_lt_of_pos n (show (0 : Int) < m by omega)
  have h2 := Int.lt_tmod_of_pos n (show (0 : Int) < m by omega)
  omega
end Go.Proofs.YtjfcllanochhmaaGreatDoor.Known
