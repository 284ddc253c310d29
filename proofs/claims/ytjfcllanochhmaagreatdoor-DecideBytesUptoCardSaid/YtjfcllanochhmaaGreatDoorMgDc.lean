/-
  Plain laws for DecideNumbers: what the valid decisions of a filled set are. No walk in this text.
  Insertion from the right: the kit's insertion sort over an array as a fold over a list; it commutes with a filter. No walk in this text.
  Plain laws for DecideBytes: a set that is filled with what was read back. No walk in this text.
  The law's helper of layer 35: set.
  The law's helper of layer 35: few (printed by gen_decfew.py).
  The fixed example of agoralaw35 as plain data. No walk in this text.
  The walk of agoralaw35.small (printed by gen_decsmall.py).
  The law DecideNumbers, walked (printed by gen_num.py).
  agoraref35.Texts at equal lists, agoraref35.Item, agoraref13.Same, agoraref35.Same at lists with the same decisions.
-/
import Derived.Test.YtjfcllanochhmaaGreatDoorMgDb
import Derived.Sort.Defs
import Derived.Test.YtjfcllanochhmaaGreatDoorMgDa
import Derived.Test.YtjfcllanochhmaaGreatDoorRefSame
set_option linter.unusedVariables false
set_option linter.unusedSimpArgs false
namespace Go.Proofs.YtjfcllanochhmaaGreatDoor.Dec
open Go.RowKit Grp Mem _root_.Go.Proofs.YtjfcllanochhmaaGreatDoor.Code Sha Sign _root_.Go.Proofs.YtjfcllanochhmaaGreatDoor.Item _root_.Go.Proofs.YtjfcllanochhmaaGreatDoor.Known

theorem right_decK {x : ItemR} (h : itemRight x = true) (hk : x.kind = 3) : itemRight (itDec x.dec) = true := by
  unfold itemRight at h ⊢
  rw [if_neg (by omega), if_neg (by omega), if_neg (by omega), if_pos hk, Bool.and_eq_true] at h
  rw [if_neg (show ¬ (itDec x.dec).kind = 0 from fun hh => by cases (show (3 : Int) = 0 from hh)), if_neg (show ¬ (itDec x.dec).kind = 1 from fun hh => by cases (show (3 : Int) = 1 from hh)), if_neg (show ¬ (itDec x.dec).kind = 2 from fun hh => by cases (show (3 : Int) = 2 from hh)), if_pos (show (itDec x.dec).kind = 3 from rfl), Bool.and_eq_true]
  exact ⟨h.1, show (act0.same act0 && (claim0.same claim0 && ballot0.same ballot0)) = true by decide⟩
theorem dig_decK {x : ItemR} (h : itemRight x = true) (hk : x.kind = 3) : digOf (itDec x.dec) = digOf x := by
  have h2 := right_decK h hk
  have hb : itemBytesL (itDec x.dec) = itemBytesL x := by
    unfold itemBytesL itemL sigV
    rw [hk]
    rfl
  unfold digOf itemBytes
  rw [h, h2, hb]
theorem signed_decK {sv : List Int} {x : ItemR} (h : signedB sv x = true) (hk : x.kind = 3) : signedB sv (itDec x.dec) = true := by
  have hr : itemRight x = true := by
    unfold signedB at h
    rw [Bool.and_eq_true] at h
    exact h.1
  have hm : messageB (itDec x.dec) = messageB x := by
    unfold messageB itemL nameT
    rw [hk]
    rfl
  have hs : sigV (itDec x.dec) = sigV x := by
    unfold sigV
    rw [hk]
    rfl
  unfold signedB at h ⊢
  rw [right_decK hr hk, hm, hs]
  rw [hr, if_neg (by omega), if_pos hk] at h
  exact h
theorem dig_some35 {x : ItemR} (h : itemRight x = true) : noneB (digOf x) = false := by
  unfold digOf noneB
  rw [if_pos h, sha_size]
  rfl
/-- What is known of the valid decisions of a filled set, as they lie in memory. -/
structure NumF (sv : List Int) (s : Int) (K : List ItemR) (l : List DecR) : Prop where
  has : ∀ j (h : j < l.length), hasE K (digOf (itDec l[j])) = true
  sig : ∀ j (h : j < l.length), signedB sv (itDec l[j]) = true
  srv : ∀ j (h : j < l.length), l[j].server = s
  asc : ∀ j (h : j + 1 < l.length), l[j].number < l[j + 1].number
  all : ∀ e ∈ listDe s K, ∃ j, ∃ h : j < l.length, l[j].number = e.number
theorem numF_of {sv : List Int} {s : Int} {K : List ItemR} {l : List DecR} (hF : Filled sv K) (hl : l.map bare = validK sv (listDe s K)) : NumF sv s K l := by
  have hof : ∀ d ∈ l, ∃ x ∈ K, x.kind = 3 ∧ x.dec.server = s ∧ itemRight x = true ∧ bare d = bare x.dec ∧ signedB sv (itDec x.dec) = true := by
    intro d hd
    have hm : bare d ∈ validK sv (listDe s K) := hl ▸ List.mem_map.2 ⟨d, hd, rfl⟩
    rcases valid_of sv (listDe s K) [] (bare d) hm with h | ⟨e, he, h1, h2⟩
    · simp at h
    · obtain ⟨x, hx, ⟨hw, hr⟩, rfl⟩ := (listDe_mem s K e).1 he
      obtain ⟨hk, hs⟩ := want_de hw
      exact ⟨x, hx, hk, hs, hr, h1, h2⟩
  have hasc : (l.map bare).Pairwise fun a b => a.number < b.number := by
    rw [hl]
    exact valid_asc sv _ (listDe_asc s K)
  refine ⟨fun j h => ?_, fun j h => ?_, fun j h => ?_, fun j h => ?_, fun e he => ?_⟩
  · obtain ⟨x, hx, hk, hs, hr, hb, hg⟩ := hof _ (List.getElem_mem h)
    rw [dig_of_bare hb, dig_decK hr hk]
    unfold hasE hasD digs
    rw [dig_some35 hr, Bool.not_false, Bool.true_and, List.any_eq_true]
    exact ⟨digOf x, List.mem_map.2 ⟨x, hx, rfl⟩, by simp⟩
  · obtain ⟨x, hx, hk, hs, hr, hb, hg⟩ := hof _ (List.getElem_mem h)
    rw [signed_of_bare sv hb]
    exact hg
  · obtain ⟨x, hx, hk, hs, hr, hb, hg⟩ := hof _ (List.getElem_mem h)
    have : (bare l[j]).server = (bare x.dec).server := by rw [hb]
    exact this.trans hs
  · rw [List.pairwise_map, List.pairwise_iff_getElem] at hasc
    exact hasc j (j + 1) (by omega) h (by omega)
  · obtain ⟨x, hx, ⟨hw, hr⟩, rfl⟩ := (listDe_mem s K e).1 he
    obtain ⟨hk, hs⟩ := want_de hw
    obtain ⟨v, hv, hn⟩ := valid_all sv (listDe s K) [] x.dec he (signed_decK (hF.all x hx) hk)
    have hv' : v ∈ l.map bare := by
      rw [hl]
      exact hv
    obtain ⟨d, hd, rfl⟩ := List.mem_map.1 hv'
    obtain ⟨j, hj, rfl⟩ := List.mem_iff_getElem.1 hd
    exact ⟨j, hj, hn⟩
end Go.Proofs.YtjfcllanochhmaaGreatDoor.Dec

namespace Go.Proofs.YtjfcllanochhmaaGreatDoor.Ins

section
variable {α : Type} (lt : α → α → Bool)
/-- Into a list that is laid from its last element on. -/
def insR (x : α) : List α → List α
  | [] => [x]
  | y :: r => if lt x y then y :: insR x r else x :: y :: r
def sortR (l : List α) : List α := (l.foldl (fun r x => insR lt x r) []).reverse
theorem insR_length (x : α) : ∀ r : List α, (insR lt x r).length = r.length + 1
  | [] => rfl
  | y :: r => by
    unfold insR
    split
    · rw [List.length_cons, insR_length x r, List.length_cons]
    · rfl
theorem mem_insR (x z : α) : ∀ r : List α, z ∈ insR lt x r ↔ z = x ∨ z ∈ r
  | [] => by simp [insR]
  | y :: r => by
    unfold insR
    split
    · rw [List.mem_cons, mem_insR x z r, List.mem_cons]
      constructor
      · rintro (h | h | h) <;> simp [h]
      · rintro (h | h | h) <;> simp [h]
    · simp
theorem foldl_length (l : List α) : ∀ r : List α, (l.foldl (fun r x => insR lt x r) r).length = r.length + l.length := by
  induction l with
  | nil => intro r; rfl
  | cons x l ih =>
    intro r
    rw [List.foldl_cons, ih, insR_length, List.length_cons]
    omega
theorem sortR_length (l : List α) : (sortR lt l).length = l.length := by
  unfold sortR
  rw [List.length_reverse, foldl_length]
  simp
theorem mem_foldl (z : α) (l : List α) : ∀ r : List α, z ∈ l.foldl (fun r x => insR lt x r) r ↔ z ∈ l ∨ z ∈ r := by
  induction l with
  | nil => intro r; simp
  | cons x l ih =>
    intro r
    rw [List.foldl_cons, ih, mem_insR, List.mem_cons]
    constructor
    · rintro (h | h | h) <;> simp [h]
    · rintro ((h | h) | h) <;> simp [h]
theorem mem_sortR (z : α) (l : List α) : z ∈ sortR lt l ↔ z ∈ l := by
  unfold sortR
  rw [List.mem_reverse, mem_foldl]
  simp

/-- The order that stays: an earlier element is not before a later one. -/
def Desc (r : List α) : Prop := r.Pairwise fun a b => lt a b = false
theorem desc_insR (ha : ∀ a b, lt a b = true → lt b a = false) (ht : ∀ a b c, lt a b = false → lt b c = false → lt a c = false) (x : α) : ∀ r : List α, Desc lt r → Desc lt (insR lt x r)
  | [], _ => by unfold insR Desc; simp
  | y :: r, h => by
    obtain ⟨h1, h2⟩ := List.pairwise_cons.1 h
    unfold insR
    split
    · rename_i hx
      refine List.pairwise_cons.2 ⟨fun z hz => ?_, desc_insR ha ht x r h2⟩
      rcases (mem_insR lt x z r).1 hz with rfl | hz
      · exact ha _ _ hx
      · exact h1 z hz
    · rename_i hx
      have hx' : lt x y = false := by simpa using hx
      refine List.pairwise_cons.2 ⟨fun z hz => ?_, h⟩
      rcases List.mem_cons.1 hz with rfl | hz
      · exact hx'
      · exact ht _ _ _ hx' (h1 z hz)
theorem filter_insR (ht : ∀ a b c, lt a b = false → lt b c = false → lt a c = false) (p : α → Bool) (x : α) : ∀ r : List α, Desc lt r → (insR lt x r).filter p = if p x then insR lt x (r.filter p) else r.filter p
  | [], _ => by cases hp : p x <;> simp [insR, hp]
  | y :: r, h => by
    obtain ⟨h1, h2⟩ := List.pairwise_cons.1 h
    have ih := filter_insR ht p x r h2
    rw [insR]
    cases hx : lt x y
    · rw [if_neg Bool.false_ne_true]
      have hr : ∀ s : List α, (∀ z ∈ s, lt x z = false) → insR lt x s = x :: s := by
        intro s hs
        cases s with
        | nil => rfl
        | cons z s => rw [insR, hs z (by simp), if_neg Bool.false_ne_true]
      cases hp : p x
      · rw [List.filter_cons, hp]
        simp
      · rw [List.filter_cons, hp, if_pos rfl, if_pos rfl]
        refine (hr _ fun z hz => ?_).symm
        rcases List.mem_cons.1 ((List.mem_filter.1 hz).1) with rfl | hz
        · exact hx
        · exact ht _ _ _ hx (h1 z hz)
    · rw [if_pos rfl, List.filter_cons, ih]
      cases hp : p x
      · cases hy : p y <;> simp [List.filter_cons, hy]
      · cases hy : p y
        · simp [List.filter_cons, hy]
        · simp [List.filter_cons, hy, insR, hx]
theorem filter_foldl (ha : ∀ a b, lt a b = true → lt b a = false) (ht : ∀ a b c, lt a b = false → lt b c = false → lt a c = false) (p : α → Bool) (l : List α) : ∀ r : List α, Desc lt r → (l.foldl (fun r x => insR lt x r) r).filter p = (l.filter p).foldl (fun r x => insR lt x r) (r.filter p) := by
  induction l with
  | nil => intro r _; rfl
  | cons x l ih =>
    intro r h
    rw [List.foldl_cons, ih _ (desc_insR lt ha ht x r h), filter_insR lt ht p x r h, List.filter_cons]
    cases hp : p x <;> simp
theorem filter_sortR (ha : ∀ a b, lt a b = true → lt b a = false) (ht : ∀ a b c, lt a b = false → lt b c = false → lt a c = false) (p : α → Bool) (l : List α) : (sortR lt l).filter p = sortR lt (l.filter p) := by
  unfold sortR
  rw [List.filter_reverse, filter_foldl lt ha ht p l [] List.Pairwise.nil]
  rfl
end

/-- The same after a map that keeps the order, on the elements at hand. -/
theorem map_insR {α β : Type} (lt : α → α → Bool) (lt2 : β → β → Bool) (f : α → β) (x : α) : ∀ r : List α, (∀ y ∈ r, lt2 (f x) (f y) = lt x y) → (insR lt x r).map f = insR lt2 (f x) (r.map f)
  | [], _ => rfl
  | y :: r, h => by
    rw [List.map_cons, insR, insR, h y (by simp)]
    split
    · rw [List.map_cons, map_insR lt lt2 f x r fun z hz => h z (by simp [hz])]
    · rfl
theorem map_foldl {α β : Type} (lt : α → α → Bool) (lt2 : β → β → Bool) (f : α → β) (G : α → Prop) (h : ∀ x y, G x → G y → lt2 (f x) (f y) = lt x y) (l : List α) : ∀ r : List α, (∀ x ∈ l, G x) → (∀ x ∈ r, G x) → (l.foldl (fun r x => insR lt x r) r).map f = (l.map f).foldl (fun r x => insR lt2 x r) (r.map f) := by
  induction l with
  | nil => intro r _ _; rfl
  | cons x l ih =>
    intro r hl hr
    rw [List.foldl_cons, ih _ (fun y hy => hl y (by simp [hy])) (fun y hy => by
      rcases (mem_insR lt x y r).1 hy with rfl | hy
      · exact hl _ (by simp)
      · exact hr y hy), map_insR lt lt2 f x r fun y hy => h x y (hl x (by simp)) (hr y hy)]
    rfl
theorem map_sortR {α β : Type} (lt : α → α → Bool) (lt2 : β → β → Bool) (f : α → β) (G : α → Prop) (h : ∀ x y, G x → G y → lt2 (f x) (f y) = lt x y) (l : List α) (hl : ∀ x ∈ l, G x) : (sortR lt l).map f = sortR lt2 (l.map f) := by
  unfold sortR
  rw [List.map_reverse, map_foldl lt lt2 f G h l [] hl (by simp)]
  rfl

/-! ### The kit's insertion sort over an array -/
section
variable {α : Type} [Inhabited α] (lt : α → α → Bool)
open Go.Sort
omit [Inhabited α] in
theorem toList_set (d : Array α) (i : Nat) (v : α) : (d.setIfInBounds i v).toList = d.toList.set i v := by simp
theorem get_bang (d : Array α) (i : Nat) (P R : List α) (x : α) (h : d.toList = P ++ x :: R) (hi : P.length = i) : d[i]! = x := by
  have hs : i < d.size := by rw [← Array.length_toList, h, List.length_append, List.length_cons]; omega
  rw [getElem!_pos d i hs, ← Array.getElem_toList]
  have : d.toList[i]'(by rw [Array.length_toList]; exact hs) = (P ++ x :: R)[i]'(by rw [List.length_append, List.length_cons]; omega) := by simp only [h]
  rw [this, List.getElem_append_right (by omega)]
  simp [hi]
theorem swp_list (d : Array α) (j : Nat) (P R : List α) (x y : α) (h : d.toList = P ++ y :: x :: R) (hj : P.length = j) : (swp d (j + 1) j).toList = P ++ x :: y :: R := by
  have e1 : d[j]! = y := get_bang d j P (x :: R) y h hj
  have e2 : d[j + 1]! = x := get_bang d (j + 1) (P ++ [y]) R x (by rw [h]; simp) (by simp [hj])
  unfold swp
  rw [toList_set, toList_set, e1, e2, h]
  subst hj
  rw [show P.length + 1 = P.length + 1 from rfl, List.set_append_right _ _ (by omega), List.set_append_right _ _ (by omega)]
  simp
theorem insInner_list : ∀ (rp : List α) (x : α) (R : List α) (d : Array α), d.toList = rp.reverse ++ x :: R → (insInner lt 0 rp.length d).toList = (insR lt x rp).reverse ++ R
  | [], x, R, d, h => by
    rw [List.length_nil, insInner, h]
    rfl
  | y :: rp, x, R, d, h => by
    have h' : d.toList = rp.reverse ++ y :: x :: R := by rw [h, List.reverse_cons, List.append_assoc]; rfl
    have e1 : d[rp.length]! = y := get_bang d rp.length rp.reverse (x :: R) y h' (by simp)
    have e2 : d[rp.length + 1]! = x := get_bang d (rp.length + 1) (rp.reverse ++ [y]) R x (by rw [h']; simp) (by simp)
    rw [List.length_cons, insInner, e1, e2, insR]
    cases hx : lt x y
    · rw [if_neg (by simp), if_neg Bool.false_ne_true, h']
      simp
    · rw [if_pos (by simp), if_pos rfl]
      have := insInner_list rp x (y :: R) (swp d (rp.length + 1) rp.length) (swp_list d rp.length rp.reverse R x y h' (by simp))
      rw [this]
      simp
theorem insOuter_list : ∀ (R : List α) (rp : List α) (d : Array α), d.toList = rp.reverse ++ R → (insOuter lt 0 d.size rp.length d).toList = (R.foldl (fun r x => insR lt x r) rp).reverse
  | [], rp, d, h => by
    have hs : d.size = rp.length := by rw [← Array.length_toList, h]; simp
    rw [insOuter, if_neg (by omega), h]
    simp
  | x :: R, rp, d, h => by
    have hs : d.size = rp.length + (R.length + 1) := by rw [← Array.length_toList, h]; simp
    rw [insOuter, if_pos (by omega), List.foldl_cons]
    have h1 := insInner_list lt rp x R d h
    have hs2 : (insInner lt 0 rp.length d).size = d.size := by
      have e := congrArg List.length h1
      rw [Array.length_toList, List.length_append, List.length_reverse, insR_length] at e
      omega
    have := insOuter_list R (insR lt x rp) (insInner lt 0 rp.length d) h1
    rw [hs2, insR_length] at this
    exact this
theorem insertionSort_list (d : Array α) : (insertionSort lt d 0 d.size).toList = sortR lt d.toList := by
  unfold insertionSort sortR
  cases h : d.toList with
  | nil =>
    have hs : d.size = 0 := by rw [← Array.length_toList, h]; rfl
    rw [insOuter, if_neg (by omega), h]
    rfl
  | cons x R =>
    have := insOuter_list lt R [x] d (by rw [h]; rfl)
    exact this
end
end Go.Proofs.YtjfcllanochhmaaGreatDoor.Ins

namespace Go.Proofs.YtjfcllanochhmaaGreatDoor.Dec
open Go.RowKit Grp Mem _root_.Go.Proofs.YtjfcllanochhmaaGreatDoor.Code Sha Sign _root_.Go.Proofs.YtjfcllanochhmaaGreatDoor.Item _root_.Go.Proofs.YtjfcllanochhmaaGreatDoor.Known

/-- The item of a decision, its list at no place. -/
def bareI (x : ItemR) : ItemR := itDec (bare x.dec)
theorem right_bareI {x : ItemR} (h : itemRight x = true) (hk : x.kind = 3) : itemRight (bareI x) = true := (right_bare x.dec).trans (right_decK h hk)
theorem dig_bareI {x : ItemR} (h : itemRight x = true) (hk : x.kind = 3) : digOf (bareI x) = digOf x := (dig_bare x.dec).trans (dig_decK h hk)
theorem signed_right {sv : List Int} {x : ItemR} (h : signedB sv x = true) : itemRight x = true := by
  unfold signedB at h
  rw [Bool.and_eq_true] at h
  exact h.1
theorem take_bareI (s : Int) : ∀ l : List ItemR, (∀ x ∈ l, itemRight x = true ∧ x.kind = 3) → takeDe s (l.map bareI) = (takeDe s l).map fun f => ⟨f.rank, f.dig, bare f.val⟩
  | [], _ => rfl
  | x :: l, h => by
    have ih := take_bareI s l fun y hy => h y (List.mem_cons_of_mem _ hy)
    obtain ⟨hr, hk⟩ := h x (List.mem_cons_self ..)
    unfold takeDe at ih ⊢
    have hw : (wantDe s (bareI x) && itemRight (bareI x)) = (wantDe s x && itemRight x) := by
      rw [right_bareI hr hk, hr]
      unfold wantDe
      rw [hk]
      rfl
    rw [List.map_cons, List.filter_cons, List.filter_cons, hw]
    cases wantDe s x && itemRight x
    · simpa using ih
    · simp only [if_true, List.map_cons]
      rw [ih]
      congr 1
      unfold foundDe
      rw [dig_bareI hr hk]
      rfl
theorem listDe_bareI (s : Int) (l : List ItemR) (h : ∀ x ∈ l, itemRight x = true ∧ x.kind = 3) : listDe s (l.map bareI) = (listDe s l).map bare := by
  unfold listDe sortDe sortA
  rw [Ins.insertionSort_list, Ins.insertionSort_list, take_bareI s l h]
  show List.map (·.val) (Ins.sortR (ltOf cmpF) ((takeDe s l).map fun f => ⟨f.rank, f.dig, bare f.val⟩)) = List.map bare (List.map (·.val) (Ins.sortR (ltOf cmpF) (takeDe s l)))
  rw [← Ins.map_sortR (ltOf cmpF) (ltOf cmpF) (fun f : Known.Found DecR => (⟨f.rank, f.dig, bare f.val⟩ : Known.Found DecR)) (fun _ => True) (fun _ _ _ _ => rfl) (takeDe s l) (fun _ _ => trivial), List.map_map, List.map_map]
  rfl
theorem validK_bare (sv : List Int) (ds : List DecR) : validK sv (ds.map bare) = validK sv ds := by
  unfold validK
  rw [List.foldl_map]
  rfl
/-- What the set that is filled again holds after j rounds. -/
structure RB (la : List ItemR) (j : Nat) (lb : List ItemR) : Prop where
  map : lb.map bareI = (la.take j).map bareI
  kd : ∀ x ∈ lb, x.kind = 3
theorem RB.start (la : List ItemR) : RB la 0 [] := ⟨by simp, by simp⟩
theorem digs_bareI {sv : List Int} {l : List ItemR} (hs : ∀ x ∈ l, signedB sv x = true) (hk : ∀ x ∈ l, x.kind = 3) : digs l = digs (l.map bareI) := by
  unfold digs
  rw [List.map_map]
  refine List.map_congr_left fun x hx => ?_
  exact (dig_bareI (signed_right (hs x hx)) (hk x hx)).symm
theorem RB.step {sv : List Int} {la lb : List ItemR} {j : Nat} (h : RB la j lb) (hF : Filled sv la) (hk : ∀ x ∈ la, x.kind = 3) (hG : Filled sv lb) (hj : j < la.length) (A : Option Addr) (c : Nat) :
    addOk sv lb (itDec (DecR.to' la[j].dec A c)) = true ∧ RB la (j + 1) (addK sv lb (itDec (DecR.to' la[j].dec A c))) := by
  have hm := List.getElem_mem hj
  have hsg := hF.all _ hm
  have hr := signed_right hsg
  have hkj := hk _ hm
  have hsx : signedB sv (itDec (DecR.to' la[j].dec A c)) = true := signed_decK hsg hkj
  have hdx : digOf (itDec (DecR.to' la[j].dec A c)) = digOf la[j] := dig_decK hr hkj
  have htk : ∀ x ∈ la.take j, signedB sv x = true := fun x hx => hF.all x (List.mem_of_mem_take hx)
  have hdl : digs lb = digs (la.take j) := by
    rw [digs_bareI hG.all h.kd, h.map, ← digs_bareI htk fun x hx => hk x (List.mem_of_mem_take hx)]
  have hlow : ∀ o ∈ digs lb, lessB o (digOf la[j]) = true := by
    intro o ho
    rw [hdl] at ho
    have hasc := hF.asc
    unfold Asc at hasc
    have e : digs la = digs (la.take j) ++ digOf la[j] :: digs (la.drop (j + 1)) := by
      unfold digs
      rw [← List.map_cons, ← List.map_append, ← List.drop_eq_getElem_cons hj, List.take_append_drop]
    rw [e, List.pairwise_append] at hasc
    exact hasc.2.2 o ho _ (List.mem_cons_self ..)
  have hno : hasD lb (digOf la[j]) = false := by
    rw [hasD_false]
    intro hc
    have := hlow _ hc
    rw [lessB_irrefl] at this
    cases this
  have hok : addOk sv lb (itDec (DecR.to' la[j].dec A c)) = true := by
    unfold addOk
    rw [hsx, hdx, hno]
    rfl
  have hlen : (digs lb).length = lb.length := by unfold digs; rw [List.length_map]
  have hcut : cutK (digOf la[j]) (digs lb) = lb.length := by
    unfold cutK
    have h9 : ∀ m : List ByteArray, (∀ o ∈ m, lessB o (digOf la[j]) = true) → m.takeWhile (fun o => !lessB (digOf la[j]) o) = m := by
      intro m
      induction m with
      | nil => intro _; rfl
      | cons a m ih =>
        intro hm
        rw [List.takeWhile_cons, lessB_asymm (hm a (List.mem_cons_self ..)), ih fun o ho => hm o (List.mem_cons_of_mem _ ho)]
        rfl
    rw [h9 _ hlow, hlen]
  have hadd : addK sv lb (itDec (DecR.to' la[j].dec A c)) = lb ++ [itDec (DecR.to' la[j].dec A c)] := by
    unfold addK
    rw [hok, if_pos rfl]
    unfold insK
    rw [hdx, hcut, List.take_length, List.drop_length]
  refine ⟨hok, ?_, ?_⟩
  · rw [hadd, List.map_append, h.map, List.take_succ_eq_append_getElem hj, List.map_append]
    rfl
  · intro x hx
    rw [hadd, List.mem_append] at hx
    rcases hx with hx | hx
    · exact h.kd x hx
    · rw [List.mem_singleton] at hx
      subst hx
      rfl
/-- What follows from both sets is the same. -/
theorem RB.valid {sv : List Int} {la lb : List ItemR} (h : RB la la.length lb) (hF : Filled sv la) (hk : ∀ x ∈ la, x.kind = 3) (hG : Filled sv lb) (s : Int) : validK sv (listDe s lb) = validK sv (listDe s la) := by
  have hm := h.map
  rw [List.take_length] at hm
  rw [← validK_bare sv (listDe s lb), ← validK_bare sv (listDe s la), ← listDe_bareI s lb fun x hx => ⟨signed_right (hG.all x hx), h.kd x hx⟩, ← listDe_bareI s la fun x hx => ⟨signed_right (hF.all x hx), hk x hx⟩, hm]
end Go.Proofs.YtjfcllanochhmaaGreatDoor.Dec

namespace Go.Proofs.YtjfcllanochhmaaGreatDoor.Dec
open Go.RowKit Grp Mem _root_.Go.Proofs.YtjfcllanochhmaaGreatDoor.Code Sha Sign _root_.Go.Proofs.YtjfcllanochhmaaGreatDoor.Item _root_.Go.Proofs.YtjfcllanochhmaaGreatDoor.Known

/-- A region that draws its order, from the world at hand, with a class that the others keep. -/
theorem region_H {P : Program} {id : Nat} {K : Exit → Act → World → Prop} {a : Act} {w : World} {l : List Oper} (S : World → Prop) (hm : P.follows .mixedOrders = true) (h : wpAnyH P .any l.toArray K S l.length (Array.replicate l.length false) a w.drew) : (Code.region id l.toArray true).wp P K a w := by
  refine wp_region_any hm ?_
  exact wpAny_of_held _ _ _ _ (by simpa using h)
theorem wp_read_run {P : Program} {o : Oper} {a : Act} {w : World} {v : Value} {K : Act → World → Prop} {Q : Exit → Act → World → Prop} (hr : (execOp a.eval o).run P w = .ok (.value v) w) (h : K (a.put o.dst v) w) : o.wp P a w K Q := by
  unfold Oper.wp
  rw [hr]
  exact h
/-- The set so far lies in its block. -/
structure KSt (W2 : World) (gk : Nat) (n : Nat) (wr : World) (k : KR) : Prop where
  q : Below gk W2 wr
  blk : Blk wr gk 28 k.cells.toArray
  inn : KIn wr k
  hsv : k.sv = pubs35
  fil : Filled pubs35 k.l
  len : k.l.length ≤ n
  kd : ∀ x ∈ k.l, x.kind = 3
theorem mem_addK {sv : List Int} {l : List ItemR} {x y : ItemR} (h : y ∈ addK sv l x) : y = x ∨ y ∈ l := by
  unfold addK at h
  split at h
  · exact (mem_insK l x y).1 h
  · exact .inr h
theorem kd_add {sv : List Int} {l : List ItemR} (h : ∀ x ∈ l, x.kind = 3) {x : ItemR} (hx : x.kind = 3) : ∀ y ∈ addK sv l x, y.kind = 3 := fun y hy => by
  rcases mem_addK hy with rfl | hy
  · exact hx
  · exact h y hy
theorem known_only35 {w : World} {g : Nat} {k : KR} (h : Blk w g 28 k.cells.toArray) : ∀ o' v, w.cell? ⟨g, o', none⟩ = some v → ∃ A n c, v = .slice A n c := by
  intro o' v hv
  rw [h.cell] at hv
  rcases o' with _ | _ | n
  · exact ⟨_, _, _, (Option.some.inj hv).symm⟩
  · exact ⟨_, _, _, (Option.some.inj hv).symm⟩
  · simp [KR.cells] at hv
theorem KSt.step {W2 : World} {gk n n' : Nat} {wr w2 : World} {k k' : KR} (h : KSt W2 gk n wr k) (hq : Q wr w2) (hk : KIn w2 k') (hsv : k'.sv = pubs35) (hf : Filled pubs35 k'.l) (hn : k'.l.length ≤ n') (hd : ∀ x ∈ k'.l, x.kind = 3) : KSt W2 gk n' (w2.setCells gk 0 k'.cells) k' := by
  have hb2 := h.blk.q hq
  have hgk := h.blk.lt
  have hbel : Below gk W2 w2 := h.q.trans (hq.mono (Nat.le_of_lt hgk))
  have hsc : Blk (w2.setCells gk 0 k'.cells) gk 28 k'.cells.toArray := by
    have := Blk.setCells k'.cells 0 _ w2 hb2 (Nat.le_refl 2)
    rwa [splice_all _ _ (by rfl)] at this
  have hfar := fun b (hne : b ≠ gk) => setCells_far (g := gk) hne k'.cells 0 w2
  have hside : _root_.Go.Proofs.YtjfcllanochhmaaGreatDoor.Known.Aside w2 (w2.setCells gk 0 k'.cells) gk := ⟨known_only35 hb2, hfar, (below_setCells (Nat.le_refl _) k'.cells 0 w2 w2 (Below.refl gk w2)).size⟩
  exact ⟨below_setCells (Nat.le_refl _) k'.cells 0 W2 w2 hbel, hsc, hside.known hk, hsv, hf, hn, hd⟩
theorem exec_index12 {o : Oper} {a : Act} {w : World} (x i : Operand) (b off n c m : Nat) (ho : o.op = .indexAddr 22 x i) (hx : a.eval x = .slice (some ⟨b, off, none⟩) n c) (hi : a.eval i = .int .i64 (m : Int)) (hm : m < n) : (execOp a.eval o).run Tryz.prog w = .ok (.value (.pointer (some ⟨b, off + m * 12, none⟩))) w := by
  have hs := Tryz.sizeOf45
  have ht := Tryz.underlying22
  have he : Tryz.prog.elem 22 = 45 := by kernel_rfl
  unfold execOp
  have hmI : (0 : Int) ≤ (m : Int) := by omega
  have hmn : (m : Int) < (n : Int) := by omega
  simp only [ho, hx, hi]
  go_simp
def SetIs (n : Nat) (w : World) (e : Ending) (w' : World) : Prop := ∃ k : KR, e = .returned (.agg (knA k)) ∧ k.sv = pubs35 ∧ Filled pubs35 k.l ∧ (k.l.length ≤ n ∧ ∀ x ∈ k.l, x.kind = 3) ∧ KIn w' k ∧ Q w w'

set_option maxRecDepth 100000 in
set_option maxHeartbeats 4000000 in
theorem set35_any (A : Option Addr) (c : Nat) (l : List DecR) (w : World) (hT : Tab w) (hR : RowsAt w A 12 DecR.cells l) (hI : ∀ d ∈ l, DecIn w d) (hF : ∀ d ∈ l, Fit d) (hl : l.length ≤ 14) :
    Calls Tryz.prog 6 #[.slice A l.length c] w (SetIs l.length w) := by
  have h2 := Blk.new w 28 (knA known0)
  have hq := q_new w (knA known0) 28
  obtain ⟨w3, hw3⟩ : ∃ w3, w3 = w.alloc (.cells (knA known0) 28) := ⟨_, rfl⟩
  rw [← hw3] at h2 hq
  have hBr : ∀ y : Wd w3, Blk y.w w.heap.size 28 known0.cells.toArray := fun y => y.blk h2
  have hPu := fun y : Wd w3 => pubs35_any y.w (hT.q (Q.trans hq y.q))
  have HQ := Lib.hid hq
  obtain ⟨u, hu⟩ : ∃ u : Wd w3, u.w = w3 := ⟨⟨w3, Q.refl _⟩, rfl⟩
  have HX := Lib.hid (hu.trans hw3)
  have hlt3 := h2.lt
  have hp3 : pubs35.length = 3 := rfl
  clear hu hw3 h2 hq
  generalize hnl : l.length = nl at *
  go_enter Tryz.func6, Tryz.ntmps6
  go_upto_region 1 with (fail)
  refine (show Code.wp _ _ _ _ u.w → Code.wp _ _ _ _ _ from fun h => by rw [HX.out] at h; exact h) ?_
  go_upto_region 2 with (first | (go_at_call 8; refine (hPu _).mono ?_; rintro e w' ⟨A3, c3, rfl, hI3, hq2⟩; have hnew := new_any A3 c3 pubs35 w' hI3 (by rw [hp3]; omega); rw [hp3] at hnew; obtain ⟨y, rfl⟩ := Wd.next _ hq2; clear hq2 hI3) | (go_at_call 7; refine hnew.mono ?_; rintro e w' ⟨kn, rfl, hks, hkl, hkK, hq2⟩; obtain ⟨y2, rfl⟩ := Wd.next _ hq2; clear hq2) | (refine wpList_store_blk (Blk.new y2.w 28 known0.cells.toArray) rfl 28 (.tmp 3) (.tmp 6) kn.cells rfl rfl rfl (by kernel_rfl) (kn_all _) (Nat.le_refl 2) ?_))
  intro W2 hB2 hbel2
  rw [splice_all _ _ (by rfl)] at hB2
  have hq32 : Q w3 W2 := hbel2 _ _ y2.q.size (Q.trans y2.q (q_new _ _ _))
  have hgk : w3.heap.size ≤ y2.w.heap.size := y2.q.size
  have hst0 : KSt W2 y2.w.heap.size 0 W2 kn := ⟨Below.refl _ _, hB2, hkK.q (hbel2 _ _ (Nat.le_refl _) (q_new _ _ _)), hks, by rw [hkl]; exact Filled.nil _, by rw [hkl]; exact Nat.le_refl _, by rw [hkl]; simp⟩
  have hgW : y2.w.heap.size < W2.heap.size := hB2.lt
  generalize y2.w.heap.size = gk at *
  have HST0 := Lib.hid hst0
  have HRW := Lib.hid (hBr ⟨W2, hq32⟩)
  have HQ2 := Lib.hid hq32
  clear hst0 hB2 hbel2 hkK hks hkl hnew hBr hPu
  go_wp2_with fail
  go_loopw [4] (fun i wr => ∃ (t : Nat) (k : KR), i = .int .i64 t ∧ t ≤ nl ∧ KSt W2 gk t wr k) (fun i _ => nl - (intOf i).toNat)
  case atStart => exact ⟨0, kn, rfl, Nat.zero_le _, HST0.out⟩
  case round =>
    obtain ⟨t, k, rfl, ht, hst⟩ := hrel
    have hqr : Q w wr := Below.trans (Q.trans HQ.out HQ2.out) (hst.q.mono (by omega))
    have hTr := hT.q hqr
    have hRr := hR.q hqr
    have hLk : ∀ y : Wd wr, (Instr.loadAt 28 (.pointer (some ⟨gk, 0, none⟩))).run Tryz.prog y.w = .ok (.agg (knA k)) y.w := Wd.load hst.blk.lt (Blk.range hst.blk) Tryz.underlying28 rfl (by kernel_rfl)
    by_cases hlt : t < nl
    · have hltL : t < l.length := by omega
      obtain ⟨b, o, eA, hb0, hcs⟩ := hR (by omega)
      have hld : ∀ z, Q w z → (Instr.loadAt 45 (.pointer (some ⟨b, o + t * 12, none⟩))).run Tryz.prog z = .ok (.agg (decA l[t])) z := fun z hz => Wd.load (P := Tryz.prog) (ty := 45) hb0 (hcs t hltL) Tryz.underlying45 rfl (by kernel_rfl) ⟨z, hz⟩
      have hS0 : ∀ z, Below gk W2 z → Q w z := fun z hz => Below.trans (Q.trans HQ.out HQ2.out) (hz.mono (by omega))
      have hdi := hI _ (List.getElem_mem hltL)
      have hfi := hF _ (List.getElem_mem hltL)
      have hlI : (t : Int) < (nl : Int) := by omega
      have htI : (0 : Int) ≤ (t : Int) := by omega
      have hlen : k.l.length ≤ 100000 := by have := hst.len; omega
      clear hcs
      subst eA
      generalize l[t] = d at *
      go_wp2_with fail
      refine region_H (fun z => Below gk W2 z) (by kernel_rfl) ?_
      have hqd : Q wr wr.drew := (Q.refl _).drew
      have hz0 : Below gk W2 wr.drew := hst.q.trans (hqd.mono (Nat.le_of_lt hst.blk.lt))
      refine held_pure 1 (v := .slice (some ⟨b, o, none⟩) nl c) rfl (by kernel_rfl) (by kernel_rfl) (by kernel_rfl) (by intro c a d v w h; cases d <;> exact h) rfl hz0 (fun w => by rfl) ?_
      try simp only [Act.put, List.setIfInBounds_toArray, List.set_cons_succ, List.set_cons_zero]
      refine held_pure 2 (v := .int .i64 (t : Int)) rfl (by kernel_rfl) (by kernel_rfl) (by kernel_rfl) (by intro c a d v w h; cases d <;> exact h) rfl hz0 (fun w => by rfl) ?_
      try simp only [Act.put, List.setIfInBounds_toArray, List.set_cons_succ, List.set_cons_zero]
      refine held_pure 3 (v := .pointer (some ⟨b, o + t * 12, none⟩)) rfl (by kernel_rfl) (by kernel_rfl) (by kernel_rfl) (by intro c a d v w h; cases d <;> exact h) rfl hz0 (fun w => exec_index12 (.tmp 15) (.tmp 16) b o nl c t rfl rfl rfl hlt) ?_
      try simp only [Act.put, List.setIfInBounds_toArray, List.set_cons_succ, List.set_cons_zero]
      refine held_read 4 (v := .agg (decA d)) rfl (by kernel_rfl) (by kernel_rfl) (by kernel_rfl) (by intro c a d v w h; cases d <;> exact h) rfl hz0 (fun z hz => exec_load 45 (.tmp 17) _ _ rfl rfl (hld z (hS0 z hz))) ?_
      try simp only [Act.put, List.setIfInBounds_toArray, List.set_cons_succ, List.set_cons_zero]
      refine held_fork 0 5 rfl rfl (by kernel_rfl) rfl rfl (fun K' hK' => ?_) (fun K' hK' => ?_)
      · refine wp_read_run (v := .agg (knA k)) (exec_load 28 (.tmp 3) _ _ rfl rfl (hLk ⟨wr.drew, hqd⟩)) ?_
        refine hK' _ _ hz0 ?_
        clear hK' K'
        try simp only [Act.put, List.setIfInBounds_toArray, List.set_cons_succ, List.set_cons_zero]
        refine held_one 5 rfl (by kernel_rfl) rfl (fun K' hK' => ?_)
        go_simp
        refine (signed35_any d wr.drew (hTr.q hqd) (hdi.q (Q.trans hqr hqd)) hfi).mono ?_
        rintro e w5 ⟨TB, uc, rfl, huR, hu1, hu2, q5⟩
        have hq5 := Q.trans hqd q5
        have hz5 : Below gk W2 w5 := hst.q.trans (hq5.mono (Nat.le_of_lt hst.blk.lt))
        refine hK' _ _ hz5 ?_
        clear hK' K'
        try simp only [Act.put, List.setIfInBounds_toArray, List.set_cons_succ, List.set_cons_zero]
        refine held_one 6 rfl (by kernel_rfl) rfl (fun K' hK' => ?_)
        go_simp
        refine (add_any k (itDec (DecR.to' (sgn35 d) TB uc)) w5 (hTr.q hq5) (hst.inn.q hq5) ⟨act0_in w5, dec_in huR hu1 hu2⟩ hlen).mono ?_
        rintro e w6 ⟨k', rfl, hsv, hl', hK2, q6⟩
        have hq6 := Q.trans hq5 q6
        have hz6 : Below gk W2 w6 := hst.q.trans (hq6.mono (Nat.le_of_lt hst.blk.lt))
        refine hK' _ _ hz6 ?_
        clear hK' K'
        try simp only [Act.put, List.setIfInBounds_toArray, List.set_cons_succ, List.set_cons_zero]
        refine held_pure 7 (v := .tuple #[.agg (knA k'), .bool (addOk k.sv k.l (itDec (DecR.to' (sgn35 d) TB uc)))]) rfl (by kernel_rfl) (by kernel_rfl) (by kernel_rfl) (by intro c a d v w h; cases d <;> exact h) rfl hz6 (fun w => by rfl) ?_
        try simp only [Act.put, List.setIfInBounds_toArray, List.set_cons_succ, List.set_cons_zero]
        refine held_pure 8 (v := .agg (knA k')) rfl (by kernel_rfl) (by kernel_rfl) (by kernel_rfl) (by intro c a d v w h; cases d <;> exact h) rfl hz6 (fun w => by rfl) ?_
        try simp only [Act.put, List.setIfInBounds_toArray, List.set_cons_succ, List.set_cons_zero]
        refine held_pure 9 (v := .bool (addOk k.sv k.l (itDec (DecR.to' (sgn35 d) TB uc)))) rfl (by kernel_rfl) (by kernel_rfl) (by kernel_rfl) (by intro c a d v w h; cases d <;> exact h) rfl hz6 (fun w => by rfl) ?_
        try simp only [Act.put, List.setIfInBounds_toArray, List.set_cons_succ, List.set_cons_zero]
        have hb2 := hst.blk.q hq6
        have HST2 : Hid (KSt W2 gk (t + 1) (w6.setCells gk 0 k'.cells) k') := Lib.hid (hst.step hq6 hK2 (hsv.trans hst.hsv) (by rw [hl', hst.hsv]; exact hst.fil.add _) (by
          rw [hl', addK_length]
          have := hst.len
          split <;> omega) (by rw [hl']; exact kd_add hst.kd rfl))
        refine held_one 10 rfl (by kernel_rfl) rfl (fun K' hK' => ?_)
        refine wp_store_mid 28 (.tmp 3) (.tmp 21) rfl gk 0 k'.cells.toArray rfl rfl (by simpa using hb2.there (Nat.le_refl 2)) (by kernel_rfl) (kn_all _) ?_
        refine hK' _ _ HST2.out.q ?_
        clear hK' K'
        refine wpAnyH_done (by kernel_rfl) ?_ _
        go_wp2_with fail
        exact ⟨⟨t + 1, k', by go_num, by omega, HST2.out⟩, by simp only [intOf]; omega⟩
      · go_simp
        refine (signed35_any d wr.drew (hTr.q hqd) (hdi.q (Q.trans hqr hqd)) hfi).mono ?_
        rintro e w5 ⟨TB, uc, rfl, huR, hu1, hu2, q5⟩
        have hq5 := Q.trans hqd q5
        have hz5 : Below gk W2 w5 := hst.q.trans (hq5.mono (Nat.le_of_lt hst.blk.lt))
        refine hK' _ _ hz5 ?_
        clear hK' K'
        try simp only [Act.put, List.setIfInBounds_toArray, List.set_cons_succ, List.set_cons_zero]
        refine held_one 0 rfl (by kernel_rfl) rfl (fun K' hK' => ?_)
        refine wp_read_run (v := .agg (knA k)) (exec_load 28 (.tmp 3) _ _ rfl rfl (hLk ⟨w5, hq5⟩)) ?_
        refine hK' _ _ hz5 ?_
        clear hK' K'
        try simp only [Act.put, List.setIfInBounds_toArray, List.set_cons_succ, List.set_cons_zero]
        refine held_one 6 rfl (by kernel_rfl) rfl (fun K' hK' => ?_)
        go_simp
        refine (add_any k (itDec (DecR.to' (sgn35 d) TB uc)) w5 (hTr.q hq5) (hst.inn.q hq5) ⟨act0_in w5, dec_in huR hu1 hu2⟩ hlen).mono ?_
        rintro e w6 ⟨k', rfl, hsv, hl', hK2, q6⟩
        have hq6 := Q.trans hq5 q6
        have hz6 : Below gk W2 w6 := hst.q.trans (hq6.mono (Nat.le_of_lt hst.blk.lt))
        refine hK' _ _ hz6 ?_
        clear hK' K'
        try simp only [Act.put, List.setIfInBounds_toArray, List.set_cons_succ, List.set_cons_zero]
        refine held_pure 7 (v := .tuple #[.agg (knA k'), .bool (addOk k.sv k.l (itDec (DecR.to' (sgn35 d) TB uc)))]) rfl (by kernel_rfl) (by kernel_rfl) (by kernel_rfl) (by intro c a d v w h; cases d <;> exact h) rfl hz6 (fun w => by rfl) ?_
        try simp only [Act.put, List.setIfInBounds_toArray, List.set_cons_succ, List.set_cons_zero]
        refine held_pure 8 (v := .agg (knA k')) rfl (by kernel_rfl) (by kernel_rfl) (by kernel_rfl) (by intro c a d v w h; cases d <;> exact h) rfl hz6 (fun w => by rfl) ?_
        try simp only [Act.put, List.setIfInBounds_toArray, List.set_cons_succ, List.set_cons_zero]
        refine held_pure 9 (v := .bool (addOk k.sv k.l (itDec (DecR.to' (sgn35 d) TB uc)))) rfl (by kernel_rfl) (by kernel_rfl) (by kernel_rfl) (by intro c a d v w h; cases d <;> exact h) rfl hz6 (fun w => by rfl) ?_
        try simp only [Act.put, List.setIfInBounds_toArray, List.set_cons_succ, List.set_cons_zero]
        have hb2 := hst.blk.q hq6
        have HST2 : Hid (KSt W2 gk (t + 1) (w6.setCells gk 0 k'.cells) k') := Lib.hid (hst.step hq6 hK2 (hsv.trans hst.hsv) (by rw [hl', hst.hsv]; exact hst.fil.add _) (by
          rw [hl', addK_length]
          have := hst.len
          split <;> omega) (by rw [hl']; exact kd_add hst.kd rfl))
        refine held_one 10 rfl (by kernel_rfl) rfl (fun K' hK' => ?_)
        refine wp_store_mid 28 (.tmp 3) (.tmp 21) rfl gk 0 k'.cells.toArray rfl rfl (by simpa using hb2.there (Nat.le_refl 2)) (by kernel_rfl) (kn_all _) ?_
        refine hK' _ _ HST2.out.q ?_
        clear hK' K'
        refine wpAnyH_done (by kernel_rfl) ?_ _
        go_wp2_with fail
        exact ⟨⟨t + 1, k', by go_num, by omega, HST2.out⟩, by simp only [intOf]; omega⟩
    · have hlI : ¬ ((t : Int) < (nl : Int)) := by omega
      have htn : t = nl := by omega
      subst htn
      have hBr2 : Blk wr w.heap.size 28 known0.cells.toArray := by
        have := HRW.out
        exact (hst.q.block w.heap.size (by omega)).trans this
      have HST := Lib.hid hst
      have HQR := Lib.hid hqr
      clear hst hqr hTr hRr
      go_wp2_with (first | (refine wpList_load_run 28 (.tmp 3) (.pointer (some ⟨gk, 0, none⟩)) (.agg (knA k)) ?_ ?_ ?_ ?_ ?_; rfl; rfl; rfl; exact hLk ⟨_, Q.refl _⟩) | (refine wpList_store_far hBr2 rfl 28 (.tmp 2) (.tmp 23) k.cells rfl rfl rfl (by kernel_rfl) (kn_all _) (Nat.le_refl 2) ?_))
      intro W5 hW5 hbel5 hfar5
      rw [splice_all _ _ (by rfl)] at hW5
      have hq5 : Q w W5 := hbel5 _ _ (Nat.le_refl _) HQR.out
      have hside : _root_.Go.Proofs.YtjfcllanochhmaaGreatDoor.Known.Aside wr W5 w.heap.size := ⟨known_only35 hBr2, hfar5, (hbel5 _ _ (Nat.le_refl _) (Below.refl _ wr)).size⟩
      have HFI : Hid (SetIs t w (.returned (.agg (knA k))) W5) := Lib.hid ⟨k, rfl, HST.out.hsv, HST.out.fil, ⟨HST.out.len, HST.out.kd⟩, hside.known HST.out.inn, hq5⟩
      clear hbel5 hfar5 hside hq5
      go_wp2_with fail
      exact bodyPost_ret (results_cell_row rfl _ _ w.heap.size 28 (knA k) (0, 0) _ rfl hW5 Tryz.underlying28 rfl (by kernel_rfl)) rfl HFI.out
end Go.Proofs.YtjfcllanochhmaaGreatDoor.Dec

namespace Go.Proofs.YtjfcllanochhmaaGreatDoor.Dec
open Go.RowKit Grp Mem _root_.Go.Proofs.YtjfcllanochhmaaGreatDoor.Code Sha Sign _root_.Go.Proofs.YtjfcllanochhmaaGreatDoor.Item _root_.Go.Proofs.YtjfcllanochhmaaGreatDoor.Known

theorem dskip {P : Program} {C : World → Prop} {ops : Array Oper} {rest : List Oper} {o : Oper} {a : Act} {K : Act → Prop} (hw : Region.wanted o (yielded ops a.tmps) = false) (h : wpQuiet P ops C K rest (a.put o.dst undef)) : wpQuiet P ops C K (o :: rest) a := by
  unfold wpQuiet
  rw [if_neg (by rw [hw]; exact Bool.false_ne_true)]
  exact h
theorem dmove {P : Program} {C : World → Prop} {ops : Array Oper} {rest : List Oper} {o : Oper} {a : Act} {K : Act → Prop} (x : Operand) (v : Value) (ho : o.op = .move x) (hw : Region.wanted o (yielded ops a.tmps) = true) (hx : a.eval x = v) (h : wpQuiet P ops C K rest (a.put o.dst v)) : wpQuiet P ops C K (o :: rest) a := by
  unfold wpQuiet
  rw [if_pos hw]
  refine ⟨v, ?_, h⟩
  intro w _
  unfold Oper.quietAt execOp
  simp only [ho, hx, Sem.run_bind, Result.andThen_ok, Sem.run_pure, Oper.quietUpon]
  exact ⟨trivial, trivial⟩
def fewD (d : DecR) : Bool := decide (d.to.length ≤ 10) && (decide (d.text.size ≤ 5000) && decide (d.actor.size + d.object.size ≤ 200))
def fewL (l : List DecR) : Bool := decide (l.length ≤ 14) && l.all fewD
theorem all_next35 (l : List DecR) (j : Nat) (h : j < l.length) (h0 : (l.take j).all fewD = true) (h1 : fewD l[j] = true) : (l.take (j + 1)).all fewD = true := by
  rw [List.take_succ_eq_append_getElem h, List.all_append, h0]
  simp [h1]
theorem all_no35 (l : List DecR) (j : Nat) (h : j < l.length) (h1 : fewD l[j] = false) : l.all fewD = false := by
  rw [List.all_eq_false]
  exact ⟨_, List.getElem_mem h, by simp [h1]⟩
theorem few_ways (d : DecR) : (fewD d = false ∧ decide ((10 : Int) < (d.to.length : Int)) = true) ∨ (fewD d = false ∧ decide ((10 : Int) < (d.to.length : Int)) = false ∧ decide ((5000 : Int) < (d.text.size : Int)) = true) ∨
    (fewD d = false ∧ decide ((10 : Int) < (d.to.length : Int)) = false ∧ decide ((5000 : Int) < (d.text.size : Int)) = false ∧ decide ((200 : Int) < (d.actor.size : Int) + (d.object.size : Int)) = true) ∨
    (fewD d = true ∧ decide ((10 : Int) < (d.to.length : Int)) = false ∧ decide ((5000 : Int) < (d.text.size : Int)) = false ∧ decide ((200 : Int) < (d.actor.size : Int) + (d.object.size : Int)) = false) := by
  unfold fewD
  by_cases h1 : d.to.length ≤ 10
  · by_cases h2 : d.text.size ≤ 5000
    · by_cases h3 : d.actor.size + d.object.size ≤ 200
      · exact .inr (.inr (.inr ⟨by simp [h1, h2, h3], decide_eq_false (by omega), decide_eq_false (by omega), decide_eq_false (by omega)⟩))
      · exact .inr (.inr (.inl ⟨by simp [h3], decide_eq_false (by omega), decide_eq_false (by omega), decide_eq_true (by omega)⟩))
    · exact .inr (.inl ⟨by simp [h2], decide_eq_false (by omega), decide_eq_true (by omega)⟩)
  · exact .inl ⟨by simp [h1], decide_eq_true (by omega)⟩
set_option maxRecDepth 100000 in
set_option maxHeartbeats 8000000 in
theorem few35_any (A : Option Addr) (c : Nat) (l : List DecR) (w : World) (hR : RowsAt w A 12 DecR.cells l) (hb : ∀ d ∈ l, d.actor.size ≤ 140737488355328 ∧ d.object.size ≤ 140737488355328) (hlm : l.length ≤ maxLen) :
    Calls Tryz.prog 5 #[.slice A l.length c] w fun e w' => e = .returned (.bool (fewL l)) ∧ Q w w' := by
  have hmx : maxLen = 9223372036854775807 := by decide
  by_cases h14 : l.length ≤ 14
  rotate_left
  · have HE := Lib.hid (show fewL l = false by unfold fewL; rw [decide_eq_false h14]; rfl)
    generalize fewL l = fl at *
    generalize l.length = nl at *
    have d0 : decide ((14 : Int) < (nl : Int)) = true := decide_eq_true (by omega)
    go_enter Tryz.func5, Tryz.ntmps5
    go_wp2_with fail
    go_ret
    exact ⟨by rw [HE.out]; rfl, Q.refl _⟩
  have HL : ∀ b, l.all fewD = b → fewL l = b := fun b h => by unfold fewL; rw [decide_eq_true h14, h]; rfl
  obtain ⟨x, hx⟩ := Wd.first w
  refine (show Calls Tryz.prog 5 #[.slice A l.length c] x.w _ → _ from fun h => by rwa [← hx] at h) ?_
  clear hx
  generalize hfl : fewL l = fl at *
  generalize hnl : l.length = nl at *
  have d0 : decide ((14 : Int) < (nl : Int)) = false := decide_eq_false (by omega)
  go_enter Tryz.func5, Tryz.ntmps5
  go_wp2_with fail
  go_loopw [3] (fun i wr => ∃ (j : Nat) (z : Wd w), i = .int .i64 j ∧ wr = z.w ∧ j ≤ nl ∧ Hid ((l.take j).all fewD = true)) (fun i _ => nl - (intOf i).toNat)
  case atStart => exact ⟨0, x, rfl, rfl, Nat.zero_le _, Lib.hid rfl⟩
  case round =>
    obtain ⟨j, z, rfl, rfl, hj, hall⟩ := hrel
    by_cases hlt : j < nl
    · have hltL : j < l.length := by omega
      have hltI : (j : Int) < (nl : Int) := by omega
      have hjI : (0 : Int) ≤ (j : Int) := by omega
      obtain ⟨b, o, eA, hb0, hcs⟩ := hR (by omega)
      have hcj := hcs j hltL
      have c6 := Wd.get hb0 hcj 6 (v := .slice l[j].toA l[j].to.length l[j].toC) rfl
      have c5 := Wd.get hb0 hcj 5 (v := .string l[j].text) rfl
      have c3 := Wd.get hb0 hcj 3 (v := .string l[j].actor) rfl
      have c4 := Wd.get hb0 hcj 4 (v := .string l[j].object) rfl
      have hbd := hb _ (List.getElem_mem hltL)
      have hways := few_ways l[j]
      have HN := Lib.hid (all_next35 l j hltL hall.out)
      have HO := Lib.hid (all_no35 l j hltL)
      clear hcs hcj hall hb hR
      subst eA
      generalize l[j] = d at *
      rcases hways with ⟨HB, h1⟩ | ⟨HB, h1, h2⟩ | ⟨HB, h1, h2, h3⟩ | ⟨HB, h1, h2, h3⟩
      · have HE : Hid (fl = false) := Lib.hid (HL _ (HO.out HB))
        clear HN HO HB HL
        go_upto_region 6 with (fail)
        refine wp_region_wd z (by kernel_rfl) (by kernel_rfl) ?_
        iterate 7 (go_big_quiet_step (fail))
        with_reducible refine dmove (.tmp 19) (.bool true) (by kernel_rfl) (by kernel_rfl) (by kernel_rfl) ?_
        dsimp only [Act.put]
        simp only [List.setIfInBounds_toArray, List.set_cons_succ, List.set_cons_zero]
        iterate 7 (with_reducible refine dskip (by kernel_rfl) ?_; dsimp only [Act.put]; simp only [List.setIfInBounds_toArray, List.set_cons_succ, List.set_cons_zero])
        iterate 1 (go_big_quiet_step (fail))
        with_reducible refine dmove (.tmp 28) (.bool true) (by kernel_rfl) (by kernel_rfl) (by kernel_rfl) ?_
        dsimp only [Act.put]
        simp only [List.setIfInBounds_toArray, List.set_cons_succ, List.set_cons_zero]
        iterate 14 (with_reducible refine dskip (by kernel_rfl) ?_; dsimp only [Act.put]; simp only [List.setIfInBounds_toArray, List.set_cons_succ, List.set_cons_zero])
        repeat (go_big_quiet_step (fail))
        refine wpQuiet_nil ?_
        rintro w'' ⟨y, rfl⟩
        go_wp2_with fail
        go_ret
        exact ⟨by rw [HE.out]; rfl, y.q⟩
      · have HE : Hid (fl = false) := Lib.hid (HL _ (HO.out HB))
        clear HN HO HB HL
        go_upto_region 6 with (fail)
        refine wp_region_wd z (by kernel_rfl) (by kernel_rfl) ?_
        iterate 16 (go_big_quiet_step (fail))
        with_reducible refine dmove (.tmp 28) (.bool true) (by kernel_rfl) (by kernel_rfl) (by kernel_rfl) ?_
        dsimp only [Act.put]
        simp only [List.setIfInBounds_toArray, List.set_cons_succ, List.set_cons_zero]
        iterate 14 (with_reducible refine dskip (by kernel_rfl) ?_; dsimp only [Act.put]; simp only [List.setIfInBounds_toArray, List.set_cons_succ, List.set_cons_zero])
        repeat (go_big_quiet_step (fail))
        refine wpQuiet_nil ?_
        rintro w'' ⟨y, rfl⟩
        go_wp2_with fail
        go_ret
        exact ⟨by rw [HE.out]; rfl, y.q⟩
      · have HE : Hid (fl = false) := Lib.hid (HL _ (HO.out HB))
        clear HN HO HB HL
        go_upto_region 6 with (fail)
        refine wp_region_wd z (by kernel_rfl) (by kernel_rfl) ?_
        repeat (go_big_quiet_step (fail))
        refine wpQuiet_nil ?_
        rintro w'' ⟨y, rfl⟩
        go_wp2_with fail
        go_ret
        exact ⟨by rw [HE.out]; rfl, y.q⟩
      · have HE := Lib.hid (HN.out HB)
        clear HN HO HB HL
        go_upto_region 6 with (fail)
        refine wp_region_wd z (by kernel_rfl) (by kernel_rfl) ?_
        repeat (go_big_quiet_step (fail))
        refine wpQuiet_nil ?_
        rintro w'' ⟨y, rfl⟩
        go_wp2_with fail
        exact ⟨⟨j + 1, y, by go_num, rfl, by omega, HE⟩, by simp only [intOf]; omega⟩
    · obtain rfl : j = nl := by omega
      have HE : Hid (fl = true) := Lib.hid (HL _ (by have := hall.out; rwa [← hnl, List.take_length] at this))
      have hnl2 : ¬ ((j : Int) < (j : Int)) := by omega
      clear HL hall
      go_wp2_with fail
      go_ret
      exact ⟨by rw [HE.out]; rfl, z.q⟩
end Go.Proofs.YtjfcllanochhmaaGreatDoor.Dec

namespace Go.Proofs.YtjfcllanochhmaaGreatDoor.Dec
open Go.RowKit Grp Mem _root_.Go.Proofs.YtjfcllanochhmaaGreatDoor.Code Sha Sign _root_.Go.Proofs.YtjfcllanochhmaaGreatDoor.Item _root_.Go.Proofs.YtjfcllanochhmaaGreatDoor.Known

def smAc : ByteArray := ⟨#[48, 49, 50, 51, 52, 53, 54, 55, 56, 57, 97, 98, 99, 100, 101, 102]⟩
def smDS : ByteArray := ⟨#[219, 124, 156, 205, 150, 174, 220, 172, 181, 57, 194, 225, 251, 52, 141, 130, 186, 163, 53, 176, 119, 111, 6, 67, 159, 217, 186, 39, 225, 240, 100, 195]⟩
def smDU : ByteArray := ⟨#[192, 46, 11, 50, 35, 129, 83, 24, 137, 100, 252, 255, 79, 218, 200, 155, 186, 38, 247, 246, 45, 6, 57, 144, 72, 96, 174, 241, 73, 59, 58, 207]⟩
/-- A trust of the actor until 10. -/
def smd0 : DecR := ⟨0, 0, 6, smAc, emptyT, emptyT, [], none, 0, 0, 0, 10, 0, 0⟩
/-- Its undoing from 5 until 8. -/
def smu0 : DecR := ⟨0, 1, 5, emptyT, smDS, emptyT, [], none, 0, 0, 5, 8, 0, 0⟩
def smS : DecR := ⟨0, 0, 6, smAc, emptyT, emptyT, [], none, 0, 0, 0, 10, 128022132173032321, 1608187927183916359⟩
def smU : DecR := ⟨0, 1, 5, emptyT, smDS, emptyT, [], none, 0, 0, 5, 8, 2107290388992210874, 1169192077769715495⟩
theorem sm35_k0 : key35 0 = (2294642438699981438, 2157308772217080613) := by decide +kernel
theorem sm35_sS : sigOf (2294642438699981438, 2157308772217080613) (messageB (itDec smd0)) = (128022132173032321, 1608187927183916359) := by decide +kernel
theorem sm35_sU : sigOf (2294642438699981438, 2157308772217080613) (messageB (itDec smu0)) = (2107290388992210874, 1169192077769715495) := by decide +kernel
theorem sm35_S : sgn35 smd0 = smS := by
  unfold sgn35
  rw [show srv3 smd0 = smd0 from rfl, show (smd0.server % 3).toNat = 0 from rfl, sm35_k0]
  unfold signDec
  rw [sm35_sS]
  rfl
theorem sm35_U : sgn35 smu0 = smU := by
  unfold sgn35
  rw [show srv3 smu0 = smu0 from rfl, show (smu0.server % 3).toNat = 0 from rfl, sm35_k0]
  unfold signDec
  rw [sm35_sU]
  rfl
theorem sm35_dS : digOf (itDec smS) = smDS := by decide +kernel
theorem sm35_dU : digOf (itDec smU) = smDU := by decide +kernel
theorem sm35_gS : signedB pubs35 (itDec smS) = true := by decide +kernel
theorem sm35_gU : signedB pubs35 (itDec smU) = true := by decide +kernel
theorem sm35_fit0 : Fit smd0 := ⟨⟨fun h => absurd h (by decide), fun h => absurd h (by decide), fun _ _ => by decide⟩, by decide, by decide⟩
theorem sm35_fitu : Fit smu0 := ⟨⟨fun h => absurd h (by decide), fun h => absurd h (by decide), fun _ _ => by decide⟩, by decide, by decide⟩

/-! ### The two sets -/
theorem addK_ok35 {sv : List Int} {l : List ItemR} {x : ItemR} (h1 : signedB sv x = true) (h2 : hasD l (digOf x) = false) : addK sv l x = insK l x := by
  unfold addK addOk
  rw [h1, h2]
  rfl
theorem addOk_ok35 {sv : List Int} {l : List ItemR} {x : ItemR} (h1 : signedB sv x = true) (h2 : hasD l (digOf x) = false) : addOk sv l x = true := by
  unfold addOk
  rw [h1, h2]
  rfl
theorem right_signed35 {sv : List Int} {x : ItemR} (h : signedB sv x = true) : itemRight x = true := by
  unfold signedB at h
  rw [Bool.and_eq_true] at h
  exact h.1
variable (SA : Option Addr) (sc : Nat) (UA : Option Addr) (uc : Nat)
def smIS : ItemR := itDec (DecR.to' smS SA sc)
def smIU : ItemR := itDec (DecR.to' smU UA uc)
theorem smIS_dig : digOf (smIS SA sc) = smDS := sm35_dS
theorem smIU_dig : digOf (smIU UA uc) = smDU := sm35_dU
theorem smIS_sg : signedB pubs35 (smIS SA sc) = true := sm35_gS
theorem smIU_sg : signedB pubs35 (smIU UA uc) = true := sm35_gU
theorem sm35_ok1 : addOk pubs35 [] (smIS SA sc) = true := addOk_ok35 (smIS_sg _ _) rfl
theorem sm35_add1 : addK pubs35 [] (smIS SA sc) = [smIS SA sc] := by
  rw [addK_ok35 (smIS_sg _ _) rfl]
  rfl
theorem sm35_hasU : hasD [smIS SA sc] (digOf (smIU UA uc)) = false := by
  unfold hasD digs
  rw [smIU_dig, List.map_singleton, smIS_dig]
  decide +kernel
theorem sm35_ok2 : addOk pubs35 [smIS SA sc] (smIU UA uc) = true := addOk_ok35 (smIU_sg _ _) (sm35_hasU _ _ _ _)
theorem sm35_add2 : addK pubs35 [smIS SA sc] (smIU UA uc) = [smIU UA uc, smIS SA sc] := by
  rw [addK_ok35 (smIU_sg _ _) (sm35_hasU _ _ _ _)]
  unfold insK digs
  rw [smIU_dig, List.map_singleton, smIS_dig, show cutK smDU [smDS] = 0 from by decide +kernel]
  rfl
theorem listDe_one (key : Int) (x : ItemR) (h : wantDe key x = true) (hr : itemRight x = true) : listDe key [x] = [x.dec] := by
  have h1 := listDe_mem key [x]
  have hl : (listDe key [x]).length = 1 := by
    unfold listDe
    rw [List.length_map, sortDe_length]
    unfold takeDe
    rw [List.filter_cons_of_pos (by rw [h, hr]; rfl)]
    rfl
  obtain ⟨a, ha⟩ := List.length_eq_one_iff.1 hl
  have := (h1 x.dec).2 ⟨x, by simp, ⟨h, hr⟩, rfl⟩
  rw [ha, List.mem_singleton] at this
  rw [ha, this]
theorem listDe_two (key : Int) (x y : ItemR) (hx : wantDe key x = true) (hy : wantDe key y = true) (rx : itemRight x = true) (ry : itemRight y = true) (hn : x.dec.number < y.dec.number) : listDe key [y, x] = [x.dec, y.dec] := by
  have h1 := listDe_mem key [y, x]
  have hl : (listDe key [y, x]).length = 2 := by
    unfold listDe
    rw [List.length_map, sortDe_length]
    unfold takeDe
    rw [List.filter_cons_of_pos (by rw [hy, ry]; rfl), List.filter_cons_of_pos (by rw [hx, rx]; rfl)]
    rfl
  have ha := listDe_asc key [y, x]
  obtain ⟨a, b, hab⟩ : ∃ a b, listDe key [y, x] = [a, b] := by
    rcases hL : listDe key [y, x] with _ | ⟨a, _ | ⟨b, _ | ⟨c, r⟩⟩⟩
    · rw [hL] at hl; simp at hl
    · rw [hL] at hl; simp at hl
    · exact ⟨a, b, rfl⟩
    · rw [hL] at hl; simp at hl
  have m1 := (h1 x.dec).2 ⟨x, by simp, ⟨hx, rx⟩, rfl⟩
  have m2 := (h1 y.dec).2 ⟨y, by simp, ⟨hy, ry⟩, rfl⟩
  rw [hab] at m1 m2 ha ⊢
  have hle : a.number ≤ b.number := by simpa using ha
  simp only [List.mem_cons, List.not_mem_nil, or_false] at m1 m2
  rcases m1 with m1 | m1 <;> rcases m2 with m2 | m2
  · rw [m1, m2] at hn; omega
  · rw [m1, m2]
  · rw [← m1, ← m2] at hle; omega
  · rw [m1, m2] at hn; omega
theorem sm35_v1 : validK pubs35 (listDe 0 [smIS SA sc]) = [smS] := by
  rw [listDe_one 0 _ rfl (right_signed35 (smIS_sg SA sc))]
  unfold validK
  rw [List.foldl_cons, List.foldl_nil]
  unfold validStep
  rw [show signedB pubs35 (itDec (smIS SA sc).dec) = true from smIS_sg SA sc]
  rfl
theorem sm35_v2 : validK pubs35 (listDe 0 [smIU UA uc, smIS SA sc]) = [smS, smU] := by
  rw [listDe_two 0 (smIS SA sc) (smIU UA uc) rfl rfl (right_signed35 (smIS_sg SA sc)) (right_signed35 (smIU_sg UA uc)) (by show (0 : Int) < 1; decide)]
  unfold validK
  rw [List.foldl_cons, List.foldl_cons, List.foldl_nil]
  rw [show validStep pubs35 [] (smIS SA sc).dec = [smS] from by
    unfold validStep
    rw [show signedB pubs35 (itDec (smIS SA sc).dec) = true from smIS_sg SA sc]
    rfl]
  unfold validStep
  rw [show signedB pubs35 (itDec (smIU UA uc).dec) = true from smIU_sg UA uc]
  rfl

/-! ### What is in force -/
theorem sm35_f9 : forceK 9 [smS] = [smS] := by rfl
theorem sm35_f10 : forceK 10 [smS] = [] := by rfl
theorem sm35_f5 : forceK 5 [smS, smU] = [smU] := by
  unfold forceK
  rw [show curL 5 [smS, smU] = [smS, smU] from rfl, show undL [smS, smU] = [smDS] from rfl]
  have h1 : keepB [smDS] smS = false := by
    unfold keepB
    rw [sm35_dS]
    decide +kernel
  have h2 : keepB [smDS] smU = true := rfl
  rw [List.filter_cons_of_neg (by rw [h1]; simp), List.filter_cons_of_pos h2]
  rfl
theorem sm35_f8 : forceK 8 [smS, smU] = [smS] := by rfl
theorem comp_nil : Lib.compact (sortS []) = [] := List.eq_nil_of_length_eq_zero (Nat.le_zero.1 (Nat.le_trans (compactS_len _) (by rw [sortS_len]; exact Nat.le_refl _)))
theorem comp_one (x : List UInt8) : Lib.compact (sortS [x]) = [x] := by
  rw [show sortS [x] = [x] from List.mergeSort_singleton x]
  rfl
theorem sm35_aS : actorsK 6 [smS] = [smAc] := by
  unfold actorsK
  rw [show (([smS].filter fun d => decide (d.kind = 6)).map (·.actor)).map toB = [toB smAc] from rfl, comp_one]
  rfl
theorem sm35_aU : actorsK 6 [smU] = [] := by
  unfold actorsK
  rw [show (([smU].filter fun d => decide (d.kind = 6)).map (·.actor)).map toB = [] from rfl, comp_nil]
  rfl
theorem sm35_a0 : actorsK 6 [] = [] := by
  unfold actorsK
  rw [show ((([] : List DecR).filter fun d => decide (d.kind = 6)).map (·.actor)).map toB = [] from rfl, comp_nil]
  rfl
theorem sm35_src : sourceK [smU] = emptyT := by rfl
theorem sm35_one : (actorsK 6 (forceK 9 (validK pubs35 (listDe 0 [smIS SA sc])))).length = 1 := by rw [sm35_v1, sm35_f9, sm35_aS]; rfl
theorem sm35_two : (actorsK 6 (forceK 10 (validK pubs35 (listDe 0 [smIS SA sc])))).length = 0 := by rw [sm35_v1, sm35_f10, sm35_a0]; rfl
theorem sm35_three : (actorsK 6 (forceK 5 (validK pubs35 (listDe 0 [smIU UA uc, smIS SA sc])))).length = 0 := by rw [sm35_v2, sm35_f5, sm35_aU]; rfl
theorem sm35_four : (actorsK 6 (forceK 8 (validK pubs35 (listDe 0 [smIU UA uc, smIS SA sc])))).length = 1 := by rw [sm35_v2, sm35_f8, sm35_aS]; rfl
theorem sm35_source : sourceK (forceK 5 (validK pubs35 (listDe 0 [smIU UA uc, smIS SA sc]))) = emptyT := by rw [sm35_v2, sm35_f5, sm35_src]
end Go.Proofs.YtjfcllanochhmaaGreatDoor.Dec

namespace Go.Proofs.YtjfcllanochhmaaGreatDoor.Dec
open Go.RowKit Grp Mem _root_.Go.Proofs.YtjfcllanochhmaaGreatDoor.Code Sha Sign _root_.Go.Proofs.YtjfcllanochhmaaGreatDoor.Item _root_.Go.Proofs.YtjfcllanochhmaaGreatDoor.Known

theorem alloc_known35 (w : World) : (Instr.alloc 28 true (.tuple #[])).run Tryz.prog w = .ok (.pointer (some ⟨w.heap.size, 0, none⟩)) (w.alloc (.cells (knA known0) 28)) := by kernel_rfl
theorem build_smd0 (w : World) : (Instr.build 45 #[(2, .int .i64 6), (3, .string ⟨#[48, 49, 50, 51, 52, 53, 54, 55, 56, 57, 97, 98, 99, 100, 101, 102]⟩), (9, .int .i64 10)]).run Tryz.prog w = .ok (.agg (decA smd0)) w := by kernel_rfl
theorem build_smu0 (w : World) : (Instr.build 45 #[(1, .int .i64 1), (2, .int .i64 5), (4, .string smDS), (8, .int .i64 5), (9, .int .i64 8)]).run Tryz.prog w = .ok (.agg (decA smu0)) w := by kernel_rfl
theorem sm_in (w : World) (d : DecR) (h : d.to = []) (hc : d.toC = 0) : DecIn w d := by
  refine ⟨fun h0 => ?_, ?_⟩
  · rw [h] at h0
    simp at h0
  · rw [h, hc]
    exact ⟨Nat.le_refl _, Nat.zero_le _⟩
theorem sS_any (w : World) (hT : Tab w) : Calls Tryz.prog 15 #[.agg (decA smd0)] w fun e w' => ∃ TA tc, e = .returned (.agg (itA (smIS TA tc))) ∧ ItemIn w' (smIS TA tc) ∧ Q w w' := by
  have h := signed35_any smd0 w hT (sm_in w smd0 rfl rfl) sm35_fit0
  rw [sm35_S] at h
  refine h.mono ?_
  rintro e w' ⟨TA, tc, rfl, hR, h1, h2, hq⟩
  exact ⟨TA, tc, rfl, ⟨act0_in w', dec_in hR h1 h2⟩, hq⟩
theorem sU_any (w : World) (hT : Tab w) : Calls Tryz.prog 15 #[.agg (decA smu0)] w fun e w' => ∃ TA tc, e = .returned (.agg (itA (smIU TA tc))) ∧ ItemIn w' (smIU TA tc) ∧ Q w w' := by
  have h := signed35_any smu0 w hT (sm_in w smu0 rfl rfl) sm35_fitu
  rw [sm35_U] at h
  refine h.mono ?_
  rintro e w' ⟨TA, tc, rfl, hR, h1, h2, hq⟩
  exact ⟨TA, tc, rfl, ⟨act0_in w', dec_in hR h1 h2⟩, hq⟩
theorem dS_any (TA : Option Addr) (tc : Nat) (w : World) (hT : Tab w) (hI : ItemIn w (smIS TA tc)) : Calls Tryz.prog 17 #[.agg (itA (smIS TA tc))] w fun e w' => e = .returned (.string smDS) ∧ Q w w' := by
  have h := digest_any (smIS TA tc) w hT hI
  rwa [smIS_dig] at h
theorem add1_any (k : KR) (TA : Option Addr) (tc : Nat) (w : World) (hT : Tab w) (hK : KIn w k) (hI : ItemIn w (smIS TA tc)) (hs : k.sv = pubs35) (hl : k.l = []) : Calls Tryz.prog 11 #[.agg (knA k), .agg (itA (smIS TA tc))] w fun e w' => ∃ k' : KR, e = .returned (.tuple #[.agg (knA k'), .bool true]) ∧ k'.sv = pubs35 ∧ k'.l = [smIS TA tc] ∧ KIn w' k' ∧ Q w w' := by
  refine (add_any k (smIS TA tc) w hT hK hI (by rw [hl]; decide)).mono ?_
  rintro e w' ⟨k', rfl, h1, h2, h3, hq⟩
  rw [hs, hl] at *
  rw [sm35_add1] at h2
  rw [sm35_ok1]
  exact ⟨k', rfl, h1, h2, h3, hq⟩
theorem add2_any (k : KR) (TA : Option Addr) (tc : Nat) (UA : Option Addr) (uc : Nat) (w : World) (hT : Tab w) (hK : KIn w k) (hI : ItemIn w (smIU UA uc)) (hs : k.sv = pubs35) (hl : k.l = [smIS TA tc]) : Calls Tryz.prog 11 #[.agg (knA k), .agg (itA (smIU UA uc))] w fun e w' => ∃ k' : KR, e = .returned (.tuple #[.agg (knA k'), .bool true]) ∧ k'.sv = pubs35 ∧ k'.l = [smIU UA uc, smIS TA tc] ∧ KIn w' k' ∧ Q w w' := by
  refine (add_any k (smIU UA uc) w hT hK hI (by rw [hl]; simp)).mono ?_
  rintro e w' ⟨k', rfl, h1, h2, h3, hq⟩
  rw [hs, hl] at *
  rw [sm35_add2] at h2
  rw [sm35_ok2]
  exact ⟨k', rfl, h1, h2, h3, hq⟩
theorem tr_any (k : KR) (now : Int) (n : Nat) (l : List ItemR) (w : World) (hT : Tab w) (hK : KIn w k) (hs : k.sv = pubs35) (hl : k.l = l) (h20 : l.length ≤ 20) (hn : (actorsK 6 (forceK now (validK pubs35 (listDe 0 l)))).length = n) : Calls Tryz.prog 16 #[.agg (knA k), .int .i64 0, .int .i64 now] w fun e w' => (∃ A c, e = .returned (.slice A n c)) ∧ Q w w' := by
  refine (trusted_any k 0 now w hT hK (by rw [hl]; exact h20)).mono ?_
  rintro e w' ⟨A, c, he, -, -, -, hq⟩
  rw [hs, hl, hn] at he
  exact ⟨⟨A, c, he⟩, hq⟩
theorem va_any (k : KR) (TA : Option Addr) (tc : Nat) (UA : Option Addr) (uc : Nat) (w : World) (hT : Tab w) (hK : KIn w k) (hs : k.sv = pubs35) (hl : k.l = [smIU UA uc, smIS TA tc]) : Calls Tryz.prog 18 #[.agg (knA k), .int .i64 0] w fun e w' => (∃ A c, e = .returned (.slice A 2 c)) ∧ Q w w' := by
  refine (valid35_any k 0 w hT hK (by rw [hl]; simp)).mono ?_
  rintro e w' ⟨A, c, l, rfl, -, -, h1, -, -, hq⟩
  rw [hs, hl, sm35_v2] at h1
  have h2 : l.length = 2 := by
    have := congrArg List.length h1
    rw [List.length_map] at this
    exact this
  rw [h2]
  exact ⟨⟨A, c, rfl⟩, hq⟩
theorem so_any (k : KR) (TA : Option Addr) (tc : Nat) (UA : Option Addr) (uc : Nat) (w : World) (hT : Tab w) (hK : KIn w k) (hs : k.sv = pubs35) (hl : k.l = [smIU UA uc, smIS TA tc]) : Calls Tryz.prog 19 #[.agg (knA k), .int .i64 0, .int .i64 5] w fun e w' => e = .returned (.string ⟨#[]⟩) ∧ Q w w' := by
  refine (source_any k 0 5 w hT hK (by rw [hl]; simp)).mono ?_
  rintro e w' ⟨he, hq⟩
  rw [hs, hl, sm35_source] at he
  exact ⟨he, hq⟩

set_option maxRecDepth 100000 in
set_option maxHeartbeats 8000000 in
theorem small35_any (w : World) (hT : Tab w) : Calls Tryz.prog 4 #[] w fun e w' => e = .returned (.bool true) ∧ Q w w' := by
  go_enter Tryz.func4, Tryz.ntmps4
  go_upto_region 2 with (first | (refine wpList_build_run 45 _ #[(2, .int .i64 6), (3, .string ⟨#[48, 49, 50, 51, 52, 53, 54, 55, 56, 57, 97, 98, 99, 100, 101, 102]⟩), (9, .int .i64 10)] (.agg (decA smd0)) rfl rfl (by simp only [List.map_toArray, List.map_cons, List.map_nil]; rfl) (build_smd0 _) ?_) | (refine wpList_store_blk (Blk.new w 45 dec0.cells.toArray) rfl 45 (.tmp 1) (.tmp 10) smd0.cells rfl rfl rfl (by kernel_rfl) (dec_all _) (Nat.le_refl 12) ?_))
  intro W1 hW1 hbel1
  rw [splice_all _ _ (by rfl)] at hW1
  have hq1 : Q w W1 := hbel1 _ _ (Nat.le_refl _) (q_new _ _ _)
  clear hbel1
  obtain ⟨g1, hg1⟩ : ∃ g1, w.heap.size = g1 := ⟨_, rfl⟩
  rw [hg1] at hW1
  rw [hg1]
  have hT1 : ∀ y : Wd W1, Tab y.w := fun y => hT.q (Q.trans hq1 y.q)
  have hL1 : ∀ z, (∃ y : Wd W1, z = y.w) → (Instr.loadAt 45 (.pointer (some ⟨g1, 0, none⟩))).run Tryz.prog z = .ok (.agg (decA smd0)) z := by
    rintro z ⟨y, rfl⟩
    exact Wd.load hW1.lt (Blk.range hW1) Tryz.underlying45 rfl (by kernel_rfl) y
  have hp3 : pubs35.length = 3 := rfl
  go_upto_region 2 with (fail)
  rename_i K2 hK2
  have REST2 : ∀ (g2 : Nat) (k2 : KR) (TA : Option Addr) (tc : Nat) (v12 v13 v15 : Value) (w2 : World), Q W1 w2 → W1.heap.size ≤ g2 → Blk w2 g2 28 k2.cells.toArray → KIn w2 k2 → k2.sv = pubs35 → k2.l = [smIS TA tc] → K2 { tmps := #[.bool false, .pointer (some ⟨g1, 0, none⟩), .pointer (some ⟨g2, 0, none⟩), .bool true, undef, undef, undef, undef, undef, undef, .agg (decA smd0), .tuple #[.agg (knA k2), .bool true], v12, v13, .agg (decA smd0), v15, .tuple #[.agg (knA k2), .bool true], .agg (knA k2), .bool true, undef, undef, undef, undef, undef, undef, undef, undef, undef, undef, undef, undef, undef, undef, undef, undef, undef, undef, undef, undef, undef, undef, undef, undef, undef, undef, undef, undef, undef, undef, undef, undef, undef, undef, undef, undef, undef, undef, undef, undef, undef, undef, undef, undef, undef, undef, undef, undef, undef, undef, undef, undef, undef, undef], defers := [] } w2 := by
    intro g2 k2 TA tc v12 v13 v15 w2 hq2 hgle2 hb2 hk2 hs2 hl2
    refine hK2 _ _ ?_
    clear hK2
    dsimp only
    have hT2 : ∀ y : Wd w2, Tab y.w := fun y => hT1 ⟨y.w, Q.trans hq2 y.q⟩
    have hL2 : ∀ y : Wd w2, (Instr.loadAt 45 (.pointer (some ⟨g1, 0, none⟩))).run Tryz.prog y.w = .ok (.agg (decA smd0)) y.w := fun y => hL1 _ ⟨⟨y.w, Q.trans hq2 y.q⟩, rfl⟩
    have hLk2 : ∀ y : Wd w2, (Instr.loadAt 28 (.pointer (some ⟨g2, 0, none⟩))).run Tryz.prog y.w = .ok (.agg (knA k2)) y.w := Wd.load hb2.lt (Blk.range hb2) Tryz.underlying28 rfl (by kernel_rfl)
    have h9 := fun y : Wd w2 => tr_any k2 9 1 _ y.w (hT2 y) (hk2.q y.q) hs2 hl2 (by simp) (sm35_one TA tc)
    have h10 := fun y : Wd w2 => tr_any k2 10 0 _ y.w (hT2 y) (hk2.q y.q) hs2 hl2 (by simp) (sm35_two TA tc)
    have hS2 := fun y : Wd w2 => sS_any y.w (hT2 y)
    have HQ2 := Lib.hid (Q.trans hq1 hq2)
    have hw2 := hq2.size
    have hw1 := hq1.size
    have hgw := hW1.lt
    clear hL1 hT1 hW1
    obtain ⟨v2, hv2⟩ := Wd.first w2
    rw [hv2]
    clear hv2
    go_upto_region 6 with (first | (refine wpList_load_run 28 (.tmp 2) (.pointer (some ⟨g2, 0, none⟩)) (.agg (knA k2)) ?_ ?_ ?_ ?_ ?_; rfl; rfl; rfl; exact hLk2 _) | (refine wpList_load_run 45 (.tmp 1) (.pointer (some ⟨g1, 0, none⟩)) (.agg (decA smd0)) ?_ ?_ ?_ ?_ ?_; rfl; rfl; rfl; exact hL2 _) | (go_at_call 16; (first | (with_reducible refine (h9 _).mono ?_; rintro e w' ⟨⟨AT9, cT9, rfl⟩, hq⟩) | (with_reducible refine (h10 _).mono ?_; rintro e w' ⟨⟨AT10, cT10, rfl⟩, hq⟩)); obtain ⟨y, rfl⟩ := Wd.next _ hq; clear hq) | (go_at_call 15; refine (hS2 _).mono ?_; rintro e w' ⟨SB, sb, rfl, hIS, hq⟩; obtain ⟨y, rfl⟩ := Wd.next _ hq; clear hq; have hDg := dS_any SB sb y.w (hT2 y) hIS) | (go_at_call 17; refine hDg.mono ?_; rintro e w' ⟨rfl, hq⟩; obtain ⟨y9, rfl⟩ := Wd.next _ hq; clear hq) | (refine wpList_build_run 45 _ #[(1, .int .i64 1), (2, .int .i64 5), (4, .string smDS), (8, .int .i64 5), (9, .int .i64 8)] (.agg (decA smu0)) rfl rfl (by simp only [List.map_toArray, List.map_cons, List.map_nil]; rfl) (build_smu0 _) ?_) | (refine wpList_store_blk (Blk.new y9.w 45 dec0.cells.toArray) rfl 45 (.tmp 6) (.tmp 26) smu0.cells rfl rfl rfl (by kernel_rfl) (dec_all _) (Nat.le_refl 12) ?_))
    intro W5 hW5 hbel5
    rw [splice_all _ _ (by rfl)] at hW5
    have hq5 : Q w2 W5 := hbel5 _ _ y9.q.size (Q.trans y9.q (q_new _ _ _))
    have hg6 : w2.heap.size ≤ y9.w.heap.size := y9.q.size
    have hlt2 := hb2.lt
    have hne6 : y9.w.heap.size ≠ g2 := by omega
    have hlt6 := hW5.lt
    have hT5 : ∀ y : Wd W5, Tab y.w := fun y => hT2 ⟨y.w, Q.trans hq5 y.q⟩
    have hB5 := hb2.q hq5
    have hK5 := hk2.q hq5
    have hLk5 : ∀ y : Wd W5, (Instr.loadAt 28 (.pointer (some ⟨g2, 0, none⟩))).run Tryz.prog y.w = .ok (.agg (knA k2)) y.w := Wd.load hB5.lt (Blk.range hB5) Tryz.underlying28 rfl (by kernel_rfl)
    have hL6 : ∀ z, Kp g2 W5 z → (Instr.loadAt 45 (.pointer (some ⟨y9.w.heap.size, 0, none⟩))).run Tryz.prog z = .ok (.agg (decA smu0)) z := fun z hz => by
      have hbz : Blk z y9.w.heap.size 45 smu0.cells.toArray := (hz.block _ hlt6 hne6).trans hW5
      exact Wd.load hbz.lt (Blk.range hbz) Tryz.underlying45 rfl (by kernel_rfl) ⟨z, Q.refl z⟩
    have hS5 := fun y : Wd W5 => sU_any y.w (hT5 y)
    have HQ5 := Lib.hid (Q.trans HQ2.out hq5)
    clear hbel5 hW5 h9 h10 hS2 hL2 hLk2 hT2 hDg hIS
    generalize y9.w.heap.size = g6 at *
    clear y9 y v2
    go_upto_region 6 with (fail)
    rename_i K6 hK6

    have REST6 : ∀ (k3 : KR) (UA : Option Addr) (uc : Nat) (v1 v6 v10 v11 v12 v13 v14 v15 v16 v17 v18 v19 v20 v21 v22 v23 v24 v25 v26 v27 v28 v29 v30 v31 v32 v33 : Value) (w6 : World), Q w w6 → Blk w6 g2 28 k3.cells.toArray → KIn w6 k3 → k3.sv = pubs35 → k3.l = [smIU UA uc, smIS TA tc] → K6 { tmps := #[.bool false, v1, .pointer (some ⟨g2, 0, none⟩), .bool true, .slice AT9 1 cT9, .slice AT10 0 cT10, v6, .bool true, undef, undef, v10, v11, v12, v13, v14, v15, v16, v17, v18, v19, v20, v21, v22, v23, v24, v25, v26, v27, v28, v29, v30, v31, v32, v33, undef, undef, undef, undef, undef, undef, undef, undef, undef, undef, undef, undef, undef, undef, undef, undef, undef, undef, undef, undef, undef, undef, undef, undef, undef, undef, undef, undef, undef, undef, undef, undef, undef, undef, undef, undef, undef, undef, undef], defers := [] } w6 := by
      intro k3 UA uc v1 v6 v10 v11 v12 v13 v14 v15 v16 v17 v18 v19 v20 v21 v22 v23 v24 v25 v26 v27 v28 v29 v30 v31 v32 v33 w6 hq6 hb6 hk6 hs6 hl6
      refine hK6 _ _ ?_
      clear hK6
      dsimp only
      have hT6 : ∀ y : Wd w6, Tab y.w := fun y => hT.q (Q.trans hq6 y.q)
      have hLk6 : ∀ y : Wd w6, (Instr.loadAt 28 (.pointer (some ⟨g2, 0, none⟩))).run Tryz.prog y.w = .ok (.agg (knA k3)) y.w := Wd.load hb6.lt (Blk.range hb6) Tryz.underlying28 rfl (by kernel_rfl)
      have h5 := fun y : Wd w6 => tr_any k3 5 0 _ y.w (hT6 y) (hk6.q y.q) hs6 hl6 (by simp) (sm35_three TA tc UA uc)
      have h8 := fun y : Wd w6 => tr_any k3 8 1 _ y.w (hT6 y) (hk6.q y.q) hs6 hl6 (by simp) (sm35_four TA tc UA uc)
      have hva := fun y : Wd w6 => va_any k3 TA tc UA uc y.w (hT6 y) (hk6.q y.q) hs6 hl6
      have hso := fun y : Wd w6 => so_any k3 TA tc UA uc y.w (hT6 y) (hk6.q y.q) hs6 hl6
      have HQ6 := Lib.hid hq6
      obtain ⟨v6', hv6⟩ := Wd.first w6
      rw [hv6]
      clear hv6 hL6 hS5 hLk5
      go_wp2_with (first | (refine wpList_load_run 28 (.tmp 2) (.pointer (some ⟨g2, 0, none⟩)) (.agg (knA k3)) ?_ ?_ ?_ ?_ ?_; rfl; rfl; rfl; exact hLk6 _) | (go_at_call 16; (first | (with_reducible refine (h5 _).mono ?_; rintro e w' ⟨⟨AT5, cT5, rfl⟩, hq⟩) | (with_reducible refine (h8 _).mono ?_; rintro e w' ⟨⟨AT8, cT8, rfl⟩, hq⟩)); obtain ⟨y, rfl⟩ := Wd.next _ hq; clear hq) | (go_at_call 18; refine (hva _).mono ?_; rintro e w' ⟨⟨AV, cV, rfl⟩, hq⟩; obtain ⟨y, rfl⟩ := Wd.next _ hq; clear hq) | (go_at_call 19; refine (hso _).mono ?_; rintro e w' ⟨rfl, hq⟩; obtain ⟨y7, rfl⟩ := Wd.next _ hq; clear hq))
      go_ret
      exact ⟨rfl, Q.trans HQ6.out y7.q⟩
    refine region_H (fun z => Kp g2 W5 z) (by kernel_rfl) ?_
    have hqd : Q W5 W5.drew := (Q.refl _).drew
    have hz0 : Kp g2 W5 W5.drew := Kp.of_q hqd
    refine held_read 1 (v := .agg (decA smu0)) rfl (by kernel_rfl) (by kernel_rfl) (by kernel_rfl) (by intro c a d v w h; cases d <;> exact h) rfl hz0 (fun z hz => exec_load 45 (.tmp 6) _ _ rfl rfl (hL6 z hz)) ?_
    try simp only [Act.put, List.setIfInBounds_toArray, List.set_cons_succ, List.set_cons_zero]
    refine held_fork 0 2 rfl rfl (by kernel_rfl) rfl rfl (fun K' hK' => ?_) (fun K' hK' => ?_)
    · refine wp_read_run (v := .agg (knA k2)) (exec_load 28 (.tmp 2) _ _ rfl rfl (hLk5 (⟨W5.drew, hqd⟩ : Wd W5))) ?_
      refine hK' _ _ hz0 ?_
      clear hK' K'
      try simp only [Act.put, List.setIfInBounds_toArray, List.set_cons_succ, List.set_cons_zero]
      refine held_one 2 rfl (by kernel_rfl) rfl (fun K' hK' => ?_)
      go_simp
      refine (hS5 (⟨W5.drew, hqd⟩ : Wd W5)).mono ?_
      rintro e w5' ⟨UA, uc, rfl, hIU, q5⟩
      have hq5w : Q W5 w5' := Q.trans (Wd.q (⟨W5.drew, hqd⟩ : Wd W5)) q5
      have hz5 : Kp g2 W5 w5' := Kp.of_q hq5w
      refine hK' _ _ hz5 ?_
      clear hK' K'
      try simp only [Act.put, List.setIfInBounds_toArray, List.set_cons_succ, List.set_cons_zero]
      refine held_one 3 rfl (by kernel_rfl) rfl (fun K' hK' => ?_)
      go_simp
      refine (add2_any k2 TA tc UA uc w5' (hT5 ⟨w5', hq5w⟩) (hK5.q hq5w) hIU hs2 hl2).mono ?_
      rintro e w6 ⟨k3, rfl, hks3, hkl3, hKk3, q6⟩
      have hq6w : Q W5 w6 := Q.trans hq5w q6
      have hz6 : Kp g2 W5 w6 := Kp.of_q hq6w
      refine hK' _ _ hz6 ?_
      clear hK' K'
      try simp only [Act.put, List.setIfInBounds_toArray, List.set_cons_succ, List.set_cons_zero]
      refine held_pure 4 (v := .tuple #[.agg (knA k3), .bool true]) rfl (by kernel_rfl) (by kernel_rfl) (by kernel_rfl) (by intro c a d v w h; cases d <;> exact h) rfl hz6 (fun w => by rfl) ?_
      try simp only [Act.put, List.setIfInBounds_toArray, List.set_cons_succ, List.set_cons_zero]
      refine held_pure 5 (v := .agg (knA k3)) rfl (by kernel_rfl) (by kernel_rfl) (by kernel_rfl) (by intro c a d v w h; cases d <;> exact h) rfl hz6 (fun w => by rfl) ?_
      try simp only [Act.put, List.setIfInBounds_toArray, List.set_cons_succ, List.set_cons_zero]
      refine held_pure 6 (v := .bool true) rfl (by kernel_rfl) (by kernel_rfl) (by kernel_rfl) (by intro c a d v w h; cases d <;> exact h) rfl hz6 (fun w => by rfl) ?_
      try simp only [Act.put, List.setIfInBounds_toArray, List.set_cons_succ, List.set_cons_zero]
      refine held_one 7 rfl (by kernel_rfl) rfl (fun K' hK' => ?_)
      have hb6 := hB5.q hq6w
      refine wp_store_mid 28 (.tmp 2) (.tmp 32) rfl g2 0 k3.cells.toArray rfl rfl (by simpa using hb6.there (Nat.le_refl 2)) (by kernel_rfl) (kn_all _) ?_
      have hfar := fun b (hne : b ≠ g2) => setCells_far (g := g2) hne k3.cells 0 w6
      have hsz : w6.heap.size ≤ (w6.setCells g2 0 k3.cells).heap.size := (below_setCells (Nat.le_refl _) k3.cells 0 w6 w6 (Below.refl g2 w6)).size
      have hz7 : Kp g2 W5 (w6.setCells g2 0 k3.cells) := hz6.trans ⟨hsz, fun b _ hne => hfar b hne⟩
      have hsc : Blk (w6.setCells g2 0 k3.cells) g2 28 k3.cells.toArray := by
        have := Blk.setCells k3.cells 0 _ w6 hb6 (Nat.le_refl 2)
        rwa [splice_all _ _ (by rfl)] at this
      have hqs : Q w (w6.setCells g2 0 k3.cells) := below_setCells (by omega) k3.cells 0 w w6 (Q.trans HQ5.out hq6w)
      have hside : _root_.Go.Proofs.YtjfcllanochhmaaGreatDoor.Known.Aside w6 (w6.setCells g2 0 k3.cells) g2 := ⟨known_only35 hb6, hfar, hsz⟩
      have hK3 := hside.known hKk3
      refine hK' _ _ hz7 ?_
      clear hK' K'
      try simp only [Act.put, List.setIfInBounds_toArray, List.set_cons_succ, List.set_cons_zero]
      refine held_pure 8 (v := .bool true) rfl (by kernel_rfl) (by kernel_rfl) (by kernel_rfl) (by intro c a d v w h; cases d <;> exact h) rfl hz7 (fun w => by rfl) ?_
      try simp only [Act.put, List.setIfInBounds_toArray, List.set_cons_succ, List.set_cons_zero]
      refine wpAnyH_done (by kernel_rfl) ?_ _
      exact REST6 k3 UA uc _ _ _ _ _ _ _ _ _ _ _ _ _ _ _ _ _ _ _ _ _ _ _ _ _ _ _ hqs hsc hK3 hks3 hkl3
    · go_simp
      refine (hS5 (⟨W5.drew, hqd⟩ : Wd W5)).mono ?_
      rintro e w5' ⟨UA, uc, rfl, hIU, q5⟩
      have hq5w : Q W5 w5' := Q.trans (Wd.q (⟨W5.drew, hqd⟩ : Wd W5)) q5
      have hz5 : Kp g2 W5 w5' := Kp.of_q hq5w
      refine hK' _ _ hz5 ?_
      clear hK' K'
      try simp only [Act.put, List.setIfInBounds_toArray, List.set_cons_succ, List.set_cons_zero]
      refine held_one 0 rfl (by kernel_rfl) rfl (fun K' hK' => ?_)
      refine wp_read_run (v := .agg (knA k2)) (exec_load 28 (.tmp 2) _ _ rfl rfl (hLk5 (⟨w5', hq5w⟩ : Wd W5))) ?_
      refine hK' _ _ hz5 ?_
      clear hK' K'
      try simp only [Act.put, List.setIfInBounds_toArray, List.set_cons_succ, List.set_cons_zero]
      refine held_one 3 rfl (by kernel_rfl) rfl (fun K' hK' => ?_)
      go_simp
      refine (add2_any k2 TA tc UA uc w5' (hT5 ⟨w5', hq5w⟩) (hK5.q hq5w) hIU hs2 hl2).mono ?_
      rintro e w6 ⟨k3, rfl, hks3, hkl3, hKk3, q6⟩
      have hq6w : Q W5 w6 := Q.trans hq5w q6
      have hz6 : Kp g2 W5 w6 := Kp.of_q hq6w
      refine hK' _ _ hz6 ?_
      clear hK' K'
      try simp only [Act.put, List.setIfInBounds_toArray, List.set_cons_succ, List.set_cons_zero]
      refine held_pure 4 (v := .tuple #[.agg (knA k3), .bool true]) rfl (by kernel_rfl) (by kernel_rfl) (by kernel_rfl) (by intro c a d v w h; cases d <;> exact h) rfl hz6 (fun w => by rfl) ?_
      try simp only [Act.put, List.setIfInBounds_toArray, List.set_cons_succ, List.set_cons_zero]
      refine held_pure 5 (v := .agg (knA k3)) rfl (by kernel_rfl) (by kernel_rfl) (by kernel_rfl) (by intro c a d v w h; cases d <;> exact h) rfl hz6 (fun w => by rfl) ?_
      try simp only [Act.put, List.setIfInBounds_toArray, List.set_cons_succ, List.set_cons_zero]
      refine held_pure 6 (v := .bool true) rfl (by kernel_rfl) (by kernel_rfl) (by kernel_rfl) (by intro c a d v w h; cases d <;> exact h) rfl hz6 (fun w => by rfl) ?_
      try simp only [Act.put, List.setIfInBounds_toArray, List.set_cons_succ, List.set_cons_zero]
      refine held_one 7 rfl (by kernel_rfl) rfl (fun K' hK' => ?_)
      have hb6 := hB5.q hq6w
      refine wp_store_mid 28 (.tmp 2) (.tmp 32) rfl g2 0 k3.cells.toArray rfl rfl (by simpa using hb6.there (Nat.le_refl 2)) (by kernel_rfl) (kn_all _) ?_
      have hfar := fun b (hne : b ≠ g2) => setCells_far (g := g2) hne k3.cells 0 w6
      have hsz : w6.heap.size ≤ (w6.setCells g2 0 k3.cells).heap.size := (below_setCells (Nat.le_refl _) k3.cells 0 w6 w6 (Below.refl g2 w6)).size
      have hz7 : Kp g2 W5 (w6.setCells g2 0 k3.cells) := hz6.trans ⟨hsz, fun b _ hne => hfar b hne⟩
      have hsc : Blk (w6.setCells g2 0 k3.cells) g2 28 k3.cells.toArray := by
        have := Blk.setCells k3.cells 0 _ w6 hb6 (Nat.le_refl 2)
        rwa [splice_all _ _ (by rfl)] at this
      have hqs : Q w (w6.setCells g2 0 k3.cells) := below_setCells (by omega) k3.cells 0 w w6 (Q.trans HQ5.out hq6w)
      have hside : _root_.Go.Proofs.YtjfcllanochhmaaGreatDoor.Known.Aside w6 (w6.setCells g2 0 k3.cells) g2 := ⟨known_only35 hb6, hfar, hsz⟩
      have hK3 := hside.known hKk3
      refine hK' _ _ hz7 ?_
      clear hK' K'
      try simp only [Act.put, List.setIfInBounds_toArray, List.set_cons_succ, List.set_cons_zero]
      refine held_pure 8 (v := .bool true) rfl (by kernel_rfl) (by kernel_rfl) (by kernel_rfl) (by intro c a d v w h; cases d <;> exact h) rfl hz7 (fun w => by rfl) ?_
      try simp only [Act.put, List.setIfInBounds_toArray, List.set_cons_succ, List.set_cons_zero]
      refine wpAnyH_done (by kernel_rfl) ?_ _
      exact REST6 k3 UA uc _ _ _ _ _ _ _ _ _ _ _ _ _ _ _ _ _ _ _ _ _ _ _ _ _ _ _ hqs hsc hK3 hks3 hkl3
  refine wp_region_S (fun z => ∃ y : Wd W1, z = y.w) (by kernel_rfl) ⟨⟨_, (Q.refl W1).drew⟩, rfl⟩ ?_
  rintro _ ⟨y0, rfl⟩
  refine held_read 2 (v := .agg (decA smd0)) rfl (by kernel_rfl) (by kernel_rfl) (by kernel_rfl) (by intro c a d v w h; cases d <;> exact h) rfl ⟨_, rfl⟩ (fun z hz => exec_load 45 (.tmp 1) _ _ rfl rfl (hL1 z hz)) ?_
  try simp only [Act.put, List.setIfInBounds_toArray, List.set_cons_succ, List.set_cons_zero]
  refine held_fork 0 8 rfl rfl (by kernel_rfl) rfl rfl (fun K' hK' => ?_) (fun K' hK' => ?_)
  · go_simp
    refine (pubs35_any y0.w (hT1 y0)).mono ?_
    rintro e w' ⟨A3, c3, rfl, hI3, hq⟩
    obtain ⟨y1, rfl⟩ := Wd.next y0 hq
    refine hK' _ _ ⟨y1, rfl⟩ ?_
    clear hK' K' hq
    try simp only [Act.put, List.setIfInBounds_toArray, List.set_cons_succ, List.set_cons_zero]
    refine held_fork 1 8 rfl rfl (by kernel_rfl) rfl rfl (fun K' hK' => ?_) (fun K' hK' => ?_)
    · go_simp
      have hnew := new_any A3 c3 pubs35 y1.w hI3 (by rw [hp3]; omega)
      rw [hp3] at hnew
      refine hnew.mono ?_
      clear hnew
      rintro e w' ⟨k1, rfl, hks1, hkl1, hKk, hq⟩
      have hI3 := hI3.q hq
      obtain ⟨y2, rfl⟩ := Wd.next y1 hq
      refine hK' _ _ ⟨y2, rfl⟩ ?_
      clear hK' K' hq
      try simp only [Act.put, List.setIfInBounds_toArray, List.set_cons_succ, List.set_cons_zero]
      refine held_fork 3 8 rfl rfl (by kernel_rfl) rfl rfl (fun K' hK' => ?_) (fun K' hK' => ?_)
      · go_simp
        refine (sS_any y2.w (hT1 y2)).mono ?_
        rintro e w' ⟨TA, tc, rfl, hIS, hq⟩
        have hI3 := hI3.q hq
        have hKk := hKk.q hq
        obtain ⟨y3, rfl⟩ := Wd.next y2 hq
        refine hK' _ _ ⟨y3, rfl⟩ ?_
        clear hK' K' hq
        try simp only [Act.put, List.setIfInBounds_toArray, List.set_cons_succ, List.set_cons_zero]
        refine held_fork 4 8 rfl rfl (by kernel_rfl) rfl rfl (fun K' hK' => ?_) (fun K' hK' => ?_)
        · go_simp
          refine (add1_any k1 TA tc y3.w (hT1 y3) hKk hIS hks1 hkl1).mono ?_
          rintro e w' ⟨k2, rfl, hks2, hkl2, hKk2, hq⟩
          have hI3 := hI3.q hq
          have hKk := hKk.q hq
          have hIS := hIS.q hq
          obtain ⟨y4, rfl⟩ := Wd.next y3 hq
          refine hK' _ _ ⟨y4, rfl⟩ ?_
          clear hK' K' hq
          try simp only [Act.put, List.setIfInBounds_toArray, List.set_cons_succ, List.set_cons_zero]
          refine held_pure 5 (v := .tuple #[.agg (knA k2), .bool true]) rfl (by kernel_rfl) (by kernel_rfl) (by kernel_rfl) (by intro c a d v w h; cases d <;> exact h) rfl ⟨_, rfl⟩ (fun w => by rfl) ?_
          try simp only [Act.put, List.setIfInBounds_toArray, List.set_cons_succ, List.set_cons_zero]
          refine held_pure 6 (v := .agg (knA k2)) rfl (by kernel_rfl) (by kernel_rfl) (by kernel_rfl) (by intro c a d v w h; cases d <;> exact h) rfl ⟨_, rfl⟩ (fun w => by rfl) ?_
          try simp only [Act.put, List.setIfInBounds_toArray, List.set_cons_succ, List.set_cons_zero]
          refine held_pure 7 (v := .bool true) rfl (by kernel_rfl) (by kernel_rfl) (by kernel_rfl) (by intro c a d v w h; cases d <;> exact h) rfl ⟨_, rfl⟩ (fun w => by rfl) ?_
          try simp only [Act.put, List.setIfInBounds_toArray, List.set_cons_succ, List.set_cons_zero]
          refine held_one 8 rfl (by kernel_rfl) rfl (fun K' hK' => ?_)
          have hI3 := hI3.q (q_new y4.w (knA known0) 28)
          have hKk := hKk.q (q_new y4.w (knA known0) 28)
          have hIS := hIS.q (q_new y4.w (knA known0) 28)
          have hKk2 := hKk2.q (q_new y4.w (knA known0) 28)
          refine wp_alloc_run 28 _ rfl (alloc_known35 _) ?_
          have hbg := Blk.new y4.w 28 (knA known0)
          have hgn := y4.q.size
          obtain ⟨y5, hy2⟩ := Wd.next y4 (q_new y4.w (knA known0) 28)
          rw [hy2] at hbg hI3 hKk hIS hKk2
          rw [hy2]
          obtain ⟨g, hg⟩ : ∃ g, y4.w.heap.size = g := ⟨_, rfl⟩
          rw [hg] at hbg hgn
          refine hK' _ _ ⟨y5, rfl⟩ ?_
          clear hK' K' hy2
          try simp only [Act.put, List.setIfInBounds_toArray, List.set_cons_succ, List.set_cons_zero]
          rw [hg]
          clear hg
          refine held_one 9 rfl (by kernel_rfl) rfl (fun K' hK' => ?_)
          refine wp_store_mid 28 (.tmp 2) (.tmp 17) rfl g 0 (knA k2) rfl rfl (show y5.w.there g 0 2 by simpa using hbg.there (n := 2) (Nat.le_refl 2)) (by kernel_rfl) (kn_all _) ?_
          have hqs : Q W1 (y5.w.setCells g 0 k2.cells) := below_setCells hgn k2.cells 0 W1 y5.w y5.q
          have hsc : Blk (y5.w.setCells g 0 k2.cells) g 28 k2.cells.toArray := by
            have := Blk.setCells k2.cells 0 _ y5.w hbg (Nat.le_refl 2)
            rwa [splice_all _ _ (by rfl)] at this
          refine hK' _ _ ⟨⟨_, hqs⟩, rfl⟩ ?_
          clear hK' K'
          try simp only [Act.put, List.setIfInBounds_toArray, List.set_cons_succ, List.set_cons_zero]
          have hfar := fun b (hne : b ≠ g) => setCells_far (g := g) hne k2.cells 0 y5.w
          have hside : _root_.Go.Proofs.YtjfcllanochhmaaGreatDoor.Known.Aside y5.w (y5.w.setCells g 0 k2.cells) g := ⟨known_only35 hbg, hfar, (below_setCells (Nat.le_refl _) k2.cells 0 y5.w y5.w (Below.refl g y5.w)).size⟩
          have hK3 := hside.known hKk2
          refine held_pure 10 (v := .bool true) rfl (by kernel_rfl) (by kernel_rfl) (by kernel_rfl) (by intro c a d v w h; cases d <;> exact h) rfl ⟨⟨_, hqs⟩, rfl⟩ (fun w => by rfl) ?_
          try simp only [Act.put, List.setIfInBounds_toArray, List.set_cons_succ, List.set_cons_zero]
          refine wpAnyH_done (by kernel_rfl) ?_ _
          exact REST2 g k2 TA tc _ _ _ _ hqs hgn hsc hK3 hks2 hkl2
        · have hI3 := hI3.q (q_new y3.w (knA known0) 28)
          have hKk := hKk.q (q_new y3.w (knA known0) 28)
          have hIS := hIS.q (q_new y3.w (knA known0) 28)
          refine wp_alloc_run 28 _ rfl (alloc_known35 _) ?_
          have hbg := Blk.new y3.w 28 (knA known0)
          have hgn := y3.q.size
          obtain ⟨y4, hy2⟩ := Wd.next y3 (q_new y3.w (knA known0) 28)
          rw [hy2] at hbg hI3 hKk hIS
          rw [hy2]
          obtain ⟨g, hg⟩ : ∃ g, y3.w.heap.size = g := ⟨_, rfl⟩
          rw [hg] at hbg hgn
          refine hK' _ _ ⟨y4, rfl⟩ ?_
          clear hK' K' hy2
          try simp only [Act.put, List.setIfInBounds_toArray, List.set_cons_succ, List.set_cons_zero]
          rw [hg]
          clear hg
          refine held_one 4 rfl (by kernel_rfl) rfl (fun K' hK' => ?_)
          go_simp
          refine (add1_any k1 TA tc y4.w (hT1 y4) hKk hIS hks1 hkl1).mono ?_
          rintro e w' ⟨k2, rfl, hks2, hkl2, hKk2, hq⟩
          have hI3 := hI3.q hq
          have hKk := hKk.q hq
          have hIS := hIS.q hq
          have hbg := hbg.q hq
          obtain ⟨y5, rfl⟩ := Wd.next y4 hq
          refine hK' _ _ ⟨y5, rfl⟩ ?_
          clear hK' K' hq
          try simp only [Act.put, List.setIfInBounds_toArray, List.set_cons_succ, List.set_cons_zero]
          refine held_pure 5 (v := .tuple #[.agg (knA k2), .bool true]) rfl (by kernel_rfl) (by kernel_rfl) (by kernel_rfl) (by intro c a d v w h; cases d <;> exact h) rfl ⟨_, rfl⟩ (fun w => by rfl) ?_
          try simp only [Act.put, List.setIfInBounds_toArray, List.set_cons_succ, List.set_cons_zero]
          refine held_pure 6 (v := .agg (knA k2)) rfl (by kernel_rfl) (by kernel_rfl) (by kernel_rfl) (by intro c a d v w h; cases d <;> exact h) rfl ⟨_, rfl⟩ (fun w => by rfl) ?_
          try simp only [Act.put, List.setIfInBounds_toArray, List.set_cons_succ, List.set_cons_zero]
          refine held_pure 7 (v := .bool true) rfl (by kernel_rfl) (by kernel_rfl) (by kernel_rfl) (by intro c a d v w h; cases d <;> exact h) rfl ⟨_, rfl⟩ (fun w => by rfl) ?_
          try simp only [Act.put, List.setIfInBounds_toArray, List.set_cons_succ, List.set_cons_zero]
          refine held_one 9 rfl (by kernel_rfl) rfl (fun K' hK' => ?_)
          refine wp_store_mid 28 (.tmp 2) (.tmp 17) rfl g 0 (knA k2) rfl rfl (show y5.w.there g 0 2 by simpa using hbg.there (n := 2) (Nat.le_refl 2)) (by kernel_rfl) (kn_all _) ?_
          have hqs : Q W1 (y5.w.setCells g 0 k2.cells) := below_setCells hgn k2.cells 0 W1 y5.w y5.q
          have hsc : Blk (y5.w.setCells g 0 k2.cells) g 28 k2.cells.toArray := by
            have := Blk.setCells k2.cells 0 _ y5.w hbg (Nat.le_refl 2)
            rwa [splice_all _ _ (by rfl)] at this
          refine hK' _ _ ⟨⟨_, hqs⟩, rfl⟩ ?_
          clear hK' K'
          try simp only [Act.put, List.setIfInBounds_toArray, List.set_cons_succ, List.set_cons_zero]
          have hfar := fun b (hne : b ≠ g) => setCells_far (g := g) hne k2.cells 0 y5.w
          have hside : _root_.Go.Proofs.YtjfcllanochhmaaGreatDoor.Known.Aside y5.w (y5.w.setCells g 0 k2.cells) g := ⟨known_only35 hbg, hfar, (below_setCells (Nat.le_refl _) k2.cells 0 y5.w y5.w (Below.refl g y5.w)).size⟩
          have hK3 := hside.known hKk2
          refine held_pure 10 (v := .bool true) rfl (by kernel_rfl) (by kernel_rfl) (by kernel_rfl) (by intro c a d v w h; cases d <;> exact h) rfl ⟨⟨_, hqs⟩, rfl⟩ (fun w => by rfl) ?_
          try simp only [Act.put, List.setIfInBounds_toArray, List.set_cons_succ, List.set_cons_zero]
          refine wpAnyH_done (by kernel_rfl) ?_ _
          exact REST2 g k2 TA tc _ _ _ _ hqs hgn hsc hK3 hks2 hkl2
      · have hI3 := hI3.q (q_new y2.w (knA known0) 28)
        have hKk := hKk.q (q_new y2.w (knA known0) 28)
        refine wp_alloc_run 28 _ rfl (alloc_known35 _) ?_
        have hbg := Blk.new y2.w 28 (knA known0)
        have hgn := y2.q.size
        obtain ⟨y3, hy2⟩ := Wd.next y2 (q_new y2.w (knA known0) 28)
        rw [hy2] at hbg hI3 hKk
        rw [hy2]
        obtain ⟨g, hg⟩ : ∃ g, y2.w.heap.size = g := ⟨_, rfl⟩
        rw [hg] at hbg hgn
        refine hK' _ _ ⟨y3, rfl⟩ ?_
        clear hK' K' hy2
        try simp only [Act.put, List.setIfInBounds_toArray, List.set_cons_succ, List.set_cons_zero]
        rw [hg]
        clear hg
        refine held_one 3 rfl (by kernel_rfl) rfl (fun K' hK' => ?_)
        go_simp
        refine (sS_any y3.w (hT1 y3)).mono ?_
        rintro e w' ⟨TA, tc, rfl, hIS, hq⟩
        have hI3 := hI3.q hq
        have hKk := hKk.q hq
        have hbg := hbg.q hq
        obtain ⟨y4, rfl⟩ := Wd.next y3 hq
        refine hK' _ _ ⟨y4, rfl⟩ ?_
        clear hK' K' hq
        try simp only [Act.put, List.setIfInBounds_toArray, List.set_cons_succ, List.set_cons_zero]
        refine held_one 4 rfl (by kernel_rfl) rfl (fun K' hK' => ?_)
        go_simp
        refine (add1_any k1 TA tc y4.w (hT1 y4) hKk hIS hks1 hkl1).mono ?_
        rintro e w' ⟨k2, rfl, hks2, hkl2, hKk2, hq⟩
        have hI3 := hI3.q hq
        have hKk := hKk.q hq
        have hIS := hIS.q hq
        have hbg := hbg.q hq
        obtain ⟨y5, rfl⟩ := Wd.next y4 hq
        refine hK' _ _ ⟨y5, rfl⟩ ?_
        clear hK' K' hq
        try simp only [Act.put, List.setIfInBounds_toArray, List.set_cons_succ, List.set_cons_zero]
        refine held_pure 5 (v := .tuple #[.agg (knA k2), .bool true]) rfl (by kernel_rfl) (by kernel_rfl) (by kernel_rfl) (by intro c a d v w h; cases d <;> exact h) rfl ⟨_, rfl⟩ (fun w => by rfl) ?_
        try simp only [Act.put, List.setIfInBounds_toArray, List.set_cons_succ, List.set_cons_zero]
        refine held_pure 6 (v := .agg (knA k2)) rfl (by kernel_rfl) (by kernel_rfl) (by kernel_rfl) (by intro c a d v w h; cases d <;> exact h) rfl ⟨_, rfl⟩ (fun w => by rfl) ?_
        try simp only [Act.put, List.setIfInBounds_toArray, List.set_cons_succ, List.set_cons_zero]
        refine held_pure 7 (v := .bool true) rfl (by kernel_rfl) (by kernel_rfl) (by kernel_rfl) (by intro c a d v w h; cases d <;> exact h) rfl ⟨_, rfl⟩ (fun w => by rfl) ?_
        try simp only [Act.put, List.setIfInBounds_toArray, List.set_cons_succ, List.set_cons_zero]
        refine held_one 9 rfl (by kernel_rfl) rfl (fun K' hK' => ?_)
        refine wp_store_mid 28 (.tmp 2) (.tmp 17) rfl g 0 (knA k2) rfl rfl (show y5.w.there g 0 2 by simpa using hbg.there (n := 2) (Nat.le_refl 2)) (by kernel_rfl) (kn_all _) ?_
        have hqs : Q W1 (y5.w.setCells g 0 k2.cells) := below_setCells hgn k2.cells 0 W1 y5.w y5.q
        have hsc : Blk (y5.w.setCells g 0 k2.cells) g 28 k2.cells.toArray := by
          have := Blk.setCells k2.cells 0 _ y5.w hbg (Nat.le_refl 2)
          rwa [splice_all _ _ (by rfl)] at this
        refine hK' _ _ ⟨⟨_, hqs⟩, rfl⟩ ?_
        clear hK' K'
        try simp only [Act.put, List.setIfInBounds_toArray, List.set_cons_succ, List.set_cons_zero]
        have hfar := fun b (hne : b ≠ g) => setCells_far (g := g) hne k2.cells 0 y5.w
        have hside : _root_.Go.Proofs.YtjfcllanochhmaaGreatDoor.Known.Aside y5.w (y5.w.setCells g 0 k2.cells) g := ⟨known_only35 hbg, hfar, (below_setCells (Nat.le_refl _) k2.cells 0 y5.w y5.w (Below.refl g y5.w)).size⟩
        have hK3 := hside.known hKk2
        refine held_pure 10 (v := .bool true) rfl (by kernel_rfl) (by kernel_rfl) (by kernel_rfl) (by intro c a d v w h; cases d <;> exact h) rfl ⟨⟨_, hqs⟩, rfl⟩ (fun w => by rfl) ?_
        try simp only [Act.put, List.setIfInBounds_toArray, List.set_cons_succ, List.set_cons_zero]
        refine wpAnyH_done (by kernel_rfl) ?_ _
        exact REST2 g k2 TA tc _ _ _ _ hqs hgn hsc hK3 hks2 hkl2
    · have hI3 := hI3.q (q_new y1.w (knA known0) 28)
      refine wp_alloc_run 28 _ rfl (alloc_known35 _) ?_
      have hbg := Blk.new y1.w 28 (knA known0)
      have hgn := y1.q.size
      obtain ⟨y2, hy2⟩ := Wd.next y1 (q_new y1.w (knA known0) 28)
      rw [hy2] at hbg hI3
      rw [hy2]
      obtain ⟨g, hg⟩ : ∃ g, y1.w.heap.size = g := ⟨_, rfl⟩
      rw [hg] at hbg hgn
      refine hK' _ _ ⟨y2, rfl⟩ ?_
      clear hK' K' hy2
      try simp only [Act.put, List.setIfInBounds_toArray, List.set_cons_succ, List.set_cons_zero]
      rw [hg]
      clear hg
      refine held_one 1 rfl (by kernel_rfl) rfl (fun K' hK' => ?_)
      go_simp
      have hnew := new_any A3 c3 pubs35 y2.w hI3 (by rw [hp3]; omega)
      rw [hp3] at hnew
      refine hnew.mono ?_
      clear hnew
      rintro e w' ⟨k1, rfl, hks1, hkl1, hKk, hq⟩
      have hI3 := hI3.q hq
      have hbg := hbg.q hq
      obtain ⟨y3, rfl⟩ := Wd.next y2 hq
      refine hK' _ _ ⟨y3, rfl⟩ ?_
      clear hK' K' hq
      try simp only [Act.put, List.setIfInBounds_toArray, List.set_cons_succ, List.set_cons_zero]
      refine held_one 3 rfl (by kernel_rfl) rfl (fun K' hK' => ?_)
      go_simp
      refine (sS_any y3.w (hT1 y3)).mono ?_
      rintro e w' ⟨TA, tc, rfl, hIS, hq⟩
      have hI3 := hI3.q hq
      have hKk := hKk.q hq
      have hbg := hbg.q hq
      obtain ⟨y4, rfl⟩ := Wd.next y3 hq
      refine hK' _ _ ⟨y4, rfl⟩ ?_
      clear hK' K' hq
      try simp only [Act.put, List.setIfInBounds_toArray, List.set_cons_succ, List.set_cons_zero]
      refine held_one 4 rfl (by kernel_rfl) rfl (fun K' hK' => ?_)
      go_simp
      refine (add1_any k1 TA tc y4.w (hT1 y4) hKk hIS hks1 hkl1).mono ?_
      rintro e w' ⟨k2, rfl, hks2, hkl2, hKk2, hq⟩
      have hI3 := hI3.q hq
      have hKk := hKk.q hq
      have hIS := hIS.q hq
      have hbg := hbg.q hq
      obtain ⟨y5, rfl⟩ := Wd.next y4 hq
      refine hK' _ _ ⟨y5, rfl⟩ ?_
      clear hK' K' hq
      try simp only [Act.put, List.setIfInBounds_toArray, List.set_cons_succ, List.set_cons_zero]
      refine held_pure 5 (v := .tuple #[.agg (knA k2), .bool true]) rfl (by kernel_rfl) (by kernel_rfl) (by kernel_rfl) (by intro c a d v w h; cases d <;> exact h) rfl ⟨_, rfl⟩ (fun w => by rfl) ?_
      try simp only [Act.put, List.setIfInBounds_toArray, List.set_cons_succ, List.set_cons_zero]
      refine held_pure 6 (v := .agg (knA k2)) rfl (by kernel_rfl) (by kernel_rfl) (by kernel_rfl) (by intro c a d v w h; cases d <;> exact h) rfl ⟨_, rfl⟩ (fun w => by rfl) ?_
      try simp only [Act.put, List.setIfInBounds_toArray, List.set_cons_succ, List.set_cons_zero]
      refine held_pure 7 (v := .bool true) rfl (by kernel_rfl) (by kernel_rfl) (by kernel_rfl) (by intro c a d v w h; cases d <;> exact h) rfl ⟨_, rfl⟩ (fun w => by rfl) ?_
      try simp only [Act.put, List.setIfInBounds_toArray, List.set_cons_succ, List.set_cons_zero]
      refine held_one 9 rfl (by kernel_rfl) rfl (fun K' hK' => ?_)
      refine wp_store_mid 28 (.tmp 2) (.tmp 17) rfl g 0 (knA k2) rfl rfl (show y5.w.there g 0 2 by simpa using hbg.there (n := 2) (Nat.le_refl 2)) (by kernel_rfl) (kn_all _) ?_
      have hqs : Q W1 (y5.w.setCells g 0 k2.cells) := below_setCells hgn k2.cells 0 W1 y5.w y5.q
      have hsc : Blk (y5.w.setCells g 0 k2.cells) g 28 k2.cells.toArray := by
        have := Blk.setCells k2.cells 0 _ y5.w hbg (Nat.le_refl 2)
        rwa [splice_all _ _ (by rfl)] at this
      refine hK' _ _ ⟨⟨_, hqs⟩, rfl⟩ ?_
      clear hK' K'
      try simp only [Act.put, List.setIfInBounds_toArray, List.set_cons_succ, List.set_cons_zero]
      have hfar := fun b (hne : b ≠ g) => setCells_far (g := g) hne k2.cells 0 y5.w
      have hside : _root_.Go.Proofs.YtjfcllanochhmaaGreatDoor.Known.Aside y5.w (y5.w.setCells g 0 k2.cells) g := ⟨known_only35 hbg, hfar, (below_setCells (Nat.le_refl _) k2.cells 0 y5.w y5.w (Below.refl g y5.w)).size⟩
      have hK3 := hside.known hKk2
      refine held_pure 10 (v := .bool true) rfl (by kernel_rfl) (by kernel_rfl) (by kernel_rfl) (by intro c a d v w h; cases d <;> exact h) rfl ⟨⟨_, hqs⟩, rfl⟩ (fun w => by rfl) ?_
      try simp only [Act.put, List.setIfInBounds_toArray, List.set_cons_succ, List.set_cons_zero]
      refine wpAnyH_done (by kernel_rfl) ?_ _
      exact REST2 g k2 TA tc _ _ _ _ hqs hgn hsc hK3 hks2 hkl2
  · refine wp_alloc_run 28 _ rfl (alloc_known35 _) ?_
    have hbg := Blk.new y0.w 28 (knA known0)
    have hgn := y0.q.size
    obtain ⟨y1, hy2⟩ := Wd.next y0 (q_new y0.w (knA known0) 28)
    rw [hy2] at hbg
    rw [hy2]
    obtain ⟨g, hg⟩ : ∃ g, y0.w.heap.size = g := ⟨_, rfl⟩
    rw [hg] at hbg hgn
    refine hK' _ _ ⟨y1, rfl⟩ ?_
    clear hK' K' hy2
    try simp only [Act.put, List.setIfInBounds_toArray, List.set_cons_succ, List.set_cons_zero]
    rw [hg]
    clear hg
    refine held_one 0 rfl (by kernel_rfl) rfl (fun K' hK' => ?_)
    go_simp
    refine (pubs35_any y1.w (hT1 y1)).mono ?_
    rintro e w' ⟨A3, c3, rfl, hI3, hq⟩
    have hbg := hbg.q hq
    obtain ⟨y2, rfl⟩ := Wd.next y1 hq
    refine hK' _ _ ⟨y2, rfl⟩ ?_
    clear hK' K' hq
    try simp only [Act.put, List.setIfInBounds_toArray, List.set_cons_succ, List.set_cons_zero]
    refine held_one 1 rfl (by kernel_rfl) rfl (fun K' hK' => ?_)
    go_simp
    have hnew := new_any A3 c3 pubs35 y2.w hI3 (by rw [hp3]; omega)
    rw [hp3] at hnew
    refine hnew.mono ?_
    clear hnew
    rintro e w' ⟨k1, rfl, hks1, hkl1, hKk, hq⟩
    have hI3 := hI3.q hq
    have hbg := hbg.q hq
    obtain ⟨y3, rfl⟩ := Wd.next y2 hq
    refine hK' _ _ ⟨y3, rfl⟩ ?_
    clear hK' K' hq
    try simp only [Act.put, List.setIfInBounds_toArray, List.set_cons_succ, List.set_cons_zero]
    refine held_one 3 rfl (by kernel_rfl) rfl (fun K' hK' => ?_)
    go_simp
    refine (sS_any y3.w (hT1 y3)).mono ?_
    rintro e w' ⟨TA, tc, rfl, hIS, hq⟩
    have hI3 := hI3.q hq
    have hKk := hKk.q hq
    have hbg := hbg.q hq
    obtain ⟨y4, rfl⟩ := Wd.next y3 hq
    refine hK' _ _ ⟨y4, rfl⟩ ?_
    clear hK' K' hq
    try simp only [Act.put, List.setIfInBounds_toArray, List.set_cons_succ, List.set_cons_zero]
    refine held_one 4 rfl (by kernel_rfl) rfl (fun K' hK' => ?_)
    go_simp
    refine (add1_any k1 TA tc y4.w (hT1 y4) hKk hIS hks1 hkl1).mono ?_
    rintro e w' ⟨k2, rfl, hks2, hkl2, hKk2, hq⟩
    have hI3 := hI3.q hq
    have hKk := hKk.q hq
    have hIS := hIS.q hq
    have hbg := hbg.q hq
    obtain ⟨y5, rfl⟩ := Wd.next y4 hq
    refine hK' _ _ ⟨y5, rfl⟩ ?_
    clear hK' K' hq
    try simp only [Act.put, List.setIfInBounds_toArray, List.set_cons_succ, List.set_cons_zero]
    refine held_pure 5 (v := .tuple #[.agg (knA k2), .bool true]) rfl (by kernel_rfl) (by kernel_rfl) (by kernel_rfl) (by intro c a d v w h; cases d <;> exact h) rfl ⟨_, rfl⟩ (fun w => by rfl) ?_
    try simp only [Act.put, List.setIfInBounds_toArray, List.set_cons_succ, List.set_cons_zero]
    refine held_pure 6 (v := .agg (knA k2)) rfl (by kernel_rfl) (by kernel_rfl) (by kernel_rfl) (by intro c a d v w h; cases d <;> exact h) rfl ⟨_, rfl⟩ (fun w => by rfl) ?_
    try simp only [Act.put, List.setIfInBounds_toArray, List.set_cons_succ, List.set_cons_zero]
    refine held_pure 7 (v := .bool true) rfl (by kernel_rfl) (by kernel_rfl) (by kernel_rfl) (by intro c a d v w h; cases d <;> exact h) rfl ⟨_, rfl⟩ (fun w => by rfl) ?_
    try simp only [Act.put, List.setIfInBounds_toArray, List.set_cons_succ, List.set_cons_zero]
    refine held_one 9 rfl (by kernel_rfl) rfl (fun K' hK' => ?_)
    refine wp_store_mid 28 (.tmp 2) (.tmp 17) rfl g 0 (knA k2) rfl rfl (show y5.w.there g 0 2 by simpa using hbg.there (n := 2) (Nat.le_refl 2)) (by kernel_rfl) (kn_all _) ?_
    have hqs : Q W1 (y5.w.setCells g 0 k2.cells) := below_setCells hgn k2.cells 0 W1 y5.w y5.q
    have hsc : Blk (y5.w.setCells g 0 k2.cells) g 28 k2.cells.toArray := by
      have := Blk.setCells k2.cells 0 _ y5.w hbg (Nat.le_refl 2)
      rwa [splice_all _ _ (by rfl)] at this
    refine hK' _ _ ⟨⟨_, hqs⟩, rfl⟩ ?_
    clear hK' K'
    try simp only [Act.put, List.setIfInBounds_toArray, List.set_cons_succ, List.set_cons_zero]
    have hfar := fun b (hne : b ≠ g) => setCells_far (g := g) hne k2.cells 0 y5.w
    have hside : _root_.Go.Proofs.YtjfcllanochhmaaGreatDoor.Known.Aside y5.w (y5.w.setCells g 0 k2.cells) g := ⟨known_only35 hbg, hfar, (below_setCells (Nat.le_refl _) k2.cells 0 y5.w y5.w (Below.refl g y5.w)).size⟩
    have hK3 := hside.known hKk2
    refine held_pure 10 (v := .bool true) rfl (by kernel_rfl) (by kernel_rfl) (by kernel_rfl) (by intro c a d v w h; cases d <;> exact h) rfl ⟨⟨_, hqs⟩, rfl⟩ (fun w => by rfl) ?_
    try simp only [Act.put, List.setIfInBounds_toArray, List.set_cons_succ, List.set_cons_zero]
    refine wpAnyH_done (by kernel_rfl) ?_ _
    exact REST2 g k2 TA tc _ _ _ _ hqs hgn hsc hK3 hks2 hkl2
end Go.Proofs.YtjfcllanochhmaaGreatDoor.Dec

namespace Go.Proofs.YtjfcllanochhmaaGreatDoor.Dec
open Go.RowKit Grp Mem _root_.Go.Proofs.YtjfcllanochhmaaGreatDoor.Code Sha Sign _root_.Go.Proofs.YtjfcllanochhmaaGreatDoor.Item _root_.Go.Proofs.YtjfcllanochhmaaGreatDoor.Known

theorem few_of {l : List DecR} (h : fewL l = true) : l.length ≤ 14 ∧ ∀ d ∈ l, fewD d = true := by
  unfold fewL at h
  rw [Bool.and_eq_true, decide_eq_true_eq, List.all_eq_true] at h
  exact h
def seenN (n : Int) (l : List DecR) : Bool := l.any fun d => decide (d.number = n)
theorem seenN_step (n : Int) (l : List DecR) (j : Nat) (h : j < l.length) : seenN n (l.take (j + 1)) = (seenN n (l.take j) || decide (l[j].number = n)) := by
  unfold seenN
  rw [List.take_succ_eq_append_getElem h, List.any_append]
  simp
theorem flat_le : ∀ l : List ByteArray, (∀ s ∈ l, s.size ≤ 1048576) → (l.flatMap textL).length ≤ l.length * 1048586
  | [], _ => by simp
  | a :: l, h => by
    have h1 := textL_length a
    have h2 := h a (List.mem_cons_self ..)
    have h3 := flat_le l fun s hs => h s (List.mem_cons_of_mem _ hs)
    rw [List.flatMap_cons, List.length_append, List.length_cons]
    omega
theorem list_le (l : List ByteArray) (h : ∀ s ∈ l, s.size ≤ 1048576) : (listL l).length ≤ 10 + l.length * 1048586 := by
  unfold listL
  have h1 := varint_length l.length
  have h2 := flat_le l h
  rw [List.length_append]
  omega
theorem fit_of (d : DecR) (hf : fewD d = true) (hn : NOk [d.server, d.number, d.kind, d.n, d.start, d.stop, d.e, d.s]) (ht : ∀ s ∈ d.to, s.size ≤ 1048576) : Fit d := by
  unfold fewD at hf
  simp only [Bool.and_eq_true, decide_eq_true_eq] at hf
  obtain ⟨h1, h2, h3⟩ := hf
  have h4 := list_le d.to ht
  have h5 : d.to.length * 1048586 ≤ 10 * 1048586 := Nat.mul_le_mul_right _ h1
  have hs := hn d.server (by simp)
  refine ⟨⟨fun h => (by cases (show (3 : Int) = 1 from h)), fun h => (by cases (show (3 : Int) = 2 from h)), fun _ _ => ⟨?_, ?_, ?_, fun n hm => ?_, ?_, ?_⟩⟩, h1, hs⟩
  · show d.actor.size ≤ 1000000; omega
  · show d.object.size ≤ 1000000; omega
  · show d.text.size ≤ 1000000; omega
  · have hm' : n ∈ [d.server, d.number, d.kind, d.n, d.start, d.stop] := hm
    refine (hn n ?_).2
    simp only [List.mem_cons, List.not_mem_nil, or_false] at hm' ⊢
    rcases hm' with h | h | h | h | h | h <;> simp [h]
  · show (listL d.to).length ≤ 100000000; omega
  · show d.to.length ≤ 1000000; omega
end Go.Proofs.YtjfcllanochhmaaGreatDoor.Dec

namespace Go.Proofs.YtjfcllanochhmaaGreatDoor.Dec
open Go.RowKit Grp Mem _root_.Go.Proofs.YtjfcllanochhmaaGreatDoor.Code Sha Sign _root_.Go.Proofs.YtjfcllanochhmaaGreatDoor.Item _root_.Go.Proofs.YtjfcllanochhmaaGreatDoor.Known

set_option maxRecDepth 100000 in
set_option maxHeartbeats 2000000 in
theorem texts35_any (A B : Option Addr) (c d : Nat) (l : List ByteArray) (w : World) (hA : Strs w A l) (hB : Strs w B l) (hl : l.length ≤ maxLen) :
    Calls Tryz.prog 39 #[.slice A l.length c, .slice B l.length d] w fun e w' => e = .returned (.bool true) ∧ Q w w' := by
  have hmx : maxLen = 9223372036854775807 := by decide
  obtain ⟨x, hx⟩ := Wd.first w
  refine (show Calls Tryz.prog 39 #[.slice A l.length c, .slice B l.length d] x.w _ → _ from fun h => by rwa [← hx] at h) ?_
  clear hx
  generalize hnl : l.length = nl at *
  go_enter Tryz.func39, Tryz.ntmps39
  go_wp2_with fail
  go_loopw [5] (fun i wr => ∃ (j : Nat) (z : Wd w), i = .int .i64 j ∧ wr = z.w ∧ j ≤ nl) (fun i _ => nl - (intOf i).toNat)
  case atStart => exact ⟨0, x, rfl, rfl, Nat.zero_le _⟩
  case round =>
    obtain ⟨j, z, rfl, rfl, hj⟩ := hrel
    by_cases hlt : j < nl
    · have hltL : j < l.length := by omega
      have hltI : (j : Int) < (nl : Int) := by omega
      have hjI : (0 : Int) ≤ (j : Int) := by omega
      obtain ⟨b1, o1, eA, hb1, hc1⟩ := hA (by omega)
      obtain ⟨b2, o2, eB, hb2, hc2⟩ := hB (by omega)
      have u1 : ∀ y : Wd w, y.w.cell? ⟨b1, o1 + j, none⟩ = some (.string l[j]) := fun y => (y.cell hb1).trans (hc1 j hltL)
      have u2 : ∀ y : Wd w, y.w.cell? ⟨b2, o2 + j, none⟩ = some (.string l[j]) := fun y => (y.cell hb2).trans (hc2 j hltL)
      subst eA
      subst eB
      clear hc1 hc2 hA hB
      generalize l[j] = s at *
      go_upto_region 6 with (fail)
      refine wp_region_wd z (by kernel_rfl) (by kernel_rfl) ?_
      repeat (go_big_quiet_step (fail))
      refine wpQuiet_nil ?_
      rintro w'' ⟨y3, rfl⟩
      go_wp2_with fail
      exact ⟨⟨j + 1, y3, by go_num, rfl, by omega⟩, by simp only [intOf]; omega⟩
    · obtain rfl : j = nl := by omega
      have hnl2 : ¬ ((j : Int) < (j : Int)) := by omega
      clear hA hB
      go_wp2_with fail
      go_ret
      exact ⟨rfl, z.q⟩
set_option maxRecDepth 100000 in
theorem item35_any (d : DecR) (w : World) : Calls Tryz.prog 37 #[.agg (decA d)] w fun e w' => e = .returned (.agg (itA (itDec d))) ∧ Q w w' := by
  have hb1 := Blk.new w 45 (decA d)
  have hq1 := q_new w (decA d) 45
  have hbr := Blk.new' (g := w.heap.size + 1) (w.alloc (.cells (decA d) 45)) 47 (itA item0) (by simp)
  have hq2 := q_new (w.alloc (.cells (decA d) 45)) (itA item0) 47
  have hb1 := hb1.q hq2
  have hq := Q.trans hq1 hq2
  clear hq1 hq2
  obtain ⟨W0, hW0⟩ : ∃ W0, W0 = (w.alloc (.cells (decA d) 45)).alloc (.cells (itA item0) 47) := ⟨_, rfl⟩
  rw [← hW0] at hb1 hbr hq
  have hL := Wd.load (P := Tryz.prog) (ty := 45) (cs := d.cells) hb1.lt (Blk.range hb1) Tryz.underlying45 rfl (by kernel_rfl) ⟨W0, Q.refl W0⟩
  have HX := Lib.hid hW0
  have HQ := Lib.hid hq
  clear hW0 hb1 hq
  go_enter Tryz.func37, Tryz.ntmps37
  go_upto_region 1 with (fail)
  refine (show Code.wp _ _ _ _ W0 → Code.wp _ _ _ _ _ from fun h => by rw [HX.out] at h; exact h) ?_
  go_upto_region 1 with (fail)
  refine wp_region_lit ?_
  refine wpList_load_run 45 (.tmp 1) (.pointer (some ⟨w.heap.size, 0, none⟩)) (.agg (decA d)) rfl rfl rfl hL ?_
  dsimp only [Act.put]
  simp only [List.setIfInBounds_toArray, List.set_cons_succ, List.set_cons_zero]
  refine wpList_build_run 47 _ #[(0, .int .i64 3), (4, .agg (decA d))] (.agg (itA (itDec d))) rfl rfl (by simp only [List.map_toArray, List.map_cons, List.map_nil]; rfl) (build_dec _ _) ?_
  dsimp only [Act.put]
  simp only [List.setIfInBounds_toArray, List.set_cons_succ, List.set_cons_zero]
  refine wpList_store_far (cs := item0.cells) hbr rfl 47 (.tmp 2) (.tmp 4) (itDec d).cells rfl rfl rfl (by kernel_rfl) (it_all _) (Nat.le_refl 49) ?_
  intro W3 hW3 hbel3 hfar3
  rw [splice_all _ _ (by rfl)] at hW3
  have HF : Hid (Q w W3) := Lib.hid (hbel3 _ _ (Nat.le_succ _) HQ.out)
  clear hbel3 hfar3 hL
  go_wp2_with fail
  exact bodyPost_ret (results_cell_row rfl _ _ (w.heap.size + 1) 47 (itA (itDec d)) (0, 0) _ rfl hW3 Tryz.underlying47 rfl (by kernel_rfl)) rfl ⟨rfl, HF.out⟩
set_option maxRecDepth 100000 in
set_option maxHeartbeats 16000000 in
theorem same13_any (a b : ItemR) (w : World) (hI : ItemIn w a) (hJ : ItemIn w b) : Calls Tryz.prog 36 #[.agg (itA a), .agg (itA b)] w fun e w' => e = .returned (.bool (a.same b)) ∧ Q w w' := by
  obtain ⟨w1, x, hx, hq1, ⟨hA1, hA2⟩, hB1, hB2⟩ := boxed_two w 47 a.cells b.cells
  have hx : (w.alloc (.cells (itA a) 47)).alloc (.cells (itA b) 47) = x.w := hx
  have c0 := Wd.at0 hA1 hA2 0 rfl
  have d0 := Wd.at0 hB1 hB2 0 rfl
  have hAact := item_act hA1 hA2
  have hBact := item_act hB1 hB2
  have hAclaim := item_claim hA1 hA2
  have hBclaim := item_claim hB1 hB2
  have hAballot := item_ballot hA1 hA2
  have hBballot := item_ballot hB1 hB2
  have hAdec := item_dec hA1 hA2
  have hBdec := item_dec hB1 hB2
  have hI' : ∀ y : Wd w1, ItemIn y.w a := fun y => hI.q (Q.trans hq1 y.q)
  have hJ' : ∀ y : Wd w1, ItemIn y.w b := fun y => hJ.q (Q.trans hq1 y.q)
  have hc := claimEq
  have hd := ballotEq
  clear hA1 hA2 hB1 hB2
  rcases ways5 (a.act.same b.act) (a.kind == b.kind) (a.claim.same b.claim) (a.ballot.same b.ballot) (a.dec.same b.dec) with g1 | ⟨g1, g2⟩ | ⟨g1, g2, g3⟩ | ⟨g1, g2, g3, g4⟩ | ⟨g1, g2, g3, g4, g5⟩ | ⟨g1, g2, g3, g4, g5⟩
  all_goals
    have HR := Lib.hid (show a.same b = conj [(a.kind == b.kind), a.act.same b.act, a.claim.same b.claim, a.ballot.same b.ballot, a.dec.same b.dec] by rw [beq_int]; rfl)
    simp [conj, *] at HR
    go_enter Tryz.func36, Tryz.ntmps36
    go_wp2_with (first | (refine wpList_load_run 39 (.tmp 6) (.pointer (some ⟨w.heap.size, 1, none⟩)) (.agg (actA a.act)) ?_ ?_ ?_ ?_ ?_; rfl; rfl; rfl; exact hAact _) | (refine wpList_load_run 39 (.tmp 8) (.pointer (some ⟨w.heap.size + 1, 1, none⟩)) (.agg (actA b.act)) ?_ ?_ ?_ ?_ ?_; rfl; rfl; rfl; exact hBact _) | (refine wpList_load_run 41 (.tmp 20) (.pointer (some ⟨w.heap.size, 21, none⟩)) (.agg (claimA a.claim)) ?_ ?_ ?_ ?_ ?_; rfl; rfl; rfl; exact hAclaim _) | (refine wpList_load_run 41 (.tmp 22) (.pointer (some ⟨w.heap.size + 1, 21, none⟩)) (.agg (claimA b.claim)) ?_ ?_ ?_ ?_ ?_; rfl; rfl; rfl; exact hBclaim _) | (refine wpList_load_run 43 (.tmp 27) (.pointer (some ⟨w.heap.size, 30, none⟩)) (.agg (ballotA a.ballot)) ?_ ?_ ?_ ?_ ?_; rfl; rfl; rfl; exact hAballot _) | (refine wpList_load_run 43 (.tmp 29) (.pointer (some ⟨w.heap.size + 1, 30, none⟩)) (.agg (ballotA b.ballot)) ?_ ?_ ?_ ?_ ?_; rfl; rfl; rfl; exact hBballot _) | (refine wpList_load_run 45 (.tmp 34) (.pointer (some ⟨w.heap.size, 37, none⟩)) (.agg (decA a.dec)) ?_ ?_ ?_ ?_ ?_; rfl; rfl; rfl; exact hAdec _) | (refine wpList_load_run 45 (.tmp 36) (.pointer (some ⟨w.heap.size + 1, 37, none⟩)) (.agg (decA b.dec)) ?_ ?_ ?_ ?_ ?_; rfl; rfl; rfl; exact hBdec _) | (go_at_call 68; refine (ractSame_any a.act b.act _ (hI' _).act (hJ' _).act).mono ?_; rintro e w' ⟨rfl, hq2⟩; obtain ⟨y, rfl⟩ := Wd.next _ hq2; clear hq2) | (go_at_call 69; refine (rdecSame_any a.dec b.dec _ (hI' _).dec (hJ' _).dec).mono ?_; rintro e w' ⟨rfl, hq2⟩; obtain ⟨y, rfl⟩ := Wd.next _ hq2; clear hq2))
    go_ret
    exact ⟨by rw [HR.out]; rfl, Q.trans hq1 (Wd.q _)⟩
theorem dec_same_bare {a b : DecR} (h : bare a = bare b) : (itDec a).same (itDec b) = true := by
  have e := bare_eq h
  subst_vars
  rw [e]
  unfold ItemR.same
  show conj [true, act0.same act0, claim0.same claim0, ballot0.same ballot0, _] = true
  have h1 : (DecR.to' b a.toA a.toC).same b = true := by simp [DecR.same, DecR.to', conj]
  rw [show (itDec (DecR.to' b a.toA a.toC)).dec = DecR.to' b a.toA a.toC from rfl, show (itDec b).dec = b from rfl, h1]
  decide
set_option maxRecDepth 100000 in
set_option maxHeartbeats 4000000 in
theorem same35_any (A B : Option Addr) (c d : Nat) (l m : List DecR) (w : World) (hA : RowsAt w A 12 DecR.cells l) (hB : RowsAt w B 12 DecR.cells m) (hI : ∀ e ∈ l, DecIn w e) (hJ : ∀ e ∈ m, DecIn w e) (hlm : l.map bare = m.map bare) (hl : l.length ≤ 100) :
    Calls Tryz.prog 12 #[.slice A l.length c, .slice B m.length d] w fun e w' => e = .returned (.bool true) ∧ Q w w' := by
  have hml : m.length = l.length := by
    have h1 := congrArg List.length hlm
    rw [List.length_map, List.length_map] at h1
    exact h1.symm
  rw [hml]
  obtain ⟨x, hx⟩ := Wd.first w
  refine (show Calls Tryz.prog 12 #[.slice A l.length c, .slice B l.length d] x.w _ → _ from fun h => by rwa [← hx] at h) ?_
  clear hx
  generalize hnl : l.length = nl at *
  have HLM := Lib.hid hlm
  clear hlm
  go_enter Tryz.func12, Tryz.ntmps12
  go_wp2_with fail
  go_loopw [5] (fun i wr => ∃ (j : Nat) (z : Wd w), i = .int .i64 j ∧ wr = z.w ∧ j ≤ nl) (fun i _ => nl - (intOf i).toNat)
  case atStart => exact ⟨0, x, rfl, rfl, Nat.zero_le _⟩
  case round =>
    obtain ⟨j, z, rfl, rfl, hj⟩ := hrel
    by_cases hlt : j < nl
    · have hltL : j < l.length := by omega
      have hltM : j < m.length := by omega
      have hltI : (j : Int) < (nl : Int) := by omega
      have hjI : (0 : Int) ≤ (j : Int) := by omega
      obtain ⟨b1, o1, eA, hb1, hc1⟩ := hA (by omega)
      obtain ⟨b2, o2, eB, hb2, hc2⟩ := hB (by omega)
      have hL1 : ∀ y : Wd w, (Instr.loadAt 45 (.pointer (some ⟨b1, o1 + j * 12, none⟩))).run Tryz.prog y.w = .ok (.agg (decA l[j])) y.w := Wd.load hb1 (hc1 j hltL) Tryz.underlying45 rfl (by kernel_rfl)
      have hL2 : ∀ y : Wd w, (Instr.loadAt 45 (.pointer (some ⟨b2, o2 + j * 12, none⟩))).run Tryz.prog y.w = .ok (.agg (decA m[j])) y.w := Wd.load hb2 (hc2 j hltM) Tryz.underlying45 rfl (by kernel_rfl)
      have hbe : bare l[j] = bare m[j] := by
        have h1 : (l.map bare)[j]? = (m.map bare)[j]? := by rw [HLM.out]
        rw [List.getElem?_map, List.getElem?_map, List.getElem?_eq_getElem hltL, List.getElem?_eq_getElem hltM] at h1
        exact Option.some.inj h1
      have hi1 := fun y : Wd w => item35_any l[j] y.w
      have hi2 := fun y : Wd w => item35_any m[j] y.w
      have hsm : ∀ y : Wd w, Calls Tryz.prog 36 #[.agg (itA (itDec l[j])), .agg (itA (itDec m[j]))] y.w fun e w' => e = .returned (.bool true) ∧ Q y.w w' := fun y => by
        have h := same13_any (itDec l[j]) (itDec m[j]) y.w ⟨act0_in y.w, (hI _ (List.getElem_mem hltL)).q y.q⟩ ⟨act0_in y.w, (hJ _ (List.getElem_mem hltM)).q y.q⟩
        rwa [dec_same_bare hbe] at h
      subst eA
      subst eB
      clear hc1 hc2 hA hB hI hJ hbe
      generalize l[j] = d1 at *
      generalize m[j] = d2 at *
      go_upto_region 6 with (fail)
      refine wp_region_wd z (by kernel_rfl) (by kernel_rfl) ?_
      repeat (first | (refine wpQuiet_load_run 45 (.tmp 20) (.pointer (some ⟨b1, o1 + j * 12, none⟩)) (.agg (decA d1)) ?_ ?_ ?_ ?_ ?_; rfl; rfl; rfl; exact hL1; dsimp only [Act.put]; simp only [List.setIfInBounds_toArray, List.set_cons_succ, List.set_cons_zero]) | (refine wpQuiet_load_run 45 (.tmp 25) (.pointer (some ⟨b2, o2 + j * 12, none⟩)) (.agg (decA d2)) ?_ ?_ ?_ ?_ ?_; rfl; rfl; rfl; exact hL2; dsimp only [Act.put]; simp only [List.setIfInBounds_toArray, List.set_cons_succ, List.set_cons_zero]) | go_big_quiet_step (first | (go_at_call 37; first | with_reducible exact Wd.call _ (hi1 _) | with_reducible exact Wd.call _ (hi2 _)) | (go_at_call 36; exact Wd.call _ (hsm _))))
      refine wpQuiet_nil ?_
      rintro w'' ⟨y3, rfl⟩
      go_wp2_with fail
      exact ⟨⟨j + 1, y3, by go_num, rfl, by omega⟩, by simp only [intOf]; omega⟩
    · obtain rfl : j = nl := by omega
      have hnl2 : ¬ ((j : Int) < (j : Int)) := by omega
      clear hA hB hI hJ
      go_wp2_with fail
      go_ret
      exact ⟨rfl, z.q⟩
end Go.Proofs.YtjfcllanochhmaaGreatDoor.Dec
