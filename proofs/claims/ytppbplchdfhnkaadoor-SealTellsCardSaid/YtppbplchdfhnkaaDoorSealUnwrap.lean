/-
  The contracts of package seal's Unwrap and of package agoraref06's Unwrap.
-/
import Derived.Test.YtppbplchdfhnkaaDoorSealWrap2
set_option linter.unusedVariables false
set_option linter.unusedSimpArgs false
namespace Go.Proofs.YtppbplchdfhnkaaDoor.Seal
open Go.RowKit Grp Mem _root_.Go.Proofs.YtppbplchdfhnkaaDoor.Code Sha
open Sign (q_new Strs.of)

def UwH (w0 w : World) (g : Nat) (a b : Int) (n d t : ByteArray) : Prop := Q w0 w ∧ Tab w ∧ Blk w g 25 #[.int .i64 a, .int .i64 b, .string n, .string d, .string t]
theorem UwH.q {w0 w w' : World} {g : Nat} {a b : Int} {n d t : ByteArray} (h : UwH w0 w g a b n d t) (hq : Q w w') : UwH w0 w' g a b n d t := ⟨Q.trans h.1 hq, h.2.1.q hq, h.2.2.q hq⟩
theorem UwH.held {w0 w : World} {g : Nat} {a b : Int} {n d t : ByteArray} (h : UwH w0 w g a b n d t) : w.cell? ⟨g, 0, none⟩ = some (.int .i64 a) ∧ w.cell? ⟨g, 1, none⟩ = some (.int .i64 b) ∧ w.cell? ⟨g, 2, none⟩ = some (.string n) ∧ w.cell? ⟨g, 3, none⟩ = some (.string d) ∧ w.cell? ⟨g, 4, none⟩ = some (.string t) ∧ UwH w0 w g a b n d t := ⟨h.2.2.cell 0, h.2.2.cell 1, h.2.2.cell 2, h.2.2.cell 3, h.2.2.cell 4, h⟩
theorem UwH.step {w0 w w' : World} {g : Nat} {a b : Int} {n d t : ByteArray} (h : w.cell? ⟨g, 0, none⟩ = some (.int .i64 a) ∧ w.cell? ⟨g, 1, none⟩ = some (.int .i64 b) ∧ w.cell? ⟨g, 2, none⟩ = some (.string n) ∧ w.cell? ⟨g, 3, none⟩ = some (.string d) ∧ w.cell? ⟨g, 4, none⟩ = some (.string t) ∧ UwH w0 w g a b n d t) (hq : Q w w') : w'.cell? ⟨g, 0, none⟩ = some (.int .i64 a) ∧ w'.cell? ⟨g, 1, none⟩ = some (.int .i64 b) ∧ w'.cell? ⟨g, 2, none⟩ = some (.string n) ∧ w'.cell? ⟨g, 3, none⟩ = some (.string d) ∧ w'.cell? ⟨g, 4, none⟩ = some (.string t) ∧ UwH w0 w' g a b n d t := (h.2.2.2.2.2.q hq).held
theorem UwH.new (w : World) (hT : Tab w) (a b : Int) (n d t : ByteArray) : UwH w (w.alloc (.cells #[.int .i64 a, .int .i64 b, .string n, .string d, .string t] 25)) w.heap.size a b n d t := ⟨q_new w _ _, hT.q (q_new w _ _), Blk.new w _ _⟩
theorem isPublic_at (n : Int) (r : Bool) (w : World) (h : isPubI n = r) : Calls Tryd.prog 70 #[.int .i64 n] w fun e w' => e = .returned (.bool r) ∧ w = w' := h ▸ isPublic_any n w
theorem isSecret_at (n : Int) (r : Bool) (w : World) (h : isSecI n = r) : Calls Tryd.prog 78 #[.int .i64 n] w fun e w' => e = .returned (.bool r) ∧ w = w' := h ▸ isSecret_any n w
theorem wk_box {w0 w : World} {g : Nat} {a b : Int} {n d t : ByteArray} (x y z : Int) (r : ByteArray) (h : w.cell? ⟨g, 0, none⟩ = some (.int .i64 a) ∧ w.cell? ⟨g, 1, none⟩ = some (.int .i64 b) ∧ w.cell? ⟨g, 2, none⟩ = some (.string n) ∧ w.cell? ⟨g, 3, none⟩ = some (.string d) ∧ w.cell? ⟨g, 4, none⟩ = some (.string t) ∧ UwH w0 w g a b n d t) (hr : wkB x y z = r) (ha : x ≤ 9223372036854775807) (hb : y ≤ 9223372036854775807) (hc : z ≤ 9223372036854775807) :
    Calls Tryd.prog 72 #[.int .i64 x, .int .i64 y, .int .i64 z] w fun e w' => e = .returned (.string r) ∧ Q w w' := hr ▸ wk_any x y z w h.2.2.2.2.2.2.1 ha hb hc
theorem Open_box {w0 w : World} {g : Nat} {a b : Int} {n d t : ByteArray} (key x y z p : ByteArray) (o : Bool) (h : w.cell? ⟨g, 0, none⟩ = some (.int .i64 a) ∧ w.cell? ⟨g, 1, none⟩ = some (.int .i64 b) ∧ w.cell? ⟨g, 2, none⟩ = some (.string n) ∧ w.cell? ⟨g, 3, none⟩ = some (.string d) ∧ w.cell? ⟨g, 4, none⟩ = some (.string t) ∧ UwH w0 w g a b n d t) (hr : openB key (x, y, z) = (p, o)) (hz : key.size + x.size + y.size ≤ 140737488355000) :
    Calls Tryd.prog 22 #[.string key, .agg #[.string x, .string y, .string z]] w fun e w' => e = .returned (.tuple #[.string p, .bool o]) ∧ Q w w' := by
  have := Open_any key x y z w h.2.2.2.2.2.2.1 hz
  rw [hr] at this
  exact this
theorem ROpen_at (key x y z p : ByteArray) (o : Bool) (w : World) (hT : Tab w) (hr : openB key (x, y, z) = (p, o)) (hz : key.size + x.size + y.size ≤ 140737488354000) :
    Calls Tryd.prog 23 #[.string key, .agg #[.string x, .string y, .string z]] w fun e w' => e = .returned (.tuple #[.string p, .bool o]) ∧ Q w w' := by
  have := ROpen_any key x y z w hT hz
  rw [hr] at this
  exact this
theorem ROpen_box {w0 w : World} {g : Nat} {a b : Int} {n d t : ByteArray} (key x y z p : ByteArray) (o : Bool) (h : w.cell? ⟨g, 0, none⟩ = some (.int .i64 a) ∧ w.cell? ⟨g, 1, none⟩ = some (.int .i64 b) ∧ w.cell? ⟨g, 2, none⟩ = some (.string n) ∧ w.cell? ⟨g, 3, none⟩ = some (.string d) ∧ w.cell? ⟨g, 4, none⟩ = some (.string t) ∧ UwH w0 w g a b n d t) (hr : openB key (x, y, z) = (p, o)) (hz : key.size + x.size + y.size ≤ 140737488354000) :
    Calls Tryd.prog 23 #[.string key, .agg #[.string x, .string y, .string z]] w fun e w' => e = .returned (.tuple #[.string p, .bool o]) ∧ Q w w' := ROpen_at key x y z p o w h.2.2.2.2.2.2.1 hr hz
theorem unwrap_no (s : Int) (v : WrapV) (h : unwrapOk s v = false) : unwrapI s v = (lit [], false) := by unfold unwrapI; rw [h]; rfl
theorem unwrap_yes (s : Int) (v : WrapV) (h : unwrapOk s v = true) : unwrapI s v = openB (wkB v.1 v.2.1 (gexp v.2.1 s)) v.2.2 := by unfold unwrapI; rw [h]; rfl

/-- The kit's laws of a region's walk, an operation at a time, for a written-out list: the operation is read off the list. -/
theorem take_at {P : Program} {md : Region.Mode} {l : List Oper} {Q' : Exit → Act → World → Prop} {S : World → Prop} (i : Nat) {oi : Oper} {v : Value} {fuel : Nat} {listed : Array Bool} {a : Act} {w : World} (hi : l[i]? = some oi)
    (hs : Region.noSelect l.toArray = true) (hf : Region.free md l.toArray listed i = true) (hr : (Region.ready md l.toArray listed).contains i = true)
    (hQ : ∀ c a w, Q' (.panic c) (a.put oi.dst v) w → Q' (.panic c) a w) (hS : S w) (hw : Region.wanted oi (yielded l.toArray a.tmps) = true) (hy : ∀ w, S w → (execOp a.eval oi).run P w = .ok (.value v) w)
    (h : wpAnyH P md l.toArray Q' S fuel (listed.setIfInBounds i true) (a.put oi.dst v) w) : wpAnyH P md l.toArray Q' S (fuel + 1) listed a w :=
  wpAnyH_take (by simpa using hi) hs hf hr hQ (Or.inl ⟨hw, hy⟩) hS h
theorem skip_at {P : Program} {md : Region.Mode} {l : List Oper} {Q' : Exit → Act → World → Prop} {S : World → Prop} (i : Nat) {oi : Oper} {fuel : Nat} {listed : Array Bool} {a : Act} {w : World} (hi : l[i]? = some oi)
    (hs : Region.noSelect l.toArray = true) (hf : Region.free md l.toArray listed i = true) (hr : (Region.ready md l.toArray listed).contains i = true)
    (hQ : ∀ c a w, Q' (.panic c) (a.put oi.dst undef) w → Q' (.panic c) a w) (hS : S w) (hw : Region.wanted oi (yielded l.toArray a.tmps) = false)
    (h : wpAnyH P md l.toArray Q' S fuel (listed.setIfInBounds i true) (a.put oi.dst undef) w) : wpAnyH P md l.toArray Q' S (fuel + 1) listed a w :=
  wpAnyH_take (by simpa using hi) hs hf hr hQ (Or.inr ⟨hw, rfl⟩) hS h
theorem call_at {P : Program} {md : Region.Mode} {l : List Oper} {Q' : Exit → Act → World → Prop} {S : World → Prop} {fuel : Nat} {listed : Array Bool} {a : Act} {w : World} {i : Nat} {o : Oper} (ho : l[i]? = some o)
    (h : ∀ K' : Act → World → Prop, Shut (∀ a w, S w → (S w → wpAnyH P md l.toArray Q' S fuel (listed.setIfInBounds i true) a w) → K' a w) → if Region.wanted o (yielded l.toArray a.tmps) = true then Oper.wp P o a w K' Q' else K' (a.put o.dst undef) w) :
    AllReadyH P md l.toArray Q' S fuel listed a w [i] := AllReadyH.cons (by simpa using ho) h AllReadyH.nil

set_option maxHeartbeats 4000000 in
theorem Unwrap_no1 (s a b : Int) (n d t : ByteArray) (w : World) (hT : Tab w) (h1 : isSecI s = false) :
    Calls Tryd.prog 26 #[.int .i64 s, .agg #[.int .i64 a, .int .i64 b, .string n, .string d, .string t]] w fun e w' => e = .returned (.tuple #[.string (lit []), .bool false]) ∧ Q w w' := by
  have hX := UwH.new w hT a b n d t
  obtain ⟨c0, c1, c2, c3, c4, -⟩ := hX.held
  go_enter Tryd.func26, Tryd.ntmps26
  go_wp2_with fail
  refine wp_region_held_drew (S := (fun w' => w'.cell? ⟨w.heap.size, 0, none⟩ = some (.int .i64 a) ∧ w'.cell? ⟨w.heap.size, 1, none⟩ = some (.int .i64 b) ∧ w'.cell? ⟨w.heap.size, 2, none⟩ = some (.string n) ∧ w'.cell? ⟨w.heap.size, 3, none⟩ = some (.string d) ∧ w'.cell? ⟨w.heap.size, 4, none⟩ = some (.string t) ∧ UwH w w' w.heap.size a b n d t)) (by kernel_rfl) (hX.q (Q.refl _).drew).held (fun hHeld => ?_)
  refine take_at 0 (v := ?_) rfl (by kernel_rfl) (by kernel_rfl) (by kernel_rfl) (fun _ _ _ h => h) (by assumption) (by rfl) ?_ ?_
  rotate_left
  · intro w hSw
    (try dsimp only at hSw)
    go_simp
    try with_reducible rfl
  try simp only [Act.put, List.setIfInBounds_toArray, List.set_cons_zero, List.set_cons_succ]
  refine wpAnyH_ready (rs := [1]) (by kernel_rfl) (by simp) (call_at rfl ?_)
  intro K hK
  go_simp
  refine (isSecret_at _ _ _ h1).mono ?_
  rintro e w' ⟨rfl, rfl⟩
  refine hK.out _ _ (by assumption) (fun hHeld => ?_)
  clear hK K
  try simp only [Act.put, List.setIfInBounds_toArray, List.set_cons_zero, List.set_cons_succ]
  refine take_at 2 (v := ?_) rfl (by kernel_rfl) (by kernel_rfl) (by kernel_rfl) (fun _ _ _ h => h) (by assumption) (by rfl) ?_ ?_
  rotate_left
  · intro w hSw
    (try dsimp only at hSw)
    go_simp
    try with_reducible rfl
  try simp only [Act.put, List.setIfInBounds_toArray, List.set_cons_zero, List.set_cons_succ]
  refine take_at 3 (v := ?_) rfl (by kernel_rfl) (by kernel_rfl) (by kernel_rfl) (fun _ _ _ h => h) (by assumption) (by rfl) ?_ ?_
  rotate_left
  · intro w hSw
    (try dsimp only at hSw)
    go_simp
    try with_reducible rfl
  try simp only [Act.put, List.setIfInBounds_toArray, List.set_cons_zero, List.set_cons_succ]
  refine skip_at 4 rfl (by kernel_rfl) (by kernel_rfl) (by kernel_rfl) (fun _ _ _ h => h) (by assumption) (by rfl) ?_
  try simp only [Act.put, List.setIfInBounds_toArray, List.set_cons_zero, List.set_cons_succ]
  refine skip_at 5 rfl (by kernel_rfl) (by kernel_rfl) (by kernel_rfl) (fun _ _ _ h => h) (by assumption) (by rfl) ?_
  try simp only [Act.put, List.setIfInBounds_toArray, List.set_cons_zero, List.set_cons_succ]
  refine skip_at 6 rfl (by kernel_rfl) (by kernel_rfl) (by kernel_rfl) (fun _ _ _ h => h) (by assumption) (by rfl) ?_
  try simp only [Act.put, List.setIfInBounds_toArray, List.set_cons_zero, List.set_cons_succ]
  refine skip_at 7 rfl (by kernel_rfl) (by kernel_rfl) (by kernel_rfl) (fun _ _ _ h => h) (by assumption) (by rfl) ?_
  try simp only [Act.put, List.setIfInBounds_toArray, List.set_cons_zero, List.set_cons_succ]
  refine skip_at 8 rfl (by kernel_rfl) (by kernel_rfl) (by kernel_rfl) (fun _ _ _ h => h) (by assumption) (by rfl) ?_
  try simp only [Act.put, List.setIfInBounds_toArray, List.set_cons_zero, List.set_cons_succ]
  refine take_at 9 (v := ?_) rfl (by kernel_rfl) (by kernel_rfl) (by kernel_rfl) (fun _ _ _ h => h) (by assumption) (by rfl) ?_ ?_
  rotate_left
  · intro w hSw
    (try dsimp only at hSw)
    go_simp
    try with_reducible rfl
  try simp only [Act.put, List.setIfInBounds_toArray, List.set_cons_zero, List.set_cons_succ]
  refine take_at 10 (v := ?_) rfl (by kernel_rfl) (by kernel_rfl) (by kernel_rfl) (fun _ _ _ h => h) (by assumption) (by rfl) ?_ ?_
  rotate_left
  · intro w hSw
    (try dsimp only at hSw)
    go_simp
    try with_reducible rfl
  try simp only [Act.put, List.setIfInBounds_toArray, List.set_cons_zero, List.set_cons_succ]
  refine skip_at 11 rfl (by kernel_rfl) (by kernel_rfl) (by kernel_rfl) (fun _ _ _ h => h) (by assumption) (by rfl) ?_
  try simp only [Act.put, List.setIfInBounds_toArray, List.set_cons_zero, List.set_cons_succ]
  refine skip_at 12 rfl (by kernel_rfl) (by kernel_rfl) (by kernel_rfl) (fun _ _ _ h => h) (by assumption) (by rfl) ?_
  try simp only [Act.put, List.setIfInBounds_toArray, List.set_cons_zero, List.set_cons_succ]
  refine skip_at 13 rfl (by kernel_rfl) (by kernel_rfl) (by kernel_rfl) (fun _ _ _ h => h) (by assumption) (by rfl) ?_
  try simp only [Act.put, List.setIfInBounds_toArray, List.set_cons_zero, List.set_cons_succ]
  refine skip_at 14 rfl (by kernel_rfl) (by kernel_rfl) (by kernel_rfl) (fun _ _ _ h => h) (by assumption) (by rfl) ?_
  try simp only [Act.put, List.setIfInBounds_toArray, List.set_cons_zero, List.set_cons_succ]
  refine take_at 15 (v := ?_) rfl (by kernel_rfl) (by kernel_rfl) (by kernel_rfl) (fun _ _ _ h => h) (by assumption) (by rfl) ?_ ?_
  rotate_left
  · intro w hSw
    (try dsimp only at hSw)
    go_simp
    try with_reducible rfl
  try simp only [Act.put, List.setIfInBounds_toArray, List.set_cons_zero, List.set_cons_succ]
  refine wpAnyH_done (by kernel_rfl) ?_ _
  all_goals
    have hZ := (UwH.q hX (Q.refl _).drew).1
    go_wp2
    go_ret2
    exact ⟨rfl, hZ⟩

set_option maxHeartbeats 4000000 in
theorem Unwrap_no2 (s a b G : Int) (n d t : ByteArray) (w : World) (hT : Tab w) (h1 : isSecI s = true) (hs0 : 1 ≤ s) (hs1 : s ≤ 2305843009213693949) (hG : gexp 37 s = G) (h2 : ¬ a = G) (h2' : (a == G) = false) :
    Calls Tryd.prog 26 #[.int .i64 s, .agg #[.int .i64 a, .int .i64 b, .string n, .string d, .string t]] w fun e w' => e = .returned (.tuple #[.string (lit []), .bool false]) ∧ Q w w' := by
  have hX := UwH.new w hT a b n d t
  obtain ⟨c0, c1, c2, c3, c4, -⟩ := hX.held
  go_enter Tryd.func26, Tryd.ntmps26
  go_wp2_with fail
  refine wp_region_held_drew (S := (fun w' => w'.cell? ⟨w.heap.size, 0, none⟩ = some (.int .i64 a) ∧ w'.cell? ⟨w.heap.size, 1, none⟩ = some (.int .i64 b) ∧ w'.cell? ⟨w.heap.size, 2, none⟩ = some (.string n) ∧ w'.cell? ⟨w.heap.size, 3, none⟩ = some (.string d) ∧ w'.cell? ⟨w.heap.size, 4, none⟩ = some (.string t) ∧ UwH w w' w.heap.size a b n d t)) (by kernel_rfl) (hX.q (Q.refl _).drew).held (fun hHeld => ?_)
  refine take_at 0 (v := ?_) rfl (by kernel_rfl) (by kernel_rfl) (by kernel_rfl) (fun _ _ _ h => h) (by assumption) (by rfl) ?_ ?_
  rotate_left
  · intro w hSw
    (try dsimp only at hSw)
    go_simp
    try with_reducible rfl
  try simp only [Act.put, List.setIfInBounds_toArray, List.set_cons_zero, List.set_cons_succ]
  refine wpAnyH_ready (rs := [1]) (by kernel_rfl) (by simp) (call_at rfl ?_)
  intro K hK
  go_simp
  refine (isSecret_at _ _ _ h1).mono ?_
  rintro e w' ⟨rfl, rfl⟩
  refine hK.out _ _ (by assumption) (fun hHeld => ?_)
  clear hK K
  try simp only [Act.put, List.setIfInBounds_toArray, List.set_cons_zero, List.set_cons_succ]
  refine take_at 2 (v := ?_) rfl (by kernel_rfl) (by kernel_rfl) (by kernel_rfl) (fun _ _ _ h => h) (by assumption) (by rfl) ?_ ?_
  rotate_left
  · intro w hSw
    (try dsimp only at hSw)
    go_simp
    try with_reducible rfl
  try simp only [Act.put, List.setIfInBounds_toArray, List.set_cons_zero, List.set_cons_succ]
  refine take_at 3 (v := ?_) rfl (by kernel_rfl) (by kernel_rfl) (by kernel_rfl) (fun _ _ _ h => h) (by assumption) (by rfl) ?_ ?_
  rotate_left
  · intro w hSw
    (try dsimp only at hSw)
    go_simp
    try with_reducible rfl
  try simp only [Act.put, List.setIfInBounds_toArray, List.set_cons_zero, List.set_cons_succ]
  refine take_at 4 (v := ?_) rfl (by kernel_rfl) (by kernel_rfl) (by kernel_rfl) (fun _ _ _ h => h) (by assumption) (by rfl) ?_ ?_
  rotate_left
  · intro w hSw
    (try dsimp only at hSw)
    go_simp
    try with_reducible rfl
  try simp only [Act.put, List.setIfInBounds_toArray, List.set_cons_zero, List.set_cons_succ]
  refine take_at 5 (v := ?_) rfl (by kernel_rfl) (by kernel_rfl) (by kernel_rfl) (fun _ _ _ h => h) (by assumption) (by rfl) ?_ ?_
  rotate_left
  · intro w hSw
    (try dsimp only at hSw)
    go_simp
    try with_reducible rfl
  try simp only [Act.put, List.setIfInBounds_toArray, List.set_cons_zero, List.set_cons_succ]
  refine take_at 6 (v := ?_) rfl (by kernel_rfl) (by kernel_rfl) (by kernel_rfl) (fun _ _ _ h => h) (by assumption) (by rfl) ?_ ?_
  rotate_left
  · intro w hSw
    (try dsimp only at hSw)
    go_simp
    try with_reducible rfl
  try simp only [Act.put, List.setIfInBounds_toArray, List.set_cons_zero, List.set_cons_succ]
  refine wpAnyH_ready (rs := [7]) (by kernel_rfl) (by simp) (call_at rfl ?_)
  intro K hK
  go_simp
  refine (Exp_at _ _ _ _ hG (by omega) (by omega)).mono ?_
  rintro e w' ⟨rfl, hq⟩
  refine hK.out _ _ (UwH.step hHeld hq) (fun hHeld2 => ?_)
  clear hK K
  try simp only [Act.put, List.setIfInBounds_toArray, List.set_cons_zero, List.set_cons_succ]
  refine take_at 8 (v := .bool true) rfl (by kernel_rfl) (by kernel_rfl) (by kernel_rfl) (fun _ _ _ h => h) (by assumption) (by rfl) ?_ ?_
  · intro w hSw
    (try dsimp only at hSw)
    go_simp
    all_goals (try simp [h2])
  try simp only [Act.put, List.setIfInBounds_toArray, List.set_cons_zero, List.set_cons_succ]
  refine take_at 9 (v := ?_) rfl (by kernel_rfl) (by kernel_rfl) (by kernel_rfl) (fun _ _ _ h => h) (by assumption) (by rfl) ?_ ?_
  rotate_left
  · intro w hSw
    (try dsimp only at hSw)
    go_simp
    try with_reducible rfl
  try simp only [Act.put, List.setIfInBounds_toArray, List.set_cons_zero, List.set_cons_succ]
  refine take_at 10 (v := ?_) rfl (by kernel_rfl) (by kernel_rfl) (by kernel_rfl) (fun _ _ _ h => h) (by assumption) (by rfl) ?_ ?_
  rotate_left
  · intro w hSw
    (try dsimp only at hSw)
    go_simp
    try with_reducible rfl
  try simp only [Act.put, List.setIfInBounds_toArray, List.set_cons_zero, List.set_cons_succ]
  refine skip_at 11 rfl (by kernel_rfl) (by kernel_rfl) (by kernel_rfl) (fun _ _ _ h => h) (by assumption) (by rfl) ?_
  try simp only [Act.put, List.setIfInBounds_toArray, List.set_cons_zero, List.set_cons_succ]
  refine skip_at 12 rfl (by kernel_rfl) (by kernel_rfl) (by kernel_rfl) (fun _ _ _ h => h) (by assumption) (by rfl) ?_
  try simp only [Act.put, List.setIfInBounds_toArray, List.set_cons_zero, List.set_cons_succ]
  refine skip_at 13 rfl (by kernel_rfl) (by kernel_rfl) (by kernel_rfl) (fun _ _ _ h => h) (by assumption) (by rfl) ?_
  try simp only [Act.put, List.setIfInBounds_toArray, List.set_cons_zero, List.set_cons_succ]
  refine skip_at 14 rfl (by kernel_rfl) (by kernel_rfl) (by kernel_rfl) (fun _ _ _ h => h) (by assumption) (by rfl) ?_
  try simp only [Act.put, List.setIfInBounds_toArray, List.set_cons_zero, List.set_cons_succ]
  refine take_at 15 (v := ?_) rfl (by kernel_rfl) (by kernel_rfl) (by kernel_rfl) (fun _ _ _ h => h) (by assumption) (by rfl) ?_ ?_
  rotate_left
  · intro w hSw
    (try dsimp only at hSw)
    go_simp
    try with_reducible rfl
  try simp only [Act.put, List.setIfInBounds_toArray, List.set_cons_zero, List.set_cons_succ]
  refine wpAnyH_done (by kernel_rfl) ?_ _
  all_goals
    have hZ : Q w w' := hHeld2.2.2.2.2.2.1
    go_wp2
    go_ret2
    exact ⟨rfl, hZ⟩

set_option maxHeartbeats 4000000 in
theorem Unwrap_no3 (s a b : Int) (n d t : ByteArray) (w : World) (hT : Tab w) (h1 : isSecI s = true) (hs0 : 1 ≤ s) (hs1 : s ≤ 2305843009213693949) (hG : gexp 37 s = a) (h3 : isPubI b = false) :
    Calls Tryd.prog 26 #[.int .i64 s, .agg #[.int .i64 a, .int .i64 b, .string n, .string d, .string t]] w fun e w' => e = .returned (.tuple #[.string (lit []), .bool false]) ∧ Q w w' := by
  have hX := UwH.new w hT a b n d t
  obtain ⟨c0, c1, c2, c3, c4, -⟩ := hX.held
  go_enter Tryd.func26, Tryd.ntmps26
  go_wp2_with fail
  go_region_held3 (fun w' => w'.cell? ⟨w.heap.size, 0, none⟩ = some (.int .i64 a) ∧ w'.cell? ⟨w.heap.size, 1, none⟩ = some (.int .i64 b) ∧ w'.cell? ⟨w.heap.size, 2, none⟩ = some (.string n) ∧ w'.cell? ⟨w.heap.size, 3, none⟩ = some (.string d) ∧ w'.cell? ⟨w.heap.size, 4, none⟩ = some (.string t) ∧ UwH w w' w.heap.size a b n d t)
    (first | exact (hX.q (Q.refl _).drew).held | (with_reducible assumption) | exact UwH.step (by assumption) hq)
    (first
      | (go_at_call 78; refine (isSecret_at _ _ _ h1).mono ?_; rintro e w' ⟨rfl, rfl⟩)
      | (go_at_call 30; refine (Exp_at _ _ _ _ hG (by omega) (by omega)).mono ?_; rintro e w' ⟨rfl, hq⟩)
      | (go_at_call 70; refine (isPublic_at _ _ _ h3).mono ?_; rintro e w' ⟨rfl, rfl⟩))
  all_goals
    have hZ : Q w w' := by rename_i hh; exact hh.2.2.2.2.2.1
    go_wp2
    go_ret2
    exact ⟨rfl, hZ⟩

set_option maxHeartbeats 4000000 in
theorem Unwrap_yes (s a b Z : Int) (K n d t p : ByteArray) (o : Bool) (w : World) (hT : Tab w) (h1 : isSecI s = true) (hs0 : 1 ≤ s) (hs1 : s ≤ 2305843009213693949) (hG : gexp 37 s = a) (h3 : isPubI b = true) (ha : a ≤ 9223372036854775807) (hb : b ≤ 9223372036854775807) (hZ : gexp b s = Z) (hZ1 : Z ≤ 9223372036854775807)
    (hK : wkB a b Z = K) (hO : openB K (n, d, t) = (p, o)) (hz : K.size + n.size + d.size ≤ 140737488355000) :
    Calls Tryd.prog 26 #[.int .i64 s, .agg #[.int .i64 a, .int .i64 b, .string n, .string d, .string t]] w fun e w' => e = .returned (.tuple #[.string p, .bool o]) ∧ Q w w' := by
  have hX := UwH.new w hT a b n d t
  obtain ⟨c0, c1, c2, c3, c4, -⟩ := hX.held
  go_enter Tryd.func26, Tryd.ntmps26
  go_wp2_with fail
  go_region_held3 (fun w' => w'.cell? ⟨w.heap.size, 0, none⟩ = some (.int .i64 a) ∧ w'.cell? ⟨w.heap.size, 1, none⟩ = some (.int .i64 b) ∧ w'.cell? ⟨w.heap.size, 2, none⟩ = some (.string n) ∧ w'.cell? ⟨w.heap.size, 3, none⟩ = some (.string d) ∧ w'.cell? ⟨w.heap.size, 4, none⟩ = some (.string t) ∧ UwH w w' w.heap.size a b n d t)
    (first | exact (hX.q (Q.refl _).drew).held | (with_reducible assumption) | exact UwH.step (by assumption) hq)
    (first
      | (go_at_call 78; refine (isSecret_at _ _ _ h1).mono ?_; rintro e w' ⟨rfl, rfl⟩)
      | (go_at_call 30; refine (Exp_at _ _ _ _ hG (by omega) (by omega)).mono ?_; rintro e w' ⟨rfl, hq⟩)
      | (go_at_call 70; refine (isPublic_at _ _ _ h3).mono ?_; rintro e w' ⟨rfl, rfl⟩))
  all_goals
    have hY : UwH w w' w.heap.size a b n d t := by rename_i hh; exact hh.2.2.2.2.2
    generalize w' = W1 at *
    clear c0 c1 c2 c3 c4 hX
    obtain ⟨c0, c1, c2, c3, c4, -⟩ := hY.held
    go_wp2_with fail
    go_region_held3 (fun w' => w'.cell? ⟨w.heap.size, 0, none⟩ = some (.int .i64 a) ∧ w'.cell? ⟨w.heap.size, 1, none⟩ = some (.int .i64 b) ∧ w'.cell? ⟨w.heap.size, 2, none⟩ = some (.string n) ∧ w'.cell? ⟨w.heap.size, 3, none⟩ = some (.string d) ∧ w'.cell? ⟨w.heap.size, 4, none⟩ = some (.string t) ∧ UwH w w' w.heap.size a b n d t)
      (first | exact (hY.q (Q.refl _).drew).held | exact UwH.step (by assumption) hq)
      (first
        | (go_at_call 30; refine (Exp_at _ _ _ _ hZ (by omega) (by omega)).mono ?_; rintro e w' ⟨rfl, hq⟩)
        | (go_at_call 72; refine (wk_box _ _ _ _ (by assumption) hK ha hb hZ1).mono ?_; rintro e w' ⟨rfl, hq⟩)
        | (go_at_call 22; refine (Open_box _ _ _ _ _ _ (by assumption) hO hz).mono ?_; rintro e w' ⟨rfl, hq⟩))
    all_goals
      have hZZ : Q w w' := by rename_i hh; exact hh.2.2.2.2.2.1
      go_wp2
      go_ret2
      exact ⟨rfl, hZZ⟩

theorem Unwrap_any (s a b : Int) (n d t p : ByteArray) (o : Bool) (w : World) (hT : Tab w) (ha : a ≤ 9223372036854775807) (hb : b ≤ 9223372036854775807) (hz : n.size + d.size ≤ 140737488353000) (hr : unwrapI s (a, b, n, d, t) = (p, o)) :
    Calls Tryd.prog 26 #[.int .i64 s, .agg #[.int .i64 a, .int .i64 b, .string n, .string d, .string t]] w fun e w' => e = .returned (.tuple #[.string p, .bool o]) ∧ Q w w' := by
  by_cases h1 : isSecI s = true
  · have hs : 1 ≤ s ∧ s ≤ 2305843009213693949 := by simpa [isSecI] using h1
    by_cases h2 : a = gexp 37 s
    · by_cases h3 : isPubI b = true
      · rw [unwrap_yes _ _ (show unwrapOk s (a, b, n, d, t) = true by simp [unwrapOk, h1, h2, h3])] at hr
        have hzb := gexp_bd b s
        exact Unwrap_yes s a b _ _ n d t p o w hT h1 hs.1 hs.2 h2.symm h3 ha hb rfl (by omega) rfl hr (by rw [wkB_size]; omega)
      · rw [unwrap_no _ _ (show unwrapOk s (a, b, n, d, t) = false by simp [unwrapOk, h3])] at hr
        cases hr
        exact Unwrap_no3 s a b n d t w hT h1 hs.1 hs.2 h2.symm (by simpa using h3)
    · rw [unwrap_no _ _ (show unwrapOk s (a, b, n, d, t) = false by simp [unwrapOk, h2])] at hr
      cases hr
      exact Unwrap_no2 s a b _ n d t w hT h1 hs.1 hs.2 rfl h2 (by simpa using h2)
  · rw [unwrap_no _ _ (show unwrapOk s (a, b, n, d, t) = false by simp [unwrapOk, h1])] at hr
    cases hr
    exact Unwrap_no1 s a b n d t w hT (by simpa using h1)
end Go.Proofs.YtppbplchdfhnkaaDoor.Seal
