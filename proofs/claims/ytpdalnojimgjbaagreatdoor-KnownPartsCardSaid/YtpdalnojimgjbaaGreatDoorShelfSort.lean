/-
  DERIVED: THE SHELF's CONTRACTS AT THIS DUMP, IN PLAIN WORDS (tools/lay-plain.mjs out of 'TryzSort.lean', which tools/lay-shelf.mjs wrote): THE SAME DECLARATIONS UNDER THE SAME NAMES: 'import', 'namespace', 'open', 'def', 'theorem' AND NOTHING ELSE: no command of the shelf's: FOR A HAND-IN. Each laying: the table of numbers ('.._ren') and one theorem, a field a fact of the dump's own or the kernel's comparison; each contract: ONE APPLICATION.
-/
import Derived.Shelf.SlGeneric
import Derived.Shelf.SlSortCmp.InsertionK
import Derived.Test.YtpdalnojimgjbaaGreatDoorProg
namespace Go.Proofs
open Go.Shelf
def Tryz.insBallot_ren : Go.Shelf.Ren := ⟨fun | 20 => 292 | n => n, fun | 24 => 205 | 22 => 202 | 3 => 3 | 25 => 207 | 4 => 4 | 0 => 0 | n => n, fun | n => n⟩
theorem Tryz.insBallot : Go.Proofs.SlLaysF0.n20 Tryz.prog Tryz.insBallot_ren := {
  mixed := by kernel_rfl
  f20 := ⟨Tryz.f292.name, by decide, Tryz.func292.trans (congrArg some (by kernel_rfl))⟩
  t0 := Tryz.underlying0
  a0 := Tryz.isAgg0
  z0 := Tryz.sizeOf0
  v0 := Tryz.zeroValue0
  t3 := Tryz.underlying3
  a3 := Tryz.isAgg3
  z3 := Tryz.sizeOf3
  v3 := Tryz.zeroValue3
  t4 := Tryz.underlying4
  a4 := Tryz.isAgg4
  z4 := Tryz.sizeOf4
  v4 := Tryz.zeroValue4
  t22 := Tryz.underlying202
  a22 := Tryz.isAgg202
  z22 := Tryz.sizeOf202
  v22 := Tryz.zeroValue202
  t25 := Tryz.underlying207
  a25 := Tryz.isAgg207
  z25 := Tryz.sizeOf207
  v25 := Tryz.zeroValue207 }
def Tryz.insAct_ren : Go.Shelf.Ren := ⟨fun | 20 => 283 | n => n, fun | 24 => 191 | 22 => 188 | 3 => 3 | 25 => 195 | 4 => 4 | 0 => 0 | n => n, fun | n => n⟩
theorem Tryz.insAct : Go.Proofs.SlLaysF0.n20 Tryz.prog Tryz.insAct_ren := {
  mixed := by kernel_rfl
  f20 := ⟨Tryz.f283.name, by decide, Tryz.func283.trans (congrArg some (by kernel_rfl))⟩
  t0 := Tryz.underlying0
  a0 := Tryz.isAgg0
  z0 := Tryz.sizeOf0
  v0 := Tryz.zeroValue0
  t3 := Tryz.underlying3
  a3 := Tryz.isAgg3
  z3 := Tryz.sizeOf3
  v3 := Tryz.zeroValue3
  t4 := Tryz.underlying4
  a4 := Tryz.isAgg4
  z4 := Tryz.sizeOf4
  v4 := Tryz.zeroValue4
  t22 := Tryz.underlying188
  a22 := Tryz.isAgg188
  z22 := Tryz.sizeOf188
  v22 := Tryz.zeroValue188
  t25 := Tryz.underlying195
  a25 := Tryz.isAgg195
  z25 := Tryz.sizeOf195
  v25 := Tryz.zeroValue195 }
def Tryz.insClaim_ren : Go.Shelf.Ren := ⟨fun | 20 => 290 | n => n, fun | 24 => 199 | 22 => 196 | 3 => 3 | 25 => 201 | 4 => 4 | 0 => 0 | n => n, fun | n => n⟩
theorem Tryz.insClaim : Go.Proofs.SlLaysF0.n20 Tryz.prog Tryz.insClaim_ren := {
  mixed := by kernel_rfl
  f20 := ⟨Tryz.f290.name, by decide, Tryz.func290.trans (congrArg some (by kernel_rfl))⟩
  t0 := Tryz.underlying0
  a0 := Tryz.isAgg0
  z0 := Tryz.sizeOf0
  v0 := Tryz.zeroValue0
  t3 := Tryz.underlying3
  a3 := Tryz.isAgg3
  z3 := Tryz.sizeOf3
  v3 := Tryz.zeroValue3
  t4 := Tryz.underlying4
  a4 := Tryz.isAgg4
  z4 := Tryz.sizeOf4
  v4 := Tryz.zeroValue4
  t22 := Tryz.underlying196
  a22 := Tryz.isAgg196
  z22 := Tryz.sizeOf196
  v22 := Tryz.zeroValue196
  t25 := Tryz.underlying201
  a25 := Tryz.isAgg201
  z25 := Tryz.sizeOf201
  v25 := Tryz.zeroValue201 }
def Tryz.insDecision_ren : Go.Shelf.Ren := ⟨fun | 20 => 294 | n => n, fun | 24 => 211 | 22 => 208 | 3 => 3 | 25 => 213 | 4 => 4 | 0 => 0 | n => n, fun | n => n⟩
theorem Tryz.insDecision : Go.Proofs.SlLaysF0.n20 Tryz.prog Tryz.insDecision_ren := {
  mixed := by kernel_rfl
  f20 := ⟨Tryz.f294.name, by decide, Tryz.func294.trans (congrArg some (by kernel_rfl))⟩
  t0 := Tryz.underlying0
  a0 := Tryz.isAgg0
  z0 := Tryz.sizeOf0
  v0 := Tryz.zeroValue0
  t3 := Tryz.underlying3
  a3 := Tryz.isAgg3
  z3 := Tryz.sizeOf3
  v3 := Tryz.zeroValue3
  t4 := Tryz.underlying4
  a4 := Tryz.isAgg4
  z4 := Tryz.sizeOf4
  v4 := Tryz.zeroValue4
  t22 := Tryz.underlying208
  a22 := Tryz.isAgg208
  z22 := Tryz.sizeOf208
  v22 := Tryz.zeroValue208
  t25 := Tryz.underlying213
  a25 := Tryz.isAgg213
  z25 := Tryz.sizeOf213
  v25 := Tryz.zeroValue213 }
end Go.Proofs
