/-
  DERIVED: THE SHELF's CONTRACTS AT THIS DUMP, IN PLAIN WORDS (tools/lay-plain.mjs out of 'TryzSort.lean', which tools/lay-shelf.mjs wrote): THE SAME DECLARATIONS UNDER THE SAME NAMES: 'import', 'namespace', 'open', 'def', 'theorem' AND NOTHING ELSE: no command of the shelf's: FOR A HAND-IN. Each laying: the table of numbers ('.._ren') and one theorem, a field a fact of the dump's own or the kernel's comparison; each contract: ONE APPLICATION.
-/
import Derived.Shelf.SlGeneric
import Derived.Shelf.SlSortCmp.InsertionK
import Derived.Ground.SlsfProg
import Derived.Test.YtflgkplneekpfaaGreatDoorProg
namespace Go.Proofs
open Go.Shelf
def Tryz.insBallot_ren : Go.Shelf.Ren := ⟨fun | 20 => 265 | n => n, fun | 24 => 234 | 22 => 231 | 3 => 3 | 25 => 236 | 4 => 4 | 0 => 0 | n => n, fun | n => n⟩
theorem Tryz.insBallot : Go.Proofs.SlLaysF0.n20 Tryz.prog Tryz.insBallot_ren := {
  mixed := by kernel_rfl
  f20 := ⟨Tryz.f265.name, by decide, Tryz.func265.trans (congrArg some (by kernel_rfl))⟩
  t0 := Tryz.underlying0
  a0 := Tryz.isAgg0
  z0 := Tryz.sizeOf0
  v0 := Tryz.zeroValue0
  t3 := Tryz.underlying3
  a3 := Tryz.isAgg3
  z3 := Tryz.sizeOf3
  v3 := Tryz.zeroValue3
  t4 := Tryz.underlying4
  a4 := Tryz.isAgg4
  z4 := Tryz.sizeOf4
  v4 := Tryz.zeroValue4
  t22 := Tryz.underlying231
  a22 := Tryz.isAgg231
  z22 := Tryz.sizeOf231
  v22 := Tryz.zeroValue231
  t25 := Tryz.underlying236
  a25 := Tryz.isAgg236
  z25 := Tryz.sizeOf236
  v25 := Tryz.zeroValue236 }
def Tryz.insClaim_ren : Go.Shelf.Ren := ⟨fun | 20 => 243 | n => n, fun | 24 => 208 | 22 => 205 | 3 => 3 | 25 => 210 | 4 => 4 | 0 => 0 | n => n, fun | n => n⟩
theorem Tryz.insClaim : Go.Proofs.SlLaysF0.n20 Tryz.prog Tryz.insClaim_ren := {
  mixed := by kernel_rfl
  f20 := ⟨Tryz.f243.name, by decide, Tryz.func243.trans (congrArg some (by kernel_rfl))⟩
  t0 := Tryz.underlying0
  a0 := Tryz.isAgg0
  z0 := Tryz.sizeOf0
  v0 := Tryz.zeroValue0
  t3 := Tryz.underlying3
  a3 := Tryz.isAgg3
  z3 := Tryz.sizeOf3
  v3 := Tryz.zeroValue3
  t4 := Tryz.underlying4
  a4 := Tryz.isAgg4
  z4 := Tryz.sizeOf4
  v4 := Tryz.zeroValue4
  t22 := Tryz.underlying205
  a22 := Tryz.isAgg205
  z22 := Tryz.sizeOf205
  v22 := Tryz.zeroValue205
  t25 := Tryz.underlying210
  a25 := Tryz.isAgg210
  z25 := Tryz.sizeOf210
  v25 := Tryz.zeroValue210 }
def Tryz.insDecision_ren : Go.Shelf.Ren := ⟨fun | 20 => 224 | n => n, fun | 24 => 168 | 22 => 165 | 3 => 3 | 25 => 172 | 4 => 4 | 0 => 0 | n => n, fun | n => n⟩
theorem Tryz.insDecision : Go.Proofs.SlLaysF0.n20 Tryz.prog Tryz.insDecision_ren := {
  mixed := by kernel_rfl
  f20 := ⟨Tryz.f224.name, by decide, Tryz.func224.trans (congrArg some (by kernel_rfl))⟩
  t0 := Tryz.underlying0
  a0 := Tryz.isAgg0
  z0 := Tryz.sizeOf0
  v0 := Tryz.zeroValue0
  t3 := Tryz.underlying3
  a3 := Tryz.isAgg3
  z3 := Tryz.sizeOf3
  v3 := Tryz.zeroValue3
  t4 := Tryz.underlying4
  a4 := Tryz.isAgg4
  z4 := Tryz.sizeOf4
  v4 := Tryz.zeroValue4
  t22 := Tryz.underlying165
  a22 := Tryz.isAgg165
  z22 := Tryz.sizeOf165
  v22 := Tryz.zeroValue165
  t25 := Tryz.underlying172
  a25 := Tryz.isAgg172
  z25 := Tryz.sizeOf172
  v25 := Tryz.zeroValue172 }
end Go.Proofs
