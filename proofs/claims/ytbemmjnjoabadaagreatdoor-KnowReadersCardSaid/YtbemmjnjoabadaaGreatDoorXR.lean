/- R: what the common files leave out -/
import Derived.Test.YtbemmjnjoabadaaGreatDoorK42
import Derived.Test.YtbemmjnjoabadaaGreatDoorK43
import Derived.ArgAppend
import Derived.BigQuiet
import Derived.BigRegion
import Derived.ChangeAlike
import Derived.ChangeMaps5
import Derived.Deep.Cut
import Derived.Deep.Draws
import Derived.Deep.MidRow
import Derived.Deep.Quiet
import Derived.Deep.QuietTactic
import Derived.Deep.RegionHeld
import Derived.Deep.RegionHeld3
import Derived.Deep.RegionLaw
import Derived.Deep.RegionWith
import Derived.Deep.Slices
import Derived.Laws.Bits64b
import Derived.Laws.BitsAllLaws
import Derived.Laws.BytesArg
import Derived.Laws.CopyRow
import Derived.Laws.EntriesVeiled
import Derived.Laws.IdiomStrings
import Derived.Laws.MakeOwn
import Derived.Laws.OwnMore
import Derived.Laws.RangeAny
import Derived.Laws.ResultCell
import Derived.Laws.Rows
import Derived.Laws.StructEq
import Derived.Lib.AppendStr
import Derived.Lib.FrozenHead
import Derived.Lib.Hide
import Derived.Lib.Mul64
import Derived.Lib.SliceRun
import Derived.Lib.SlicesCompact
import Derived.Lib.Strings
import Derived.LoopIn
import Derived.LoopNIn
import Derived.Maps.AppendAt
import Derived.Maps.Own
import Derived.Maps.OwnSet
import Derived.Maps.Views
import Derived.OrdersHeld
import Derived.OrdersIn
import Derived.OwnWalkIn
import Derived.RangeFuncBound
import Derived.RangeFuncBox
import Derived.RangeFuncCalls
import Derived.RangeFuncFrom
import Derived.RangeFuncLeaves
import Derived.RangeFuncNested
import Derived.RegionTactic
import Derived.Shelf.Abstract
import Derived.Shelf.RegionOpen
import Derived.Sort.OwnSorted
import Derived.Sort.Walk0
import Derived.StillTail
import Derived.StillTailTactics
import Derived.TacticsInMore
import Derived.WalkKit
import Derived.WalkLawsBesides
import Derived.WalkSpells
set_option linter.unusedVariables false
set_option linter.unusedSimpArgs false
namespace Go.Proofs.YtbemmjnjoabadaaGreatDoor
namespace Mem
open Go.RowKit Go.ChangeShapes Go.WideShapes Go.Deep aQ
section
variable {H:Type} {enc:TypeId×Value->H} {P:Program} {W:World} {base:Nat} {spare:Nat->Bool} {held:Bool}
def Opens{α:Type}(enc:TypeId×Value->H)(P:Program)(W:World)(base:Nat)(spare:Nat->Bool)(held:Bool)(t:TypeId)(f:α->List Value)(G:α->Prop):Prop:=
 ∀(fuel:Nat) (cs:List Value) (x:DataW H×List MemPlace),DataW.trod enc P W base spare held fuel t cs=some x->∃a,cs=f a/\G a
theorem adG{t:TypeId}(ht:P.underlying t=some (.int .i64)):Opens enc P W base spare held t (fun n:Int=>[.int .i64 n]) fun n=> -9223372036854775808<=n/\n<=9223372036854775807:=fun fuel cs x h=>by
 obtain⟨n,rfl,-,hw⟩:=DataW.trod_int ht h
 refine⟨n,rfl,?_⟩
 simp[Lit.wf,IntKind.min,IntKind.max,IntKind.signed,IntKind.bits]at hw
 omega
structure acY.Good{α:Type}(W:World)(k:Nat)(f:α->List Value)(G:α->Prop)(s:acY α):Prop where
 le:s.l.length<=s.c
 cap:s.c<=maxLen
 all:∀a∈s.l,G a
 rows:dS W s.A k f s.l
end
end Mem
namespace Item
open Go.RowKit Go.ChangeShapes Go.WideShapes Go.Deep aQ Mem _root_.Go.Proofs.YtbemmjnjoabadaaGreatDoor.Code aY Sign
theorem drop_step{cs p:List Value}{o k:Nat}(h:(cs.drop o).take k=p):cs.drop o=p++cs.drop (o+k):=by
 rw[<-h,<-List.drop_drop,List.take_append_drop]
section
variable {H:Type} {enc:TypeId×Value->H} {W:World} {base:Nat} {spare:Nat->Bool} {held:Bool}
theorem aay{α:Type}{n:Nat}{xs:List (DataW H×List MemPlace)}{cs:List Value}{i off k:Nat}{t:TypeId}{f:α->List Value}{G:α->Prop}
 (hf:DataW.trod enc Tryz.prog W base spare held n t ((cs.drop off).take (Tryz.prog.cellsOf t))=xs[i]?) (hi:i<xs.length) (hk:Tryz.prog.cellsOf t=k) (hO:Opens enc Tryz.prog W base spare held t f G):∃a,(cs.drop off).take k=f a/\G a:=by
 rw[hk,List.getElem?_eq_getElem hi]at hf
 exact hO _ _ _ hf
theorem aaB:Tryz.prog.cellsOf 3=1:=by kernel_rfl
theorem adH:Tryz.prog.cellsOf 9=1:=by kernel_rfl
theorem aaC:Opens enc Tryz.prog W base spare held 3 (fun n:Int=>[.int .i64 n]) I64:=adG Tryz.underlying3
end
end Item
namespace oG
open Go.RowKit aQ Mem
open Sign (aO)
theorem Frm.at{w0 w:World}{g gs:Nat}{cs:List Value}{X Y:Int}{i:Nat}{v:Value}(h:Frm w0 w g gs cs.toArray X Y)(hv:cs[i]?=some v):w.cell? ⟨g,i,none⟩=some v/\w.frozen? ⟨g,i,none⟩=false:=by
 refine⟨?_,h.2.1.frozen i⟩
 rw[h.2.1.cell,List.getElem?_toArray]
 exact hv
end oG
end Go.Proofs.YtbemmjnjoabadaaGreatDoor
