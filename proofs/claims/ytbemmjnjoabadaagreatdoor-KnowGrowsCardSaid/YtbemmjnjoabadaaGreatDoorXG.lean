/- G: what the common files leave out -/
import Derived.Test.YtbemmjnjoabadaaGreatDoorK42
import Derived.Test.YtbemmjnjoabadaaGreatDoorK43
import Derived.ArgAppend
import Derived.BigQuiet
import Derived.BigRegion
import Derived.ChangeAlike
import Derived.ChangeMaps5
import Derived.Deep.Cut
import Derived.Deep.Draws
import Derived.Deep.MidRow
import Derived.Deep.Quiet
import Derived.Deep.QuietTactic
import Derived.Deep.RegionHeld
import Derived.Deep.RegionHeld3
import Derived.Deep.RegionLaw
import Derived.Deep.RegionWith
import Derived.Deep.Slices
import Derived.Laws.Bits64b
import Derived.Laws.BitsAllLaws
import Derived.Laws.BytesArg
import Derived.Laws.CopyRow
import Derived.Laws.EntriesVeiled
import Derived.Laws.IdiomStrings
import Derived.Laws.MakeOwn
import Derived.Laws.OwnMore
import Derived.Laws.RangeAny
import Derived.Laws.ResultCell
import Derived.Laws.Rows
import Derived.Laws.StructEq
import Derived.Lib.AppendStr
import Derived.Lib.FrozenHead
import Derived.Lib.Hide
import Derived.Lib.Mul64
import Derived.Lib.SliceRun
import Derived.Lib.SlicesCompact
import Derived.Lib.Strings
import Derived.LoopIn
import Derived.LoopNIn
import Derived.Maps.AppendAt
import Derived.Maps.Own
import Derived.Maps.OwnSet
import Derived.Maps.Views
import Derived.OrdersHeld
import Derived.OrdersIn
import Derived.OwnWalkIn
import Derived.RangeFuncBound
import Derived.RangeFuncBox
import Derived.RangeFuncCalls
import Derived.RangeFuncFrom
import Derived.RangeFuncLeaves
import Derived.RangeFuncNested
import Derived.RegionTactic
import Derived.Shelf.Abstract
import Derived.Shelf.RegionOpen
import Derived.Sort.OwnSorted
import Derived.Sort.Walk0
import Derived.StillTail
import Derived.StillTailTactics
import Derived.TacticsInMore
import Derived.WalkKit
import Derived.WalkLawsBesides
import Derived.WalkSpells
set_option linter.unusedVariables false
set_option linter.unusedSimpArgs false
namespace Go.Proofs.YtbemmjnjoabadaaGreatDoor
namespace Mem
open Go.RowKit Go.ChangeShapes Go.WideShapes Go.Deep aQ
section
variable {H:Type} {enc:TypeId×Value->H} {P:Program} {W:World} {base:Nat} {spare:Nat->Bool} {held:Bool}
def Opens{α:Type}(enc:TypeId×Value->H)(P:Program)(W:World)(base:Nat)(spare:Nat->Bool)(held:Bool)(t:TypeId)(f:α->List Value)(G:α->Prop):Prop:=
 ∀(fuel:Nat) (cs:List Value) (x:DataW H×List MemPlace),DataW.trod enc P W base spare held fuel t cs=some x->∃a,cs=f a/\G a
theorem aiq{t:TypeId}(ht:P.underlying t=some (.int .i64)):Opens enc P W base spare held t (fun n:Int=>[.int .i64 n]) fun n=> -9223372036854775808<=n/\n<=9223372036854775807:=fun fuel cs x h=>by
 obtain⟨n,rfl,-,hw⟩:=DataW.trod_int ht h
 refine⟨n,rfl,?_⟩
 simp[Lit.wf,IntKind.min,IntKind.max,IntKind.signed,IntKind.bits]at hw
 omega
theorem air{t:TypeId}(ht:P.underlying t=some .string):Opens enc P W base spare held t (fun s:ByteArray=>[.string s]) fun s=>s.size<=maxLen:=fun fuel cs x h=>by
 obtain⟨s,rfl,-,hs⟩:=DataW.trod_string ht h
 exact⟨s,rfl,hs⟩
theorem ais{t:TypeId}(ht:P.underlying t=some .bool):Opens enc P W base spare held t (fun b:Bool=>[.bool b]) fun _=>True:=fun fuel cs x h=>by
 obtain⟨b,rfl,-⟩:=DataW.trod_bool ht h
 exact⟨b,rfl,trivial⟩
structure acY.Good{α:Type}(W:World)(k:Nat)(f:α->List Value)(G:α->Prop)(s:acY α):Prop where
 le:s.l.length<=s.c
 cap:s.c<=maxLen
 all:∀a∈s.l,G a
 rows:dS W s.A k f s.l
theorem aa9{α:Type}[Inhabited α]{t e:TypeId}{k:Nat}{f:α->List Value}{G:α->Prop}(ht:P.underlying t=some (.slice e))(hk:P.cellsOf e=k)(h0:0<k)(hO:Opens enc P W base spare held e f G):
 Opens enc P W base spare held t acY.cells (acY.Good W k f G):=fun fuel cs x h=>by
 rcases open_slice ht h with⟨rfl,-⟩|⟨a,len,cap,m,n,D,Pl,rfl,hb,hl,hm,hmm,-,hx⟩
 ·exact⟨⟨none,[],0⟩,rfl,⟨Nat.le_refl _,Nat.zero_le _,by simp,dS.nil _ _ _ _⟩⟩
 have hlm:len<=m:=by rw[hmm];split<;>omega
 have each:∀i,i<len->∃y:α,G y/\W.cells? base (a.add (i*k)) k=some (f y):=by
  intro i hi
  obtain⟨cs',h1,h2⟩:=hx i (by omega)
  obtain⟨y,rfl,hy⟩:=hO _ _ _ h2
  rw[hk]at h1
  exact⟨y,hy,h1⟩
 obtain⟨g,hg⟩:=choose_lt each
 have hlen:((List.range len).map g).length=len:=by simp
 refine⟨⟨some a,(List.range len).map g,cap⟩,by unfold acY.cells;rw[hlen],⟨by rw[hlen];exact hl,hm,fun y hy=> ?_,fun h1=> ?_⟩⟩
 ·obtain⟨i,hi,rfl⟩:=List.mem_map.1 hy
  exact(hg i (List.mem_range.1 hi)).1
 ·dsimp only at h1
  rw[hlen]at h1
  have hc:=fun i hi=>World.cells?_some (hg i hi).2
  obtain⟨b,o,s⟩:=a
  have hs:s=none/\b<W.heap.size:=by
   obtain⟨_,hl0,hc0⟩:=hc 0 h1
   have h2:=hc0 0 h0
   rw[List.getElem?_eq_getElem (show 0<(f (g 0)).length by omega)]at h2
   simp only[Nat.zero_mul,Addr.add]at h2
   unfold World.cell? at h2
   simp only[if_true]at h2
   split at h2
   ·rename_i hh
    cases s with
    |none=>exact⟨rfl,(Array.getElem?_eq_some_iff.1 hh).1⟩
    |some x=>simp at h2
   ·cases h2
  obtain⟨rfl,hbl⟩:=hs
  refine⟨b,o,rfl,hbl,fun j hj i v hv=> ?_⟩
  have hj':j<len:=by dsimp only at hj;rwa[hlen]at hj
  obtain⟨_,hl1,hc1⟩:=hc j hj'
  dsimp only at hv
  rw[List.getElem_map,List.getElem_range]at hv
  have hik:i<k:=by rw[<-hl1];exact(List.getElem?_eq_some_iff.1 hv).1
  have:=hc1 i hik
  rw[hv,add_add,Addr.add_mid]at this
  rw[Nat.add_assoc]
  exact this
end
end Mem
namespace Item
open Go.RowKit Go.ChangeShapes Go.WideShapes Go.Deep aQ Mem _root_.Go.Proofs.YtbemmjnjoabadaaGreatDoor.Code aY Sign
theorem drop_step{cs p:List Value}{o k:Nat}(h:(cs.drop o).take k=p):cs.drop o=p++cs.drop (o+k):=by
 rw[<-h,<-List.drop_drop,List.take_append_drop]
section
variable {H:Type} {enc:TypeId×Value->H} {W:World} {base:Nat} {spare:Nat->Bool} {held:Bool}
theorem V7{α:Type}{n:Nat}{xs:List (DataW H×List MemPlace)}{cs:List Value}{i off k:Nat}{t:TypeId}{f:α->List Value}{G:α->Prop}
 (hf:DataW.trod enc Tryz.prog W base spare held n t ((cs.drop off).take (Tryz.prog.cellsOf t))=xs[i]?) (hi:i<xs.length) (hk:Tryz.prog.cellsOf t=k) (hO:Opens enc Tryz.prog W base spare held t f G):∃a,(cs.drop off).take k=f a/\G a:=by
 rw[hk,List.getElem?_eq_getElem hi]at hf
 exact hO _ _ _ hf
theorem aaB:Tryz.prog.cellsOf 3=1:=by kernel_rfl
theorem aaF:Tryz.prog.cellsOf 9=1:=by kernel_rfl
theorem aaC:Opens enc Tryz.prog W base spare held 3 (fun n:Int=>[.int .i64 n]) I64:=aiq Tryz.underlying3
theorem aaG:Opens enc Tryz.prog W base spare held 9 (fun s:ByteArray=>[.string s]) fun s=>s.size<=maxLen:=air Tryz.underlying9
theorem aiB:Tryz.prog.cellsOf 30=1:=by kernel_rfl
theorem aiC:Opens enc Tryz.prog W base spare held 30 acY.cells (acY.Good W 1 (fun s:ByteArray=>[.string s]) fun s=>s.size<=maxLen):=aa9 Tryz.underlying30 aaF (by decide) aaG
theorem adV:Tryz.prog.cellsOf 32=3:=by kernel_rfl
theorem aeI:Tryz.prog.cellsOf 35=2:=by kernel_rfl
theorem aeW:Tryz.prog.cellsOf 115=5:=by kernel_rfl
theorem aiD:Tryz.prog.cellsOf 33=1:=by kernel_rfl
theorem aeX:Tryz.prog.cellsOf 37=20:=by kernel_rfl
theorem afo:Opens enc Tryz.prog W base spare held 49 acY.cells (acY.Good W 1 (fun n:Int=>[.int .i64 n]) I64):=aa9 Tryz.underlying49 aaB (by decide) aaC
end
end Item
namespace oG
open Go.RowKit aQ Mem
open Sign (aO)
theorem Frm.at{w0 w:World}{g gs:Nat}{cs:List Value}{X Y:Int}{i:Nat}{v:Value}(h:Frm w0 w g gs cs.toArray X Y)(hv:cs[i]?=some v):w.cell? ⟨g,i,none⟩=some v/\w.frozen? ⟨g,i,none⟩=false:=by
 refine⟨?_,h.2.1.frozen i⟩
 rw[h.2.1.cell,List.getElem?_toArray]
 exact hv
end oG
end Go.Proofs.YtbemmjnjoabadaaGreatDoor
