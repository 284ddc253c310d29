/- S: what the common files leave out -/
import Derived.Test.YtbemmjnjoabadaaGreatDoorK42
import Derived.Test.YtbemmjnjoabadaaGreatDoorK43
import Derived.ArgAppend
import Derived.BigQuiet
import Derived.BigRegion
import Derived.ChangeAlike
import Derived.ChangeMaps5
import Derived.Deep.Cut
import Derived.Deep.Draws
import Derived.Deep.MidRow
import Derived.Deep.Quiet
import Derived.Deep.QuietTactic
import Derived.Deep.RegionHeld
import Derived.Deep.RegionHeld3
import Derived.Deep.RegionLaw
import Derived.Deep.RegionWith
import Derived.Deep.Slices
import Derived.Laws.Bits64b
import Derived.Laws.BitsAllLaws
import Derived.Laws.BytesArg
import Derived.Laws.CopyRow
import Derived.Laws.EntriesVeiled
import Derived.Laws.IdiomStrings
import Derived.Laws.MakeOwn
import Derived.Laws.OwnMore
import Derived.Laws.RangeAny
import Derived.Laws.ResultCell
import Derived.Laws.Rows
import Derived.Laws.StructEq
import Derived.Lib.AppendStr
import Derived.Lib.FrozenHead
import Derived.Lib.Hide
import Derived.Lib.Mul64
import Derived.Lib.SliceRun
import Derived.Lib.SlicesCompact
import Derived.Lib.Strings
import Derived.LoopIn
import Derived.LoopNIn
import Derived.Maps.AppendAt
import Derived.Maps.Own
import Derived.Maps.OwnSet
import Derived.Maps.Views
import Derived.OrdersHeld
import Derived.OrdersIn
import Derived.OwnWalkIn
import Derived.RangeFuncBound
import Derived.RangeFuncBox
import Derived.RangeFuncCalls
import Derived.RangeFuncFrom
import Derived.RangeFuncLeaves
import Derived.RangeFuncNested
import Derived.RegionTactic
import Derived.Shelf.Abstract
import Derived.Shelf.RegionOpen
import Derived.Sort.OwnSorted
import Derived.Sort.Walk0
import Derived.StillTail
import Derived.StillTailTactics
import Derived.TacticsInMore
import Derived.WalkKit
import Derived.WalkLawsBesides
import Derived.WalkSpells
set_option linter.unusedVariables false
set_option linter.unusedSimpArgs false
set_option maxHeartbeats 1000000
namespace Go.Proofs.YtbemmjnjoabadaaGreatDoor
namespace Mem
open Go.RowKit Go.ChangeShapes Go.WideShapes Go.Deep aQ
section
variable {H:Type} {enc:TypeId×Value->H} {P:Program} {W:World} {base:Nat} {spare:Nat->Bool} {held:Bool}
def Opens{α:Type}(enc:TypeId×Value->H)(P:Program)(W:World)(base:Nat)(spare:Nat->Bool)(held:Bool)(t:TypeId)(f:α->List Value)(G:α->Prop):Prop:=
 ∀(fuel:Nat) (cs:List Value) (x:DataW H×List MemPlace),DataW.trod enc P W base spare held fuel t cs=some x->∃a,cs=f a/\G a
theorem ab9{t:TypeId}(ht:P.underlying t=some (.int .i64)):Opens enc P W base spare held t (fun n:Int=>[.int .i64 n]) fun n=> -9223372036854775808<=n/\n<=9223372036854775807:=fun fuel cs x h=>by
 obtain⟨n,rfl,-,hw⟩:=DataW.trod_int ht h
 refine⟨n,rfl,?_⟩
 simp[Lit.wf,IntKind.min,IntKind.max,IntKind.signed,IntKind.bits]at hw
 omega
theorem acE{t:TypeId}(ht:P.underlying t=some .string):Opens enc P W base spare held t (fun s:ByteArray=>[.string s]) fun s=>s.size<=maxLen:=fun fuel cs x h=>by
 obtain⟨s,rfl,-,hs⟩:=DataW.trod_string ht h
 exact⟨s,rfl,hs⟩
theorem acF{t:TypeId}(ht:P.underlying t=some .bool):Opens enc P W base spare held t (fun b:Bool=>[.bool b]) fun _=>True:=fun fuel cs x h=>by
 obtain⟨b,rfl,-⟩:=DataW.trod_bool ht h
 exact⟨b,rfl,trivial⟩
structure acY.Good{α:Type}(W:World)(k:Nat)(f:α->List Value)(G:α->Prop)(s:acY α):Prop where
 le:s.l.length<=s.c
 cap:s.c<=maxLen
 all:∀a∈s.l,G a
 rows:dS W s.A k f s.l
theorem aaN{α:Type}[Inhabited α]{t e:TypeId}{k:Nat}{f:α->List Value}{G:α->Prop}(ht:P.underlying t=some (.slice e))(hk:P.cellsOf e=k)(h0:0<k)(hO:Opens enc P W base spare held e f G):
 Opens enc P W base spare held t acY.cells (acY.Good W k f G):=fun fuel cs x h=>by
 rcases open_slice ht h with⟨rfl,-⟩|⟨a,len,cap,m,n,D,Pl,rfl,hb,hl,hm,hmm,-,hx⟩
 ·exact⟨⟨none,[],0⟩,rfl,⟨Nat.le_refl _,Nat.zero_le _,by simp,dS.nil _ _ _ _⟩⟩
 have hlm:len<=m:=by rw[hmm];split<;>omega
 have each:∀i,i<len->∃y:α,G y/\W.cells? base (a.add (i*k)) k=some (f y):=by
  intro i hi
  obtain⟨cs',h1,h2⟩:=hx i (by omega)
  obtain⟨y,rfl,hy⟩:=hO _ _ _ h2
  rw[hk]at h1
  exact⟨y,hy,h1⟩
 obtain⟨g,hg⟩:=choose_lt each
 have hlen:((List.range len).map g).length=len:=by simp
 refine⟨⟨some a,(List.range len).map g,cap⟩,by unfold acY.cells;rw[hlen],⟨by rw[hlen];exact hl,hm,fun y hy=> ?_,fun h1=> ?_⟩⟩
 ·obtain⟨i,hi,rfl⟩:=List.mem_map.1 hy
  exact(hg i (List.mem_range.1 hi)).1
 ·dsimp only at h1
  rw[hlen]at h1
  have hc:=fun i hi=>World.cells?_some (hg i hi).2
  obtain⟨b,o,s⟩:=a
  have hs:s=none/\b<W.heap.size:=by
   obtain⟨_,hl0,hc0⟩:=hc 0 h1
   have h2:=hc0 0 h0
   rw[List.getElem?_eq_getElem (show 0<(f (g 0)).length by omega)]at h2
   simp only[Nat.zero_mul,Addr.add]at h2
   unfold World.cell? at h2
   simp only[if_true]at h2
   split at h2
   ·rename_i hh
    cases s with
    |none=>exact⟨rfl,(Array.getElem?_eq_some_iff.1 hh).1⟩
    |some x=>simp at h2
   ·cases h2
  obtain⟨rfl,hbl⟩:=hs
  refine⟨b,o,rfl,hbl,fun j hj i v hv=> ?_⟩
  have hj':j<len:=by dsimp only at hj;rwa[hlen]at hj
  obtain⟨_,hl1,hc1⟩:=hc j hj'
  dsimp only at hv
  rw[List.getElem_map,List.getElem_range]at hv
  have hik:i<k:=by rw[<-hl1];exact(List.getElem?_eq_some_iff.1 hv).1
  have:=hc1 i hik
  rw[hv,add_add,Addr.add_mid]at this
  rw[Nat.add_assoc]
  exact this
end
end Mem
namespace Item
open Go.RowKit aQ Mem _root_.Go.Proofs.YtbemmjnjoabadaaGreatDoor.Code aY Sign
def NOk(l:List Int):Prop:=∀n∈l,I64 n
end Item
namespace Item
open Go.RowKit Go.ChangeShapes Go.WideShapes Go.Deep aQ Mem _root_.Go.Proofs.YtbemmjnjoabadaaGreatDoor.Code aY Sign
theorem drop_step{cs p:List Value}{o k:Nat}(h:(cs.drop o).take k=p):cs.drop o=p++cs.drop (o+k):=by
 rw[<-h,<-List.drop_drop,List.take_append_drop]
section
variable {H:Type} {enc:TypeId×Value->H} {W:World} {base:Nat} {spare:Nat->Bool} {held:Bool}
theorem aaB{α:Type}{n:Nat}{xs:List (DataW H×List MemPlace)}{cs:List Value}{i off k:Nat}{t:TypeId}{f:α->List Value}{G:α->Prop}
 (hf:DataW.trod enc Tryz.prog W base spare held n t ((cs.drop off).take (Tryz.prog.cellsOf t))=xs[i]?) (hi:i<xs.length) (hk:Tryz.prog.cellsOf t=k) (hO:Opens enc Tryz.prog W base spare held t f G):∃a,(cs.drop off).take k=f a/\G a:=by
 rw[hk,List.getElem?_eq_getElem hi]at hf
 exact hO _ _ _ hf
theorem aaC:Tryz.prog.cellsOf 3=1:=by kernel_rfl
theorem aaF:Tryz.prog.cellsOf 9=1:=by kernel_rfl
theorem aaE:Opens enc Tryz.prog W base spare held 3 (fun n:Int=>[.int .i64 n]) I64:=ab9 Tryz.underlying3
theorem aaH:Opens enc Tryz.prog W base spare held 9 (fun s:ByteArray=>[.string s]) fun s=>s.size<=maxLen:=acE Tryz.underlying9
theorem acQ:Tryz.prog.cellsOf 30=1:=by kernel_rfl
theorem adG:Opens enc Tryz.prog W base spare held 30 acY.cells (acY.Good W 1 (fun s:ByteArray=>[.string s]) fun s=>s.size<=maxLen):=aaN Tryz.underlying30 aaF (by decide) aaH
theorem aaX:Tryz.prog.cellsOf 32=3:=by kernel_rfl
theorem aa9:Tryz.prog.cellsOf 35=2:=by kernel_rfl
theorem adH:Opens enc Tryz.prog W base spare held 35 (fun b:Int×Int=>[.int .i64 b.1, .int .i64 b.2]) (fun b=>NOk [b.1,b.2]):=fun fuel cs x h=>by
 obtain⟨xs,n,-,-,hcl,hxl,hf⟩:=DataW.trod_struct Tryz.underlying35 h
 rw[aa9]at hcl
 have hxl:xs.length=2:=hxl
 obtain⟨n1,e0,g0⟩:=aaB (off:=0) (show DataW.trod enc Tryz.prog W base spare held n 3 ((cs.drop 0).take (Tryz.prog.cellsOf 3))=xs[0]? from hf 0 _ rfl) (by omega) aaC aaE
 obtain⟨n2,e1,g1⟩:=aaB (off:=1) (show DataW.trod enc Tryz.prog W base spare held n 3 ((cs.drop 1).take (Tryz.prog.cellsOf 3))=xs[1]? from hf 1 _ rfl) (by omega) aaC aaE
 have t2:cs.drop 2=[]:=List.drop_eq_nil_of_le (by omega)
 have t1:=drop_step e1
 simp only[Nat.reduceAdd]at t1
 rw[t2]at t1
 have t0:=drop_step e0
 simp only[Nat.reduceAdd]at t0
 rw[t1]at t0
 rw[List.drop_zero]at t0
 refine⟨(n1,n2),by rw[t0];rfl,?_⟩
 simp only[NOk,List.mem_cons,List.not_mem_nil,or_false]
 rintro s (rfl|rfl)<;>assumption
theorem abe:Tryz.prog.cellsOf 115=5:=by kernel_rfl
theorem adV:Tryz.prog.cellsOf 33=1:=by kernel_rfl
theorem abj:Tryz.prog.cellsOf 37=20:=by kernel_rfl
theorem aed:Opens enc Tryz.prog W base spare held 49 acY.cells (acY.Good W 1 (fun n:Int=>[.int .i64 n]) I64):=aaN Tryz.underlying49 aaC (by decide) aaE
end
end Item
namespace oG
open Go.RowKit aQ Mem
open Sign (aO)
theorem Frm.at{w0 w:World}{g gs:Nat}{cs:List Value}{X Y:Int}{i:Nat}{v:Value}(h:Frm w0 w g gs cs.toArray X Y)(hv:cs[i]?=some v):w.cell? ⟨g,i,none⟩=some v/\w.frozen? ⟨g,i,none⟩=false:=by
 refine⟨?_,h.2.1.frozen i⟩
 rw[h.2.1.cell,List.getElem?_toArray]
 exact hv
end oG
end Go.Proofs.YtbemmjnjoabadaaGreatDoor
