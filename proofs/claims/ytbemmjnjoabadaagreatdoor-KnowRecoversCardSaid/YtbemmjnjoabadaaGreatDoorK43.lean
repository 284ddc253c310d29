/- part 43 -/
import Derived.Test.YtbemmjnjoabadaaGreatDoorProg
import Derived.WideShapes
import Derived.ProofKit
import Derived.OpenShut
import Derived.OpenVars
import Derived.Test.YtbemmjnjoabadaaGreatDoorCards
import Derived.Test.YtbemmjnjoabadaaGreatDoorTie
import Derived.Deep.DeepHandedRow
import Derived.Lib.LaidTab
import Derived.Test.YtbemmjnjoabadaaGreatDoorK02
set_option linter.unusedVariables false
set_option linter.unusedSimpArgs false
namespace Go.Proofs.YtbemmjnjoabadaaGreatDoor
namespace Laid
theorem abt{P:Program}{W:World}{r:Reach}{base:Nat}{i:TypeId}{v:Value}(hi:P.underlying i=some (.int .i64))(h:Cell.okWide P W r base i v):
 ∃a:Int,v= .int .i64 a/\ -9223372036854775808<=a/\a<=9223372036854775807:=by
 simp only[Cell.okWide,hi]at h
 cases v with
 |int k n=>
  simp only[Cell.ok,hi]at h
  obtain⟨rfl,h1,h2⟩:=h
  exact⟨n,rfl,h1,h2⟩
 |_=>simp[Cell.ok,hi]at h
theorem azf{P:Program}{W:World}{r:Reach}{base:Nat}{i:TypeId}{v:Value}(hi:P.underlying i=some (.int .i64))(h:Value.okWide P W r base i v):
 ∃a:Int,v= .int .i64 a/\ -9223372036854775808<=a/\a<=9223372036854775807:=by
 simp only[Value.okWide,hi]at h
 exact abt hi h
end Laid
namespace Post
open Go.ChangeShapes Go.WideShapes Go.ChangeAt Go.RowKit
theorem axq{H:Type}{enc:TypeId×Value->H}{P:Program}(hl:laidOutB P=true){W W':World}(hb:Below W.heap.size W W'):
 ∀{ts:List TypeId} {vs:List Value} {ds:List (DataW H)} {ps:List MemPlace},ts.all (fun t=>P.readableRec t&&decide (t<P.types.size))=true->(∀x∈ps,x.block<W.heap.size)->
  DataW.TrodAll enc P W 0 (fun _=>true) true ts vs ds ps->DataW.TrodAll enc P W' 0 (fun b=>decide (b<W.heap.size)) true ts vs ds ps:=by
 intro ts
 induction ts with
 |nil=>
  intro vs ds ps _ _ h
  obtain⟨rfl,rfl,rfl⟩:=trodAll_nil h
  exact trodAll_mk0
 |cons t ts ih=>
  intro vs ds ps hr hlt h
  obtain⟨v,vs',d,ds',p,q,rfl,rfl,rfl,h1,h2⟩:=trodAll_cons h
  simp only[List.all_cons,Bool.and_eq_true,decide_eq_true_eq]at hr
  exact trodAll_cons_mk (Below.trod hl hr.1.1 hr.1.2 h1 hb (fun x hx=>hlt x (List.mem_append_left _ hx))) (ih (by simpa using hr.2) (fun x hx=>hlt x (List.mem_append_right _ hx)) h2)
theorem azg{H:Type}{enc:TypeId×Value->H}{P:Program}{f:Func}{s:ChangeSpec}{apart:Bool}{W W':World}{args:Array Value}{ds gs:List (DataW H)}{before:List MemPlace}{tb:TypeId}
 (hl:laidOutB P=true) (hts:f.params.toList.all (fun t=>P.readableRec t&&decide (t<P.types.size))=true) (hvs:varsRowed P s.vars=true)
 (hrt:f.resultTypes.toList=[tb]) (hn:f.resultTypes.size=1) (hub:P.underlying tb=some .bool)
 (hW:DataW.Whole enc P f.params.toList s.vars apart W args.toList ds gs before)
 (hr:(s.fn H (ds++gs)).results=[.lit (.bool true)]) (ha:(s.fn H (ds++gs)).args=ds) (hv:(s.fn H (ds++gs)).vars=gs)
 (hb:Below W.heap.size W W'):
 s.post enc P f apart true false false W args (.bool true) W':=by
 have hW':=hW
 have hlt:=hW.lt
 obtain⟨p,q,hA,hV,rfl,hfz,hnd⟩:=hW
 refine⟨ds,gs,p++q,[],p,q,hW',?_,?_,?_,hb.frame _,fun h=>by cases h⟩
 ·rw[hr,hrt,hn]
  exact trodAll_mk1 (shut_bool hub true)
 ·rw[ha]
  exact axq hl hb hts (fun x hx=>hlt x (List.mem_append_left _ hx)) hA
 ·rw[hv]
  exact Below.trodVars hl hb hvs hV
end Post
namespace Laid
open Go.ChangeShapes Go.WideShapes Go.ChangeAt Go.RowKit
theorem own:ownKnob Tryz.prog.godebug=none:=by kernel_rfl
theorem laidOut:laidOutB Tryz.prog=true:=by kernel_rfl
theorem abu:Tryz.prog.globalNamed "agora/sum.constants" =some 1:=by kernel_rfl
theorem akm:Tryz.prog.globalNamed "agora/sum.initial" =some 0:=by kernel_rfl
theorem axr:(Tryz.prog.globals[(1:Nat)]?).map (·.type)=some 242:=by kernel_rfl
theorem axt:(Tryz.prog.globals[(0:Nat)]?).map (·.type)=some 208:=by kernel_rfl
theorem axu:Tryz.prog.cellsOf 242=64:=by kernel_rfl
theorem axv:Tryz.prog.cellsOf 208=8:=by kernel_rfl
theorem akn:Tryz.prog.cellsOf 207=1:=by kernel_rfl
theorem axw{P:Program}{W:World}{x:String×DataW Unit}{name:String}{k:IntKind}{zs:List Int}{g:Nat}{t e:TypeId}{n:Nat}
 (hg:P.globalNamed name=some g) (hty:(P.globals[g]?).map (·.type)=some t) (ht:P.underlying t=some (.array n e)) (he:P.underlying e=some (.int k)) (hce:P.cellsOf e=1) (hct:P.cellsOf t=n)
 (h:laidMet P [x,(name,Lib.tabData k zs)] W):Lib.TabIs P W name k zs:=by
 obtain⟨ps,⟨g',t',cs,fuel,p,q,hg',ht',hvar,hd,⟨g2,t2,cs2,fuel2,p2,q2,hg2,ht2,axx,hd2,_,_⟩,_⟩,_⟩:=h
 obtain rfl:=Option.some.inj (hg.symm.trans hg2)
 obtain rfl:=Option.some.inj (hty.symm.trans ht2)
 unfold Lib.TabIs
 rw[axx,<-Lib.cells_of_tab ht he hce hct hd2]
theorem ako{P:Program}{W:World}{name:String}{cs:Array Value}{g:Nat}(hg:P.globalNamed name=some g)(h:W.var? P name=some cs):∃t fr,W.heap[g]?=some (.cells cs t fr):=by
 simp only[World.var?,hg,Option.bind_some]at h
 split at h
 ·rename_i cs' t fr hh
  obtain rfl:=Option.some.inj h
  exact⟨t,fr,hh⟩
 ·cases h
theorem akp{W:World}{g:Nat}{o:Obj}(h:W.heap[g]?=some o):g<W.heap.size:=(Array.getElem?_eq_some_iff.mp h).1
theorem tab{W:World}(h:laidMetH Tryz.prog [("agora/sum.constants",Rows.laid_agora_sum_constants),("agora/sum.initial",Rows.laid_agora_sum_initial)] W):aY.Tab W:=by
 have hc:Lib.TabIs Tryz.prog W "agora/sum.constants" .u32 aY.KL:=Lib.tabIs_of_head (rest:=[("agora/sum.initial",Rows.laid_agora_sum_initial)]) abu axr Tryz.underlying242 Tryz.underlying207 akn axu h
 have hi:Lib.TabIs Tryz.prog W "agora/sum.initial" .u32 aY.HL:=axw (x:=("agora/sum.constants",Rows.laid_agora_sum_constants)) akm axt Tryz.underlying208 Tryz.underlying207 akn axv h
 obtain⟨t1,f1,h1⟩:=ako abu hc
 obtain⟨t2,f2,h2⟩:=ako akm hi
 exact⟨⟨t2,f2,h2⟩,fun i hi=>hc.cell abu i hi,akp h2,akp h1⟩
def put(cs:Array Value):Obj->Obj
 | .cells _ t frozen=> .cells cs t frozen
 |o=>o
noncomputable def laidWorld (os:Os) (args:Array Value):World:=
 {World.holding Tryz.prog os ⟨#[],args,[]⟩with heap:=((World.holding Tryz.prog os ⟨#[],args,[]⟩).heap.modify 1 (put (aY.KL.map fun z=>Value.int .u32 z).toArray)).modify 0 (put (aY.HL.map fun z=>Value.int .u32 z).toArray)}
end Laid
end Go.Proofs.YtbemmjnjoabadaaGreatDoor
