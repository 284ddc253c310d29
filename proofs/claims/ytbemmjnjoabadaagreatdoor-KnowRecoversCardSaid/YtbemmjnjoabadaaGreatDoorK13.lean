/- part 13 -/
import Derived.OrdersIn
import Derived.OrdersHeld
import Derived.Laws.MakeOwn
import Derived.Test.YtbemmjnjoabadaaGreatDoorK12
set_option linter.unusedVariables false
set_option linter.unusedSimpArgs false
set_option maxHeartbeats 4000000
set_option maxRecDepth 100000
namespace Go.Proofs.YtbemmjnjoabadaaGreatDoor
namespace BQ
open Go.RowKit
section
variable {P:Program} {r n:Nat} {Q:Exit->Act->World->Prop} {ops:Array Oper}
theorem aqe{o:Oper}{a:Act}{K:Act->World->Prop}{res:Result Next}(h:o.upon P a K Q res):o.uponIn (Fence.wide.inRound r) n P a K Q res:=by
 cases res with
 |ok nx w'=>
  cases nx with
  |value v=>exact h
  |skip=>exact h
  |defer d=>exact h
  |enter f args=>exact⟨fun hd=>by simp[Fence.wide]at hd,CallsIn.inRound r (callsIn_wide.2 h)⟩
  |row row args=>exact⟨fun hd=>by simp[Fence.wide]at hd,fun c cs _=>let ⟨v,w',hr,s⟩:=h c cs;⟨v,w',hr,stepsIn_wide.2 s⟩⟩
  |_=>exact(h:False).elim
 |halt x w'=>
  cases x with
  |panic v=>exact h
  |_=>exact(h:False).elim
theorem ae7{o:Oper}{a:Act}{w:World}{K:Act->World->Prop}(hd:∀c,o.op≠ .defer c)(h:o.wp P a w K Q):o.wpIn (Fence.wide.inRound r) n P a w K Q:=by
 refine⟨fun _ _=>trivial,?_⟩
 rw[Oper.semAt_eq _ _ _ hd]
 exact aqe h
theorem aqf(hQ:¬LetsOut Q)(hd:∀(i:Nat) (o:Oper),ops[i]?=some o->∀c,o.op≠Op.defer c):∀(l:List Nat) (a:Act) (w:World),wpOps P ops Q l a w->wpOpsIn (Fence.wide.inRound r) n P ops Q l a w:=by
 intro l
 induction l with
 |nil=>intro a w h;exact h
 |cons i rest ih=>
  intro a w h
  unfold wpOps at h
  unfold wpOpsIn
  cases ho:ops[i]? with
  |none=>
   rw[ho]at h
   exact ih a w h
  |some o=>
   rw[ho]at h
   dsimp only at h⊢
   split at h
   ·rename_i hw
    rw[if_pos hw]
    rcases h with h|⟨-,h⟩
    ·exact Oper.wpIn_mono (fun a w hh=>ih a w hh) (ae7 (hd i o ho) h)
    ·exact absurd h hQ
   ·rename_i hw
    rw[if_neg hw]
    exact⟨fun _ _=>trivial,ih _ _ h⟩
def PV(ops:Array Oper):Bool:=ops.all fun(o:Oper)=>match o.op with| .defer _=>false|_=>true
theorem aqg(h:PV ops=true):∀(i:Nat) (o:Oper),ops[i]?=some o->∀c,o.op≠Op.defer c:=by
 intro i o ho c hc
 have h1:=(Array.all_eq_true_iff_forall_mem.1 h) o (Array.mem_of_getElem? ho)
 rw[hc]at h1
 cases h1
theorem aqh{id:Nat}{a:Act}{w:World}(hm:P.follows .mixedOrders=true)(hQ:¬LetsOut Q)(hd:PV ops=true)
 (h:wpAny P .any ops Q ops.size (Array.replicate ops.size false) a {w with drawn:=w.drawn+1}):(Code.region id ops true).wpIn (Fence.wide.inRound r) n P Q a w:=
 wpIn_region_draw fun t=>by
  simp only[Region.schedule,hm,Bool.true_or,if_true]
  exact aqf hQ (aqg hd) _ _ _ (wpAny_sound ops.size t _ a _ h)
def DY(P:Program)(md:Region.Mode)(ops:Array Oper)(Q:Exit->Act->World->Prop)(S:World->Prop)(last:Nat):Nat->Array Bool->Act->World->Prop
 |0,listed,a,w=>Region.ready md ops listed=[]/\Q .normal a w
 |fuel+1,listed,a,w=>
  (Region.ready md ops listed=[]->Q .normal a w)/\
  ∀i∈Region.ready md ops listed,wpOp P ops Q i (fun a' w'=>(i≠last->S w')/\DY P md ops Q S last fuel (listed.setIfInBounds i true) a' w') a w
variable {md:Region.Mode} {S:World->Prop} {last:Nat}
theorem ae8:∀(fuel:Nat) (listed:Array Bool) (a:Act) (w:World),DY P md ops Q S last fuel listed a w->wpAny P md ops Q fuel listed a w
 |0,_,_,_,h=>h
 |fuel+1,_,_,_,h=>⟨h.1,fun i hi=>wpOp_mono (fun a' w' h'=>ae8 fuel _ a' w' h'.2) (h.2 i hi)⟩
theorem aqi{i:Nat}{oi:Oper}{v:Value}(hi:ops[i]?=some oi)(hsel:∀(j:Nat) (o:Oper) cs b,ops[j]?=some o->o.op≠ .select cs b)(hw:Region.waitsFor md ops last i=true)(hil:i≠last)
 (hQ:∀c a w,Q (.panic c) (a.put oi.dst v) w->Q (.panic c) a w):
 ∀(fuel:Nat) (listed:Array Bool) (a:Act) (w:World),
  (∀j oj,ops[j]?=some oj->j≠i->listed.getD j true=false->(∀e∈oj.after,Region.binds md e=true->e.on≠i)->oi.apart ops oj=true)->
  i∈Region.ready md ops listed->YieldsIf P ops S oi v a->S w->
  DY P md ops Q S last fuel (listed.setIfInBounds i true) (a.put oi.dst v) w->DY P md ops Q S last (fuel+1) listed a w:=by
 intro fuel
 induction fuel with
 |zero=>
  intro listed a w _ hr hy hS H
  refine⟨fun h=>(by rw[h]at hr;cases hr),fun j hj=> ?_⟩
  by_cases hji:j=i
  ·subst hji
   exact hy.wpOp hi hS ⟨fun _=>hS,H⟩
  ·have:=ready_mono hj hji
   rw[H.1]at this
   cases this
 |succ fuel ih=>
  intro listed a w hfree hr hy hS H
  refine⟨fun h=>(by rw[h]at hr;cases hr),fun j hj=> ?_⟩
  by_cases hji:j=i
  ·subst hji
   exact hy.wpOp hi hS ⟨fun _=>hS,H⟩
  ·have h1:=H.2 j (ready_mono hj hji)
   obtain⟨hjun,oj,hoj,hall⟩:=mem_ready.1 hj
   have hnot:∀e∈oj.after,Region.binds md e=true->e.on≠i:=fun e he hb heq=>by
    have h1:=hall e he hb
    have h0:=(mem_ready.1 hr).1
    rw[heq]at h1
    rcases Nat.lt_or_ge i listed.size with h'|h'
    ·simp[h']at h0 h1
     rw[h0]at h1
     cases h1
    ·simp[Array.getElem?_eq_none h']at h1
   have hjl:j≠last:=by
    rintro rfl
    obtain⟨oj',ae9,e,he,hb,heq⟩:=Region.waitsFor_spec hw
    rw[hoj]at ae9
    cases ae9
    exact hnot e he hb heq
   have h2:=wpOp_putIf hoj (hfree j oj hoj hji hjun hnot) (fun cs b=>hsel i oi cs b hi) (fun cs b=>hsel j oj cs b hoj) hQ hy h1
   have hfree':∀k ok,ops[k]?=some ok->k≠i->(listed.setIfInBounds j true).getD k true=false->
    (∀e∈ok.after,Region.binds md e=true->e.on≠i)->oi.apart ops ok=true:=fun k ok hk hki hun hno=>by
    refine hfree k ok hk hki ?_ hno
    by_cases hjk:j=k
    ·subst hjk
     exact hjun
    ·rw[getD_set_ne true hjk]at hun
     exact hun
   refine wpOp_mono (fun a' w' h3=>⟨h3.2.1,ih (listed.setIfInBounds j true) a' w' hfree' (ready_mono hr (Ne.symm hji)) h3.1 (h3.2.1 hjl) ?_⟩) h2
   rw[Array.setIfInBounds_comm _ _ hji]
   exact h3.2.2
theorem x9{i:Nat}{oi:Oper}{v:Value}{fuel:Nat}{listed:Array Bool}{a:Act}{w:World}(hi:ops[i]?=some oi)(hw:Region.waitsFor md ops last i=true)(hil:i≠last)
 (hs:Region.noSelect ops=true) (hf:Region.free md ops listed i=true) (hr:(Region.ready md ops listed).contains i=true)
 (hQ:∀c a w,Q (.panic c) (a.put oi.dst v) w->Q (.panic c) a w) (hy:YieldsIf P ops S oi v a) (hS:S w)
 (h:DY P md ops Q S last fuel (listed.setIfInBounds i true) (a.put oi.dst v) w):DY P md ops Q S last (fuel+1) listed a w:=
 aqi hi (Region.noSelect_spec hs) hw hil hQ fuel listed a w (Region.free_spec hi hf) (by simpa using hr) hy hS h
theorem MP{i:Nat}{o:Oper}{fuel:Nat}{listed:Array Bool}{a:Act}{w:World}(hr:Region.ready md ops listed=[i])(ho:ops[i]?=some o)
 (h:∀K':Act->World->Prop,(∀a w,(i≠last->S w)->DY P md ops Q S last fuel (listed.setIfInBounds i true) a w->K' a w)->if Region.wanted o (yielded ops a.tmps)=true then Oper.wp P o a w K' Q else K' (a.put o.dst undef) w):DY P md ops Q S last (fuel+1) listed a w:=by
 refine⟨(fun h0=>by rw[hr]at h0;cases h0),fun j hj=> ?_⟩
 rw[hr,List.mem_singleton]at hj
 subst hj
 exact wpOp_step ho fun K hK=>h K fun a w h1 h2=>hK a w ⟨h1,h2⟩
theorem afa{listed:Array Bool}{a:Act}{w:World}(hr:Region.ready md ops listed=[])(h:Q .normal a w):∀fuel,DY P md ops Q S last fuel listed a w
 |0=>⟨hr,h⟩
 |_+1=>⟨fun _=>h,by rw[hr];simp⟩
theorem afb{id:Nat}{a:Act}{w:World}(S:World->Prop)(last:Nat)(hm:P.follows .mixedOrders=true)(hQ:¬LetsOut Q)(hd:PV ops=true)(hS:S w.drew)
 (h:S w.drew->DY P .any ops Q S last ops.size (Array.replicate ops.size false) a w.drew):(Code.region id ops true).wpIn (Fence.wide.inRound r) n P Q a w:=
 aqh hm hQ hd (ae8 _ _ _ _ (h hS))
end
end BQ
namespace bV
open Go.RowKit aQ Mem _root_.Go.Proofs.YtbemmjnjoabadaaGreatDoor.Code aY BQ
open Sign (aO Strs.of)
attribute [local go_sem] Oper.semAt_some
theorem aqj(x y:UInt8):bits .xor .u8 (x.toNat:Int) (y.toNat:Int)=((x^^^y).toNat:Int):=by
 have hx:x.toNat<2^8:=x.toNat_lt
 have hy:y.toNat<2^8:=y.toNat_lt
 have h1:(BitVec.ofInt 8 (x.toNat:Int)).toNat=x.toNat:=by
  rw[BitVec.ofInt_natCast,BitVec.toNat_ofNat];exact Nat.mod_eq_of_lt hx
 have h2:(BitVec.ofInt 8 (y.toNat:Int)).toNat=y.toNat:=by
  rw[BitVec.ofInt_natCast,BitVec.toNat_ofNat];exact Nat.mod_eq_of_lt hy
 have hz:x.toNat^^^y.toNat<2^8:=Nat.xor_lt_two_pow hx hy
 show IntKind.u8.wrap ((BitVec.ofInt 8 (x.toNat:Int)^^^BitVec.ofInt 8 (y.toNat:Int)).toNat:Int)=_
 rw[BitVec.toNat_xor,h1,h2,IntKind.wrap_u8,UInt8.toNat_xor]
 omega
structure Inv(w0 W:World)(bd g bo:Nat)(data:ByteArray)(pre:List UInt8):Prop where
 bd:Boxed W bd 9 (.string data)
 bo:Boxed W bo 126 (.slice (some ⟨g,0,none⟩) pre.length data.size)
 row:∃cur:Array Value,W.heap[g]?=some (.cells cur 5 (0,0))/\cur.size=data.size/\∀i,i<pre.length->cur[i]?=some (.int .u8 ((data.data.toList.getD i 0^^^pre.getD i 0).toNat:Int))
 q:Q w0 W
theorem YR{W W':World}{row:Option Nat}{k:Nat}{cs:Array Value}{t:TypeId}{fz:Nat×Nat}(h:W.heap[k]?=some (.cells cs t fz))(hg:W.grownBy W' row)(hr:∀r,row=some r->∃o:Obj,W.heap[r]?=some o/\o.isCells=false):W'.heap[k]?=some (.cells cs t fz):=by
 refine(hg.block k (Array.getElem?_eq_some_iff.1 h).1 ?_).trans h
 intro e
 obtain⟨o,ho,hc⟩:=hr k e.symm
 rw[h]at ho
 cases ho
 cases hc
theorem Inv.grown{w0 W W':World}{bd g bo:Nat}{data:ByteArray}{pre:List UInt8}{row:Option Nat}(h:Inv w0 W bd g bo data pre)(hg:W.grownBy W' row)(hr:∀r,row=some r->w0.heap.size<=r/\∃o:Obj,W.heap[r]?=some o/\o.isCells=false):Inv w0 W' bd g bo data pre:=by
 have hr2:=fun r e=>(hr r e).2
 obtain⟨cur,hc,hs,hi⟩:=h.row
 exact⟨YR h.bd hg hr2,YR h.bo hg hr2,⟨cur,YR hc hg hr2,hs,hi⟩,Below.grown h.q hg h.q.size (fun k e=>(hr k e).1)⟩
theorem aqk{w0 W:World}{bd g bo bk bn:Nat}{data:ByteArray}{pre:List UInt8}{x:UInt8}(h:Inv w0 W bd g bo data pre)(hlt:pre.length<data.size)(g0:w0.heap.size<=g)(o0:w0.heap.size<=bo)(hgo:g≠bo)(hdg:bd≠g)(hdo:bd≠bo)(hkg:bk≠g)(hko:bk≠bo)(hng:bn≠g)(hno:bn≠bo)(y:UInt8)(hy:y=data.data.toList.getD pre.length 0^^^x):
 KeepsOthers W (((W.drew.alloc (.cells #[.int .u8 (y.toNat:Int)] 5)).setCell ⟨g,pre.length,none⟩ (.int .u8 (y.toNat:Int))).setCell ⟨bo,0,none⟩ (.slice (some ⟨g,0,none⟩) (pre.length+1) data.size))/\
 BR w0.heap.size bk bn W (((W.drew.alloc (.cells #[.int .u8 (y.toNat:Int)] 5)).setCell ⟨g,pre.length,none⟩ (.int .u8 (y.toNat:Int))).setCell ⟨bo,0,none⟩ (.slice (some ⟨g,0,none⟩) (pre.length+1) data.size))/\
 Inv w0 (((W.drew.alloc (.cells #[.int .u8 (y.toNat:Int)] 5)).setCell ⟨g,pre.length,none⟩ (.int .u8 (y.toNat:Int))).setCell ⟨bo,0,none⟩ (.slice (some ⟨g,0,none⟩) (pre.length+1) data.size)) bd g bo data (pre++[x]):=by
 obtain⟨cur,hc,hs,hi⟩:=h.row
 have uY:=(Array.getElem?_eq_some_iff.1 hc).1
 have hB1:Below w0.heap.size W (W.drew.alloc (.cells #[.int .u8 (y.toNat:Int)] 5)):=Below.alloc (Below.drew (Below.refl _ _)) h.q.size _
 have hc1:(W.drew.alloc (.cells #[.int .u8 (y.toNat:Int)] 5)).heap[g]?=some (.cells cur 5 (0,0)):=(Below.heap_alloc W.drew _ g uY).trans hc
 have hkeep:∀b,b≠g->b≠bo->b<W.heap.size->(((W.drew.alloc (.cells #[.int .u8 (y.toNat:Int)] 5)).setCell ⟨g,pre.length,none⟩ (.int .u8 (y.toNat:Int))).setCell ⟨bo,0,none⟩ (.slice (some ⟨g,0,none⟩) (pre.length+1) data.size)).heap[b]?=W.heap[b]?:=fun b h1 h2 h3=>
  ((Below.heap_setCell _ _ _ b h2).trans (Below.heap_setCell _ _ _ b h1)).trans (Below.heap_alloc W.drew _ b h3)
 have aqm:Boxed ((W.drew.alloc (.cells #[.int .u8 (y.toNat:Int)] 5)).setCell ⟨g,pre.length,none⟩ (.int .u8 (y.toNat:Int))) bo 126 (.slice (some ⟨g,0,none⟩) pre.length data.size):=
  ((Below.heap_setCell _ _ _ bo (Ne.symm hgo)).trans (Below.heap_alloc W.drew _ bo h.bo.lt)).trans h.bo
 refine⟨?_,?_,?_⟩
 ·exact(((KeepsOthers.drew W).trans (KeepsOthers.alloc _ _)).trans (KeepsOthers.setCell _ _ _)).trans (KeepsOthers.setCell _ _ _)
 ·refine⟨(hB1.setCell (p:=⟨g,pre.length,none⟩) g0 _).setCell (p:=⟨bo,0,none⟩) o0 _,?_,?_⟩
  ·intro cs t fz hh
   exact(hkeep bk hkg hko (Array.getElem?_eq_some_iff.1 hh).1).trans hh
  ·intro cs t fz hh
   exact(hkeep bn hng hno (Array.getElem?_eq_some_iff.1 hh).1).trans hh
 ·refine⟨(hkeep bd hdg hdo h.bd.lt).trans h.bd,?_,⟨cur.setIfInBounds pre.length (.int .u8 (y.toNat:Int)),?_,?_,?_⟩,?_⟩
  ·rw[List.length_append]
   exact aqm.set _
  ·refine(Below.heap_setCell _ _ _ g hgo).trans ?_
   simp[World.setCell,Array.getElem?_modify,hc1]
  ·rw[Array.size_setIfInBounds,hs]
  ·intro i hil
   rw[List.length_append,List.length_singleton]at hil
   rw[Array.getElem?_setIfInBounds]
   by_cases e:pre.length=i
   ·subst e
    rw[if_pos rfl,if_pos (by omega),hy]
    simp
   ·rw[if_neg e,hi i (by omega),List.getD_eq_getElem?_getD (l:=pre++[x]),List.getElem?_append_left (by omega),<-List.getD_eq_getElem?_getD]
  ·exact Below.trans h.q ((hB1.setCell (p:=⟨g,pre.length,none⟩) g0 _).setCell (p:=⟨bo,0,none⟩) o0 _)
theorem aqn(key bF:ByteArray)(w:World):
 Calls Tryz.prog 97 #[.string key, .string bF, .string ⟨#[]⟩] w fun e w'=>e= .returned (.string (wz key bF ⟨#[]⟩))/\Q w w':=by
 go_enter Tryz.func97,Tryz.ntmps97
 go_wp2
 go_ret
 exact⟨rfl,aO _ _ _⟩
theorem aqo(key bF data:ByteArray)(w:World)(hT:Tab w)(hz:key.size+bF.size<=140737488355000)(hd:data.size<=140737488355328)(h0:0<data.size):
 Calls Tryz.prog 97 #[.string key, .string bF, .string data] w fun e w'=>e= .returned (.string (wz key bF data))/\Q w w':=by
 have he:data.toList.isEmpty=false:=by
  have:=ab6 data h0
  simpa using this
 obtain⟨i0,hi,hz0,hz1,hz2⟩:=info_parts Code.Dt
 have hmk:∀w:World,(Instr.makeSlice 126 (.int .i64 0) (.int .i64 (data.size:Int))).run Tryz.prog w= .ok (.slice (some ⟨w.heap.size,0,none⟩) 0 data.size) (w.alloc (.cells (madeCells (Value.int .u8 0).cells data.size) 5)):=by
  intro w
  have:=run_make (P:=Tryz.prog) w 126 5 i0 (.int .u8 0) Tryz.underlying126 hi hz0 .i64 .i64 0 (data.size:Int) (by decide) (by omega) (by rw[hz2];omega) (by omega)
  rw[hz1]at this
  simpa using this
 refine(callsIn_wide (n:=6)).1 ?_
 have hwf:∀f,Fence.wide.fn f:=fun _=>trivial
 refine callsIn_of_wp_marks Tryz.func97 rfl trivial ?_ rfl
 simp only[Tryz.ntmps97,List.size_toArray,List.length_cons,List.length_nil,Nat.reduceAdd,Nat.reduceSub,Array.replicate_succ,Array.replicate_zero,List.push_toArray,List.append_toArray,List.nil_append,List.cons_append]
 gi_wp2_with (gi_at_call 149;refine(callsIn_wide.2 (aqd key bF _)).mono ?_;rintro e w' ⟨rfl,rfl⟩)
 obtain⟨W0,hW0⟩:∃W0,(((((w.alloc (.cells #[.string data] 9)).alloc (.cells (madeCells #[.int .u8 0] data.size) 5)).alloc (.cells #[.slice (some ⟨w.heap.size+1,0,none⟩) 0 data.size] 126)).alloc (.cells #[.string key] 9)).alloc (.cells #[.string bF] 9))=W0:=⟨_,rfl⟩
 have hsz:W0.heap.size=w.heap.size+5:=by rw[<-hW0];simp
 have dR:Q w W0:=by rw[<-hW0];exact Q.trans (Q.trans (Q.trans (Q.trans (aO _ _ _) (aO _ _ _)) (aO _ _ _)) (aO _ _ _)) (aO _ _ _)
 have hbk:Boxed W0 (w.heap.size+1+1+1) 9 (.string key):=by
  rw[<-hW0]
  have:=Boxed.new (((w.alloc (.cells #[.string data] 9)).alloc (.cells (madeCells #[.int .u8 0] data.size) 5)).alloc (.cells #[.slice (some ⟨w.heap.size+1,0,none⟩) 0 data.size] 126)) 9 (.string key)
  simp only[World.size_alloc]at this
  exact this.alloc _
 have hbn:Boxed W0 (w.heap.size+1+1+1+1) 9 (.string bF):=by
  rw[<-hW0]
  have:=Boxed.new ((((w.alloc (.cells #[.string data] 9)).alloc (.cells (madeCells #[.int .u8 0] data.size) 5)).alloc (.cells #[.slice (some ⟨w.heap.size+1,0,none⟩) 0 data.size] 126)).alloc (.cells #[.string key] 9)) 9 (.string bF)
  simp only[World.size_alloc]at this
  exact this
 have hinv:Inv w W0 w.heap.size (w.heap.size+1) (w.heap.size+1+1) data []:=by
  refine⟨?_,?_,⟨madeCells #[.int .u8 0] data.size,?_,by simp[size_madeCells],fun i hi=>by simp at hi⟩,dR⟩
  ·rw[<-hW0]
   exact((((Boxed.new w 9 (.string data)).alloc _).alloc _).alloc _).alloc _
  ·rw[<-hW0]
   have:=Boxed.new ((w.alloc (.cells #[.string data] 9)).alloc (.cells (madeCells #[.int .u8 0] data.size) 5)) 126 (.slice (some ⟨w.heap.size+1,0,none⟩) 0 data.size)
   simp only[World.size_alloc]at this
   exact(this.alloc _).alloc _
  ·rw[<-hW0]
   have:=ah.new' (w.alloc (.cells #[.string data] 9)) 5 (madeCells #[.int .u8 0] data.size) (g:=w.heap.size+1) (by simp)
   exact((this.alloc _).alloc _).alloc _
 rw[hW0]
 clear hW0 hmk
 refine ap6 rfl (by decide) (gf:=196) (lb:= #[.pointer (some ⟨w.heap.size+1+1+1,0,none⟩), .pointer (some ⟨w.heap.size+1+1+1+1,0,none⟩)]) rfl trivial (enters_of Tryz.func196 (by kernel_rfl) rfl)
  (aqc 5 (by decide) _ _ key bF w hT data.size hd hz W0 dR hbk hbn) (fun h k=>BR.trans h k) (fun W l o o' hl h hc _=>BR.putObj W l o o' (by omega) h hc) (Below.refl _ _) (fun _=>rfl)
  (fun pre W=>pre.length<data.size/\Inv w W w.heap.size (w.heap.size+1) (w.heap.size+1+1) data pre)
  (fun c pre W=>c= .exit 0/\pre.length=data.size/\Inv w W w.heap.size (w.heap.size+1) (w.heap.size+1+1) data pre)
  (fun s A B row hs hg hr=>⟨hs.1,hs.2.grown hg (fun r e=>⟨by have:=(hr r e).1;omega,(hr r e).2⟩)⟩)
  (fun c s A B row hs hg hr=>⟨hs.1,hs.2.1,hs.2.2.grown hg (fun r e=>⟨by have:=(hr r e).1;omega,(hr r e).2⟩)⟩)
  (fun pre W h=>h.1) ⟨h0,hinv⟩
  (fun x=>{tmps:= #[.string key, .string bF, .string data,undef,undef, .pointer (some ⟨w.heap.size,0,none⟩), .string ⟨#[]⟩, .pointer (some ⟨w.heap.size+1+1,0,none⟩), .int .u8 (x.toNat:Int), .string data, .bool false, .string data, .int .i64 (data.size:Int), .slice (some ⟨w.heap.size+1,0,none⟩) 0 data.size, .string key, .string bF, .func (.func 196) #[] #[.pointer (some ⟨w.heap.size+1+1+1,0,none⟩), .pointer (some ⟨w.heap.size+1+1+1+1,0,none⟩)], .int .u8 (x.toNat:Int),undef,undef,undef,undef,undef,undef,undef,undef,undef,undef,undef,undef,undef,undef,undef,undef],defers:=[]}) ?assign ?body ?stop
 case assign=>
  intro l x W K hK
  gi_wp2
  exact hK
 case body=>
  rintro l pre x W ⟨hlt,hI⟩
  have hmx:Tryz.prog.follows .mixedOrders=true:=by kernel_rfl
  have hcd:=hI.bd.cell
  have hco:=hI.bo.cell
  have hfo:=hI.bo.frozen
  obtain⟨cur,hcur,hcs,-⟩:=hI.row
  obtain⟨y,hy⟩:∃y,y=data.data.toList.getD pre.length 0^^^x:=⟨_,rfl⟩
  have hst:=aqk (bk:=w.heap.size+1+1+1) (bn:=w.heap.size+1+1+1+1) hI hlt (by omega) (by omega) (by omega) (by omega) (by omega) (by omega) (by omega) (by omega) (by omega) y hy
  have hdat:data.data.toList.getD pre.length 0=data[pre.length]:=by
   rw[List.getD_eq_getElem?_getD,List.getElem?_eq_getElem (by rw[ny];exact hlt)]
   rfl
  rw[hdat]at hy
  have axP:bits .xor .u8 (data[pre.length].toNat:Int) (x.toNat:Int)=(y.toNat:Int):=by rw[aqj,hy]
  have hgA:(W.alloc (.cells #[.int .u8 (y.toNat:Int)] 5)).heap[w.heap.size+1]?=some (.cells cur 5 (0,0)):=(Below.heap_alloc W _ _ (Array.getElem?_eq_some_iff.1 hcur).1).trans hcur
  have hgk:(W.alloc (.cells #[.int .u8 (y.toNat:Int)] 5)).cell? ⟨w.heap.size+1,pre.length,none⟩=some (cur[pre.length]'(by omega)):=by
   rw[cell_of_row _ _ _ cur _ _ hgA,Array.getElem?_eq_getElem (by omega)]
  have hgf:(W.alloc (.cells #[.int .u8 (y.toNat:Int)] 5)).frozen? ⟨w.heap.size+1,pre.length,none⟩=false:=by simp[World.frozen?,hgA]
  have UQ:Boxed (W.alloc (.cells #[.int .u8 (y.toNat:Int)] 5)) (w.heap.size+1+1) 126 (.slice (some ⟨w.heap.size+1,0,none⟩) pre.length data.size):=hI.bo.alloc _
  have hbd2:Boxed (W.alloc (.cells #[.int .u8 (y.toNat:Int)] 5)) w.heap.size 9 (.string data):=hI.bd.alloc _
  have afc:=UQ.cell
  have axQ:=UQ.frozen
  have hcd2:=hbd2.cell
  have afd:Boxed ((W.alloc (.cells #[.int .u8 (y.toNat:Int)] 5)).setCell ⟨w.heap.size+1,pre.length,none⟩ (.int .u8 (y.toNat:Int))) (w.heap.size+1+1) 126 (.slice (some ⟨w.heap.size+1,0,none⟩) pre.length data.size):=(Below.heap_setCell _ _ _ _ (by dsimp only;omega)).trans UQ
  have afe:Boxed ((W.alloc (.cells #[.int .u8 (y.toNat:Int)] 5)).setCell ⟨w.heap.size+1,pre.length,none⟩ (.int .u8 (y.toNat:Int))) w.heap.size 9 (.string data):=(Below.heap_setCell _ _ _ _ (by dsimp only;omega)).trans hbd2
  have aff:=afd.cell
  have afg:=afe.cell
  have hroom:pre.length+1<=data.size:=by omega
  generalize (cur[pre.length]'(by omega))=old at*
  have k0:(0:Int)<=(pre.length:Int):=by omega
  have k1:(pre.length:Int)<(data.size:Int):=by omega
  have HST:=Lib.hid hst
  have hpl:(pre++[x]).length=pre.length+1:=by simp
  have MQ:=Lib.hid hpl
  clear hst UQ hbd2 afd afe hcur hcs hy hI hpl hdat hgA
  by_cases hend:pre.length+1=data.size
  ·have hb:((pre.length:Int)+1==(data.size:Int))=true:=by simp;omega
   have HE:=Lib.hid hend
   clear hend
   gi_wp2
   refine afb (fun w'=>w'.cell? ⟨w.heap.size+1+1,0,none⟩=some (.slice (some ⟨w.heap.size+1,0,none⟩) pre.length data.size)/\w'.cell? ⟨w.heap.size,0,none⟩=some (.string data)) 9 hmx (by rintro⟨a,w,h⟩;exact h) (by kernel_rfl) ⟨hco,hcd⟩ (fun hS=> ?_)
   refine x9 (i:=0) rfl (by kernel_rfl) (by decide) (by kernel_rfl) (by kernel_rfl) (by kernel_rfl) (fun _ _ _ h=>h) (v:= ?_) (Or.inl ⟨by rfl,?_⟩) hS ?_
   rotate_left
   ·intro w' hw'
    obtain⟨s1,s2⟩:=hw'
    go_simp
    try with_reducible rfl
   simp only[Act.put,List.setIfInBounds_toArray,List.set_cons_zero,List.set_cons_succ]
   refine x9 (i:=1) rfl (by kernel_rfl) (by decide) (by kernel_rfl) (by kernel_rfl) (by kernel_rfl) (fun _ _ _ h=>h) (v:= ?_) (Or.inl ⟨by rfl,?_⟩) hS ?_
   rotate_left
   ·intro w' hw'
    obtain⟨s1,s2⟩:=hw'
    go_simp
    try with_reducible rfl
   simp only[Act.put,List.setIfInBounds_toArray,List.set_cons_zero,List.set_cons_succ]
   refine x9 (i:=2) rfl (by kernel_rfl) (by decide) (by kernel_rfl) (by kernel_rfl) (by kernel_rfl) (fun _ _ _ h=>h) (v:= ?_) (Or.inl ⟨by rfl,?_⟩) hS ?_
   rotate_left
   ·intro w' hw'
    obtain⟨s1,s2⟩:=hw'
    go_simp
    try with_reducible rfl
   simp only[Act.put,List.setIfInBounds_toArray,List.set_cons_zero,List.set_cons_succ]
   refine x9 (i:=3) rfl (by kernel_rfl) (by decide) (by kernel_rfl) (by kernel_rfl) (by kernel_rfl) (fun _ _ _ h=>h) (v:= ?_) (Or.inl ⟨by rfl,?_⟩) hS ?_
   rotate_left
   ·intro w' hw'
    obtain⟨s1,s2⟩:=hw'
    go_simp
    try with_reducible rfl
   simp only[Act.put,List.setIfInBounds_toArray,List.set_cons_zero,List.set_cons_succ]
   refine x9 (i:=4) rfl (by kernel_rfl) (by decide) (by kernel_rfl) (by kernel_rfl) (by kernel_rfl) (fun _ _ _ h=>h) (v:= ?_) (Or.inl ⟨by rfl,?_⟩) hS ?_
   rotate_left
   ·intro w' hw'
    obtain⟨s1,s2⟩:=hw'
    go_simp
    try with_reducible rfl
   simp only[Act.put,List.setIfInBounds_toArray,List.set_cons_zero,List.set_cons_succ]
   refine x9 (i:=5) rfl (by kernel_rfl) (by decide) (by kernel_rfl) (by kernel_rfl) (by kernel_rfl) (fun _ _ _ h=>h) (v:= ?_) (Or.inl ⟨by rfl,?_⟩) hS ?_
   rotate_left
   ·intro w' hw'
    obtain⟨s1,s2⟩:=hw'
    go_simp
    try with_reducible rfl
   simp only[Act.put,List.setIfInBounds_toArray,List.set_cons_zero,List.set_cons_succ]
   refine x9 (i:=6) rfl (by kernel_rfl) (by decide) (by kernel_rfl) (by kernel_rfl) (by kernel_rfl) (fun _ _ _ h=>h) (v:= ?_) (Or.inl ⟨by rfl,?_⟩) hS ?_
   rotate_left
   ·intro w' hw'
    obtain⟨s1,s2⟩:=hw'
    go_simp
    try with_reducible rfl
   simp only[Act.put,List.setIfInBounds_toArray,List.set_cons_zero,List.set_cons_succ]
   refine MP (i:=7) (by kernel_rfl) rfl (fun K hK=> ?_)
   go_simp
   refine hK _ _ (fun _=>⟨afc,hcd2⟩) ?_
   clear hK K
   refine MP (i:=8) (by kernel_rfl) rfl (fun K hK=> ?_)
   go_simp
   refine hK _ _ (fun _=>⟨aff,afg⟩) ?_
   clear hK K
   refine MP (i:=9) (by kernel_rfl) rfl (fun K hK=> ?_)
   go_simp
   refine hK _ _ (fun h=>absurd rfl h) ?_
   clear hK K
   refine afa (by kernel_rfl) ?_ _
   gi_wp2
   exact⟨HST.out.1,rfl,by rw[MQ.out,HE.out],HST.out.2.2⟩
  ·have hb:((pre.length:Int)+1==(data.size:Int))=false:=by simp;omega
   have hle:pre.length+1<data.size:=by omega
   clear hend
   gi_wp2
   refine afb (fun w'=>w'.cell? ⟨w.heap.size+1+1,0,none⟩=some (.slice (some ⟨w.heap.size+1,0,none⟩) pre.length data.size)/\w'.cell? ⟨w.heap.size,0,none⟩=some (.string data)) 9 hmx (by rintro⟨a,w,h⟩;exact h) (by kernel_rfl) ⟨hco,hcd⟩ (fun hS=> ?_)
   refine x9 (i:=0) rfl (by kernel_rfl) (by decide) (by kernel_rfl) (by kernel_rfl) (by kernel_rfl) (fun _ _ _ h=>h) (v:= ?_) (Or.inl ⟨by rfl,?_⟩) hS ?_
   rotate_left
   ·intro w' hw'
    obtain⟨s1,s2⟩:=hw'
    go_simp
    try with_reducible rfl
   simp only[Act.put,List.setIfInBounds_toArray,List.set_cons_zero,List.set_cons_succ]
   refine x9 (i:=1) rfl (by kernel_rfl) (by decide) (by kernel_rfl) (by kernel_rfl) (by kernel_rfl) (fun _ _ _ h=>h) (v:= ?_) (Or.inl ⟨by rfl,?_⟩) hS ?_
   rotate_left
   ·intro w' hw'
    obtain⟨s1,s2⟩:=hw'
    go_simp
    try with_reducible rfl
   simp only[Act.put,List.setIfInBounds_toArray,List.set_cons_zero,List.set_cons_succ]
   refine x9 (i:=2) rfl (by kernel_rfl) (by decide) (by kernel_rfl) (by kernel_rfl) (by kernel_rfl) (fun _ _ _ h=>h) (v:= ?_) (Or.inl ⟨by rfl,?_⟩) hS ?_
   rotate_left
   ·intro w' hw'
    obtain⟨s1,s2⟩:=hw'
    go_simp
    try with_reducible rfl
   simp only[Act.put,List.setIfInBounds_toArray,List.set_cons_zero,List.set_cons_succ]
   refine x9 (i:=3) rfl (by kernel_rfl) (by decide) (by kernel_rfl) (by kernel_rfl) (by kernel_rfl) (fun _ _ _ h=>h) (v:= ?_) (Or.inl ⟨by rfl,?_⟩) hS ?_
   rotate_left
   ·intro w' hw'
    obtain⟨s1,s2⟩:=hw'
    go_simp
    try with_reducible rfl
   simp only[Act.put,List.setIfInBounds_toArray,List.set_cons_zero,List.set_cons_succ]
   refine x9 (i:=4) rfl (by kernel_rfl) (by decide) (by kernel_rfl) (by kernel_rfl) (by kernel_rfl) (fun _ _ _ h=>h) (v:= ?_) (Or.inl ⟨by rfl,?_⟩) hS ?_
   rotate_left
   ·intro w' hw'
    obtain⟨s1,s2⟩:=hw'
    go_simp
    try with_reducible rfl
   simp only[Act.put,List.setIfInBounds_toArray,List.set_cons_zero,List.set_cons_succ]
   refine x9 (i:=5) rfl (by kernel_rfl) (by decide) (by kernel_rfl) (by kernel_rfl) (by kernel_rfl) (fun _ _ _ h=>h) (v:= ?_) (Or.inl ⟨by rfl,?_⟩) hS ?_
   rotate_left
   ·intro w' hw'
    obtain⟨s1,s2⟩:=hw'
    go_simp
    try with_reducible rfl
   simp only[Act.put,List.setIfInBounds_toArray,List.set_cons_zero,List.set_cons_succ]
   refine x9 (i:=6) rfl (by kernel_rfl) (by decide) (by kernel_rfl) (by kernel_rfl) (by kernel_rfl) (fun _ _ _ h=>h) (v:= ?_) (Or.inl ⟨by rfl,?_⟩) hS ?_
   rotate_left
   ·intro w' hw'
    obtain⟨s1,s2⟩:=hw'
    go_simp
    try with_reducible rfl
   simp only[Act.put,List.setIfInBounds_toArray,List.set_cons_zero,List.set_cons_succ]
   refine MP (i:=7) (by kernel_rfl) rfl (fun K hK=> ?_)
   go_simp
   refine hK _ _ (fun _=>⟨afc,hcd2⟩) ?_
   clear hK K
   refine MP (i:=8) (by kernel_rfl) rfl (fun K hK=> ?_)
   go_simp
   refine hK _ _ (fun _=>⟨aff,afg⟩) ?_
   clear hK K
   refine MP (i:=9) (by kernel_rfl) rfl (fun K hK=> ?_)
   go_simp
   refine hK _ _ (fun h=>absurd rfl h) ?_
   clear hK K
   refine afa (by kernel_rfl) ?_ _
   gi_wp2
   exact⟨HST.out.1,HST.out.2.1,by rw[MQ.out];exact hle,HST.out.2.2⟩
 case stop=>
  rintro D c pre W hD hSp ⟨rfl,hlen,hI⟩ hK
  have hco:=hI.bo.cell
  obtain⟨cur,hcur,hcs,hci⟩:=hI.row
  have hml:(DW key bF data data.size).length=data.size:=UM _ _ _ _
  have hcv:=run_convert_bytes_back (P:=Tryz.prog) W 126 9 5 ⟨w.heap.size+1,0,none⟩ data.size (DW key bF data data.size) Tryz.underlying126 Tryz.underlying5 Tryz.underlying9 (fun j hj=>by
   have hadd:(⟨w.heap.size+1,0,none⟩:Addr).add j=⟨w.heap.size+1,j,none⟩:=by unfold Addr.add;split<;>simp_all
   rw[hml]at hj
   rw[hadd,cell_of_row W _ j cur _ _ hcur,hci j (by omega)]
   have hp:pre.getD j 0=Hq key bF j:=by
    rw[hSp,hlen]
    simp[yZ,List.getD_eq_getElem?_getD,hj]
   rw[hp]
   simp only[DW,List.getElem_map,List.getElem_range])
  rw[hml]at hcv
  rw[hlen]at hco
  have hqq:=hI.q
  clear hcur hcs hci hml hI
  gi_wp2
  refine⟨by simp, .inl ⟨_,_,rfl,run_takeDeferred hK,?_⟩⟩
  exact⟨_,results_tmp rfl _ _ _,rfl,Below.trans hqq ((Below.refl w.heap.size W).grown (grownBy_putObj' W D _) (by have:=(Array.getElem?_eq_some_iff.1 hK).1;omega) (fun k e=>by cases e;omega))⟩
end bV
namespace bV
open Go.RowKit aQ Mem _root_.Go.Proofs.YtbemmjnjoabadaaGreatDoor.Code aY
open Sign (aO Strs.of)
theorem afh(key bF data:ByteArray)(w:World)(hT:Tab w)(hz:key.size+bF.size<=140737488355000)(hd:data.size<=140737488355328):
 Calls Tryz.prog 97 #[.string key, .string bF, .string data] w fun e w'=>e= .returned (.string (wz key bF data))/\Q w w':=by
 by_cases h:0<data.size
 ·exact aqo key bF data w hT hz hd h
 ·have hd0:data=⟨#[]⟩:=by
   apply Bc
   have:data.data.toList.length=0:=by rw[ny];omega
   exact List.eq_nil_of_length_eq_zero this
  rw[hd0]
  exact aqn key bF w
def DZ(b:BN):Array Value:= #[.string b.1, .string b.2.1, .string b.2.2]
def YS(b:BN):Value:= .agg (DZ b)
theorem aqp(b:BN):(DZ b).all (·.oneCell')=true:=by simp[DZ,Value.oneCell']
theorem afi(key bF plain:ByteArray)(w:World)(hT:Tab w)(hz:key.size+bF.size+plain.size<=140737488355000):
 Calls Tryz.prog 110 #[.string key, .string bF, .string plain] w fun e w'=>e= .returned (YS (sK key bF plain))/\Q w w':=by
 have hk:=Lib.hid (aqp (sK key bF plain))
 have hb0:=ah.new w 32 (DZ (⟨#[]⟩,⟨#[]⟩,⟨#[]⟩))
 have hq0:=aO w (DZ (⟨#[]⟩,⟨#[]⟩,⟨#[]⟩)) 32
 have hms:=UN key bF plain
 have HS:=Lib.hid (show key.size+bF.size+(wz key bF plain).size<=140737488355000 by omega)
 clear hms
 go_enter Tryz.func110,Tryz.ntmps110
 go_wp2_with fail
 refine(afh _ _ _ _ (hT.q hq0) (by omega) (by omega)).mono ?_
 rintro e w1 ⟨rfl,hq1⟩
 have hb:=hb0.q hq1
 have hq1:=Q.trans hq0 hq1
 go_wp2_with fail
 refine(ae2 _ _ _ _ (hT.q hq1) HS.out).mono ?_
 rintro e w2 ⟨rfl,hq2⟩
 have hb:=hb.q hq2
 have hq:=Q.trans hq1 hq2
 go_wp2_with (refine wpList_store_row rfl 32 _ _ rfl w.heap.size (DZ (sK key bF plain)) rfl rfl 32 (DZ (⟨#[]⟩,⟨#[]⟩,⟨#[]⟩)) hb (by kernel_rfl) (by kernel_rfl) hk.out ?_)
 exact bodyPost_ret (results_cell_row rfl _ _ w.heap.size 32 (DZ (sK key bF plain)) (0,0) _ rfl (ah.setRow hb _) Tryz.underlying32 rfl (by kernel_rfl)) rfl ⟨rfl,below_setRow hq (Nat.le_refl _) _⟩
def sN(w0 w:World)(g:Nat)(n d t:ByteArray):Prop:=Q w0 w/\Tab w/\ah w g 32 #[.string n, .string d, .string t]
theorem sN.q{w0 w w':World}{g:Nat}{n d t:ByteArray}(h:sN w0 w g n d t)(hq:Q w w'):sN w0 w' g n d t:=⟨Q.trans h.1 hq,h.2.1.q hq,h.2.2.q hq⟩
theorem sN.held{w0 w:World}{g:Nat}{n d t:ByteArray}(h:sN w0 w g n d t):
 w.cell? ⟨g,0,none⟩=some (.string n)/\w.cell? ⟨g,1,none⟩=some (.string d)/\w.cell? ⟨g,2,none⟩=some (.string t)/\sN w0 w g n d t:=⟨h.2.2.cell 0,h.2.2.cell 1,h.2.2.cell 2,h⟩
theorem sN.step{w0 w w':World}{g:Nat}{n d t:ByteArray}(h:w.cell? ⟨g,0,none⟩=some (.string n)/\w.cell? ⟨g,1,none⟩=some (.string d)/\w.cell? ⟨g,2,none⟩=some (.string t)/\sN w0 w g n d t)(hq:Q w w'):
 w'.cell? ⟨g,0,none⟩=some (.string n)/\w'.cell? ⟨g,1,none⟩=some (.string d)/\w'.cell? ⟨g,2,none⟩=some (.string t)/\sN w0 w' g n d t:=(h.2.2.2.q hq).held
theorem sN.new(w:World)(hT:Tab w)(n d t:ByteArray):sN w (w.alloc (.cells #[.string n, .string d, .string t] 32)) w.heap.size n d t:=⟨aO w _ _,hT.q (aO w _ _),ah.new w _ _⟩
theorem OO{m o:ByteArray}(h:m≠o):m.toList≠o.toList:=by
 rw[ByteArray.toList_eq,ByteArray.toList_eq]
 exact fun e=>h (Bc e)
theorem aqr(key n d r:ByteArray)(w:World)(h:yY key n d=r)(hT:Tab w)(hz:key.size+n.size+d.size<=140737488355000):
 Calls Tryz.prog 96 #[.string key, .string n, .string d] w fun e w'=>e= .returned (.string r)/\Q w w':=h▸ae2 key n d w hT hz
theorem afj{w0 w:World}{g:Nat}{n d t:ByteArray}(key a b r:ByteArray)(h:w.cell? ⟨g,0,none⟩=some (.string n)/\w.cell? ⟨g,1,none⟩=some (.string d)/\w.cell? ⟨g,2,none⟩=some (.string t)/\sN w0 w g n d t)(hr:yY key a b=r)(hz:key.size+a.size+b.size<=140737488355000):
 Calls Tryz.prog 96 #[.string key, .string a, .string b] w fun e w'=>e= .returned (.string r)/\Q w w':=aqr key a b r w hr h.2.2.2.2.1 hz
theorem aqs{w0 w:World}{g:Nat}{n d t:ByteArray}(key a b r:ByteArray)(h:w.cell? ⟨g,0,none⟩=some (.string n)/\w.cell? ⟨g,1,none⟩=some (.string d)/\w.cell? ⟨g,2,none⟩=some (.string t)/\sN w0 w g n d t)(hr:wz key a b=r)(hz:key.size+a.size+b.size<=140737488355000):
 Calls Tryz.prog 97 #[.string key, .string a, .string b] w fun e w'=>e= .returned (.string r)/\Q w w':=hr▸afh key a b w h.2.2.2.2.1 (by omega) (by omega)
theorem UR(key n d t:ByteArray)(w:World)(hT:Tab w)(hz:key.size+n.size+d.size<=140737488355000):
 Calls Tryz.prog 47 #[.string key, .agg #[.string n, .string d, .string t]] w fun e w'=>e= .returned (.tuple #[.string (nR key (n,d,t)).1, .bool (nR key (n,d,t)).2])/\Q w w':=by
 have hX:=sN.new w hT n d t
 obtain⟨r,hr⟩:∃r,yY key n d=r:=⟨_,rfl⟩
 obtain⟨c0,c1,c2,-⟩:=hX.held
 by_cases htr:t=r
 ·rw[apX key (n,d,t) (show t=yY key n d by rw[htr,<-hr])]
  have t1:t.toList=r.toList:=by rw[htr]
  clear htr
  dsimp only
  obtain⟨p,hp⟩:∃p,wz key n d=p:=⟨_,rfl⟩
  rw[hp]
  go_enter Tryz.func47,Tryz.ntmps47
  go_wp2_with fail
  go_region_held3 (fun w'=>w'.cell? ⟨w.heap.size,0,none⟩=some (.string n)/\w'.cell? ⟨w.heap.size,1,none⟩=some (.string d)/\w'.cell? ⟨w.heap.size,2,none⟩=some (.string t)/\sN w w' w.heap.size n d t)
   (first|exact(hX.q (Q.refl _).drew).held|exact sN.step (by assumption) hq)
   (first
     |(go_at_call 96;refine(afj _ _ _ _ (by assumption) hr hz).mono ?_;rintro e w' ⟨rfl,hq⟩))
  all_goals
   have hY:sN w w' w.heap.size n d t:=by rename_i hh;exact hh.2.2.2
   generalize w'=W1 at*
   clear c0 c1 c2 hr t1
   obtain⟨c0,c1,c2,-⟩:=hY.held
   go_wp2_with fail
   refine(aqs _ _ _ _ hY.held hp hz).mono ?_
   rintro e w' ⟨rfl,hq⟩
   have hZ:=Q.trans hY.1 hq
   go_wp2
   go_ret2
   exact⟨rfl,hZ⟩
 ·rw[apW key (n,d,t) (show t≠yY key n d from fun h=>htr (Eq.trans h hr))]
  have t1:(t.toList==r.toList)=false:=by simpa using OO htr
  clear htr
  dsimp only
  go_enter Tryz.func47,Tryz.ntmps47
  go_wp2_with fail
  go_region_held3 (fun w'=>w'.cell? ⟨w.heap.size,0,none⟩=some (.string n)/\w'.cell? ⟨w.heap.size,1,none⟩=some (.string d)/\w'.cell? ⟨w.heap.size,2,none⟩=some (.string t)/\sN w w' w.heap.size n d t)
   (first|exact(hX.q (Q.refl _).drew).held|exact sN.step (by assumption) hq)
   (first
     |(go_at_call 96;refine(afj _ _ _ _ (by assumption) hr hz).mono ?_;rintro e w' ⟨rfl,hq⟩))
  all_goals
   have hZ:Q w w':=by rename_i hh;exact hh.2.2.2.1
   generalize w'=W1 at*
   clear c0 c1 c2 hr hX
   go_wp2
   go_ret2
   exact⟨rfl,hZ⟩
end bV
end Go.Proofs.YtbemmjnjoabadaaGreatDoor
