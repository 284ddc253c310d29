/- part 17 -/
import Derived.Test.YtbemmjnjoabadaaGreatDoorK16
set_option linter.unusedVariables false
set_option linter.unusedSimpArgs false
set_option maxHeartbeats 4000000
set_option maxRecDepth 100000
namespace Go.Proofs.YtbemmjnjoabadaaGreatDoor
namespace Mem
open Go.RowKit aQ
def LX(ds:List ByteArray)(d:ByteArray):Bool:=ds.any fun o=>decide (o=d)
def Ae(w:World)(b:Nat)(ds:List ByteArray):Prop:=∃L,nS .string w b L/\(∀p∈L,p.2= .bool true)/\∀d,(assoc (.string d) L).isSome=LX ds d
theorem O6(d:ByteArray):Bo .string (.string d):= .inr ⟨rfl,d,rfl⟩
theorem Ae.lt{w:World}{b:Nat}{ds:List ByteArray}(h:Ae w b ds):b<w.heap.size:=by
 obtain⟨L,h1,_⟩:=h
 exact h1.lt
theorem Ae.q{w w':World}{b:Nat}{ds:List ByteArray}(h:Ae w b ds)(hq:Q w w'):Ae w' b ds:=by
 obtain⟨L,h1,h2,h3⟩:=h
 exact⟨L,h1.q hq,h2,h3⟩
theorem Ae.made(w:World):Ae (w.alloc (.map #[] 0)) w.heap.size []:=⟨[],nS.made _ _,by simp,fun d=>by simp[assoc,LX]⟩
theorem Ae.lookup{P:Program}{t kt et:TypeId}{w:World}{b:Nat}{ds:List ByteArray}(h:Ae w b ds)(ht:P.underlying t=some (.map kt et))(hu:P.underlying kt=some .string)(hz:∀w,(zeroValue et).run P w= .ok (.bool false) w)(d:ByteArray):
 (Instr.lookup t (.map (some b)) (.string d) false).run P w= .ok (.bool (LX ds d)) w:=by
 obtain⟨L,h1,h2,h3⟩:=h
 have hd:=h3 d
 cases ha:assoc (.string d) L with
 |none=>
  rw[ha]at hd
  rw[<-hd]
  exact h1.miss ht hu (O6 d) ha hz false
 |some v=>
  rw[ha]at hd
  rw[<-hd]
  have hv:v= .bool true:=by
   unfold assoc at ha
   obtain⟨p,hp,rfl⟩:=Option.map_eq_some_iff.1 ha
   exact h2 p (List.mem_of_find?_eq_some hp)
  have:=h1.lookup ht hu (O6 d) ha false
  rw[hv]at this
  exact this
theorem ad2(k:Value)(L:List (Value×Value))(p:Value×Value):(assoc k (L++[p])).isSome=((assoc k L).isSome||yL k p.1):=by
 unfold assoc
 rw[List.find?_append]
 cases h:L.find? fun p=>yL k p.1 with
 |some x=>simp
 |none=>
  simp only[Option.none_or,Option.map_none,Option.isSome_none,Bool.false_or,List.find?_cons,List.find?_nil]
  cases yL k p.1<;>rfl
theorem ad3(ds:List ByteArray)(d e:ByteArray):LX (ds++[e]) d=(LX ds d||decide (e=d)):=by
 unfold LX
 rw[List.any_append]
 simp
theorem ad4(a b:ByteArray):yL (.string a) (.string b)=decide (b=a):=by
 rw[Bool.eq_iff_iff,decide_eq_true_eq]
 constructor
 ·intro h
  have h1:(a.data==b.data)=true:=h
  have h2:a.data=b.data:=eq_of_beq h1
  cases a
  cases b
  simp at h2
  rw[h2]
 ·rintro rfl
  show(b.data==b.data)=true
  exact beq_self_eq_true _
theorem ad5{es:List MapEntry}{i:Nat}{f:MapEntry->MapEntry}(h:∀e,es[i]?=some e->(fun e:MapEntry=>(e.key,e.val)) (f e)=(e.key,e.val)):(es.modify i f).map (fun e=>(e.key,e.val))=es.map (fun e=>(e.key,e.val)):=by
 refine List.ext_getElem? fun j=> ?_
 rw[List.getElem?_map,List.getElem?_map,List.getElem?_modify]
 by_cases hij:i=j
 ·subst hij
  simp only[if_true]
  cases he:es[i]? with
  |none=>rfl
  |some e=>simpa using h e he
 ·simp[hij]
theorem Ae.put{P:Program}{t kt et:TypeId}{w:World}{b:Nat}{ds:List ByteArray}(h:Ae w b ds)(ht:P.underlying t=some (.map kt et))(hu:P.underlying kt=some .string)(d:ByteArray):
 ∃w',(Instr.mapUpdate t (.map (some b)) (.string d) (.bool true)).run P w= .ok () w'/\Ae w' b (ds++[d])/\w'.heap.size=w.heap.size/\(∀B,B<=b->Below B w w')/\∀g,g≠b->w'.heap[g]?=w.heap[g]?:=by
 obtain⟨L,hL,h2,h3⟩:=h
 cases ha:assoc (.string d) L with
 |none=>
  obtain⟨w',hr,hA,hs,hB,hf⟩:=hL.insert ht hu (O6 d) (v:= .bool true) ha
  refine⟨w',hr,⟨_,hA,fun p hp=> ?_,fun e=> ?_⟩,hs,hB,hf⟩
  ·rcases List.mem_append.1 hp with hp|hp
   ·exact h2 p hp
   ·rw[List.mem_singleton]at hp
    rw[hp]
  ·rw[ad2,h3,ad3,ad4]
 |some v=>
  have hlt:=hL.lt
  obtain⟨h0,es,clock,hb,h1⟩:=hL
  obtain⟨r,q2,q3,q4⟩:=OT (O6 d) es.toList L 0 h0 h1
  rw[ha]at q3
  obtain⟨⟨j,v'⟩,rfl,hv'⟩:=Option.map_eq_some_iff.1 q3
  obtain⟨_,e,he,hk,hv⟩:=q4 j v' rfl
  rw[Nat.sub_zero]at he
  have hmem:(e.key,e.val)∈L:=by rw[<-h1];exact List.mem_map.2 ⟨e,List.mem_of_getElem? he,rfl⟩
  have hek:e.key= .string d:=by
   rcases h0 _ hmem with⟨hh,_⟩|⟨_,s,hs⟩
   ·cases hh
   ·have hs':e.key= .string s:=hs
    rw[hs',ad4,decide_eq_true_eq]at hk
    rw[hs',hk]
  have hev:e.val= .bool true:=h2 _ hmem
  have hes:es[j]?=some e:=by rw[<-Array.getElem?_toList];exact he
  refine⟨{w with heap:=w.heap.setIfInBounds b (.map (es.modify j fun e=>{e with key:= .string d,val:= .bool true}) clock)},?_,⟨L,⟨h0,es.modify j fun e=>{e with key:= .string d,val:= .bool true},clock,by simp[Array.getElem?_setIfInBounds,hlt],?_⟩,h2,fun x=> ?_⟩,by simp,fun B hB=>⟨rfl,rfl,rfl,by simp,fun g hg=>by simp[Array.getElem?_setIfInBounds];omega⟩,fun g hg=>by simp[Array.getElem?_setIfInBounds,Ne.symm hg]⟩
  ·have hdd:(d==d)=true:=(show(d.data==d.data)=true from beq_self_eq_true _)
   unfold Instr.mapUpdate
   simp only[Sem.run_bind,run_underlying ht w,Result.andThen_ok,getObj,setObj,Sem.run,hb,OV hu (O6 d),OU hu q2,Instr.keyThatStays,hes,Option.map_some,Option.getD_some,hek,Instr.sameBits,hdd,if_true,Sem.run_pure,hb]
  ·rw[Array.toList_modify,<-h1]
   refine ad5 fun e2 he2=> ?_
   rw[he]at he2
   cases he2
   simp[hek,hev]
  ·rw[h3,ad3]
   by_cases hx:d=x
   ·subst hx
    have:=h3 d
    rw[ha]at this
    rw[<-this]
    simp
   ·simp[hx]
def iR(ds:List Int)(d:Int):Bool:=ds.any fun o=>decide (o=d)
def tZ(w:World)(b:Nat)(ds:List Int):Prop:=∃L,nS (.int .i64) w b L/\(∀p∈L,p.2= .bool true)/\∀d,(assoc (.int .i64 d) L).isSome=iR ds d
theorem O7(d:Int):Bo (.int .i64) (.int .i64 d):= .inl ⟨rfl,d,rfl⟩
theorem ad6(n m:Int):yL (.int .i64 n) (.int .i64 m)=decide (m=n):=by
 show(n==m)=_
 rw[Bool.eq_iff_iff,decide_eq_true_eq,beq_iff_eq]
 exact eq_comm
theorem tZ.lt{w:World}{b:Nat}{ds:List Int}(h:tZ w b ds):b<w.heap.size:=by
 obtain⟨L,h1,_⟩:=h
 exact h1.lt
theorem tZ.q{w w':World}{b:Nat}{ds:List Int}(h:tZ w b ds)(hq:Q w w'):tZ w' b ds:=by
 obtain⟨L,h1,h2,h3⟩:=h
 exact⟨L,h1.q hq,h2,h3⟩
theorem tZ.made(w:World):tZ (w.alloc (.map #[] 0)) w.heap.size []:=⟨[],nS.made _ _,by simp,fun d=>by simp[assoc,iR]⟩
theorem tZ.lookup{P:Program}{t kt et:TypeId}{w:World}{b:Nat}{ds:List Int}(h:tZ w b ds)(ht:P.underlying t=some (.map kt et))(hu:P.underlying kt=some (.int .i64))(hz:∀w,(zeroValue et).run P w= .ok (.bool false) w)(d:Int):
 (Instr.lookup t (.map (some b)) (.int .i64 d) false).run P w= .ok (.bool (iR ds d)) w:=by
 obtain⟨L,h1,h2,h3⟩:=h
 have hd:=h3 d
 cases ha:assoc (.int .i64 d) L with
 |none=>
  rw[ha]at hd
  rw[<-hd]
  exact h1.miss ht hu (O7 d) ha hz false
 |some v=>
  rw[ha]at hd
  rw[<-hd]
  have hv:v= .bool true:=by
   unfold assoc at ha
   obtain⟨p,hp,rfl⟩:=Option.map_eq_some_iff.1 ha
   exact h2 p (List.mem_of_find?_eq_some hp)
  have:=h1.lookup ht hu (O7 d) ha false
  rw[hv]at this
  exact this
theorem ad7(ds:List Int)(d e:Int):iR (ds++[e]) d=(iR ds d||decide (e=d)):=by
 unfold iR
 rw[List.any_append]
 simp
theorem tZ.put{P:Program}{t kt et:TypeId}{w:World}{b:Nat}{ds:List Int}(h:tZ w b ds)(ht:P.underlying t=some (.map kt et))(hu:P.underlying kt=some (.int .i64))(d:Int):
 ∃w',(Instr.mapUpdate t (.map (some b)) (.int .i64 d) (.bool true)).run P w= .ok () w'/\tZ w' b (ds++[d])/\w'.heap.size=w.heap.size/\(∀B,B<=b->Below B w w')/\∀g,g≠b->w'.heap[g]?=w.heap[g]?:=by
 obtain⟨L,hL,h2,h3⟩:=h
 cases ha:assoc (.int .i64 d) L with
 |none=>
  obtain⟨w',hr,hA,hs,hB,hf⟩:=hL.insert ht hu (O7 d) (v:= .bool true) ha
  refine⟨w',hr,⟨_,hA,fun p hp=> ?_,fun e=> ?_⟩,hs,hB,hf⟩
  ·rcases List.mem_append.1 hp with hp|hp
   ·exact h2 p hp
   ·rw[List.mem_singleton]at hp
    rw[hp]
  ·rw[ad2,h3,ad7,ad6]
 |some v=>
  have hlt:=hL.lt
  obtain⟨h0,es,clock,hb,h1⟩:=hL
  obtain⟨r,q2,q3,q4⟩:=OT (O7 d) es.toList L 0 h0 h1
  rw[ha]at q3
  obtain⟨⟨j,v'⟩,rfl,hv'⟩:=Option.map_eq_some_iff.1 q3
  obtain⟨_,e,he,hk,hv⟩:=q4 j v' rfl
  rw[Nat.sub_zero]at he
  have hmem:(e.key,e.val)∈L:=by rw[<-h1];exact List.mem_map.2 ⟨e,List.mem_of_getElem? he,rfl⟩
  have hek:e.key= .int .i64 d:=by
   rcases h0 _ hmem with⟨_,s,hs⟩|⟨hh,_⟩
   ·have hs':e.key= .int .i64 s:=hs
    rw[hs',ad6,decide_eq_true_eq]at hk
    rw[hs',hk]
   ·cases hh
  have hev:e.val= .bool true:=h2 _ hmem
  have hes:es[j]?=some e:=by rw[<-Array.getElem?_toList];exact he
  refine⟨{w with heap:=w.heap.setIfInBounds b (.map (es.modify j fun e=>{e with key:= .int .i64 d,val:= .bool true}) clock)},?_,⟨L,⟨h0,es.modify j fun e=>{e with key:= .int .i64 d,val:= .bool true},clock,by simp[Array.getElem?_setIfInBounds,hlt],?_⟩,h2,fun x=> ?_⟩,by simp,fun B hB=>⟨rfl,rfl,rfl,by simp,fun g hg=>by simp[Array.getElem?_setIfInBounds];omega⟩,fun g hg=>by simp[Array.getElem?_setIfInBounds,Ne.symm hg]⟩
  ·have hdd:(d==d)=true:=beq_self_eq_true _
   have hkk:(IntKind.i64==IntKind.i64)=true:=by decide
   unfold Instr.mapUpdate
   simp only[Sem.run_bind,run_underlying ht w,Result.andThen_ok,getObj,setObj,Sem.run,hb,OV hu (O7 d),OU hu q2,Instr.keyThatStays,hes,Option.map_some,Option.getD_some,hek,Instr.sameBits,hdd,hkk,Bool.and_self,if_true,Sem.run_pure,hb]
  ·rw[Array.toList_modify,<-h1]
   refine ad5 fun e2 he2=> ?_
   rw[he]at he2
   cases he2
   simp[hek,hev]
  ·rw[h3,ad7]
   by_cases hx:d=x
   ·subst hx
    have:=h3 d
    rw[ha]at this
    rw[<-this]
    simp
   ·simp[hx]
theorem ad8{P:Program}{ops:Array Oper}{rest:List Oper}{o:Oper}{a:Act}{w w':World}{K:Exit->Act->World->Prop}(t:TypeId)(m k v:Operand)(M N V:Value)(ho:o.op= .mapUpdate t m k v)(hg:o.guard=none)(hm:a.eval m=M)(hk:a.eval k=N)(hv:a.eval v=V)(hr:(Instr.mapUpdate t M N V).run P w= .ok () w')(h:wpList P ops K rest (a.put o.dst undef) w'):wpList P ops K (o::rest) a w:=by
 refine wpList_step fun K' hK=> ?_
 rw[if_pos (by unfold Region.wanted;rw[hg])]
 unfold Oper.wp execOp
 simp only[ho,hm,hk,hv,Sem.run_bind,hr,Result.andThen_ok,Sem.run_pure]
 exact hK _ _ h
end Mem
namespace bP
open Go.RowKit aQ Mem _root_.Go.Proofs.YtbemmjnjoabadaaGreatDoor.Code aY Sign _root_.Go.Proofs.YtbemmjnjoabadaaGreatDoor.Item _root_.Go.Proofs.YtbemmjnjoabadaaGreatDoor.Known
structure iJ where
 since:Int
 pub:Int
 home:Int
def iJ.cells(k:iJ):List Value:=[.int .i64 k.since, .int .i64 k.pub, .int .i64 k.home]
def gK:iJ:=⟨0,0,0⟩
structure ay where
 id:ByteArray
 acts:List ak
 aA:Option Addr
 aC:Nat
 keys:List iJ
 kA:Option Addr
 kC:Nat
 prev:ByteArray
 gen:Int
 fork:Bool
def ay.cells(c:ay):List Value:=[.string c.id, .slice c.aA c.acts.length c.aC, .slice c.kA c.keys.length c.kC, .string c.prev, .int .i64 c.gen, .bool c.fork]
def aF(c:ay):Array Value:=c.cells.toArray
def fE:ay:=⟨bK,[],none,0,[],none,0,bK,0,false⟩
structure gX(w:World)(c:ay):Prop where
 acts:dS w c.aA 20 ak.cells c.acts
 each:∀a∈c.acts,bU w a
 aC:c.acts.length<=c.aC/\c.aC<=maxLen
 keys:dS w c.kA 3 iJ.cells c.keys
 kC:c.keys.length<=c.kC/\c.kC<=maxLen
theorem bU.q'{w w':World}{a:ak}(h:bU w a)(hq:Q w w'):bU w' a:=h.q hq
theorem gX.q{w w':World}{c:ay}(h:gX w c)(hq:Q w w'):gX w' c:=⟨h.acts.q hq,fun a ha=>(h.each a ha).q hq,h.aC,h.keys.q hq,h.kC⟩
def fH(c:ay)(n:Int):Nat:=(min (max n 0) (c.acts.length:Int)).toNat
def Fb(scope:Int)(group:ByteArray)(nx:Nat)(a:ak):Bool:=(a.kind==16)&&((a.scope==scope)&&((a.group.toList==group.toList)&&(a.epoch==(nx:Int))))
def Af(scope:Int)(group:ByteArray)(s:Nat×Nat)(i:Nat)(a:ak):Nat×Nat:=if Fb scope group s.2 a then(i,s.2+1)else s
def gG(scope:Int)(group:ByteArray)(acts:List ak):Nat->Nat×Nat
 |0=>(0,0)
 |j+1=>match acts[j]? with
  |some a=>Af scope group (gG scope group acts j) j a
  |none=>gG scope group acts j
theorem aoK(scope:Int)(group:ByteArray)(acts:List ak)(j:Nat)(h:j<acts.length):gG scope group acts (j+1)=Af scope group (gG scope group acts j) j acts[j]:=by
 rw[gG,List.getElem?_eq_getElem h]
theorem O8(scope:Int)(group:ByteArray)(acts:List ak):∀j,(gG scope group acts j).1<=j/\(gG scope group acts j).2<=j/\(0<(gG scope group acts j).2->(gG scope group acts j).1<j)
 |0=>by simp[gG]
 |j+1=>by
  have ih:=O8 scope group acts j
  rw[gG]
  split
  ·unfold Af
   split
   ·exact⟨by simp,by simp;omega,fun _=>by simp⟩
   ·exact⟨by omega,by omega,fun h=>by have:=ih.2.2 h;omega⟩
  ·exact⟨by omega,by omega,fun h=>by have:=ih.2.2 h;omega⟩
def bZ(c:ay)(n scope:Int)(group:ByteArray):Nat×Bool:=((gG scope group c.acts (fH c n)).1,decide (0<(gG scope group c.acts (fH c n)).2))
def sD(i:Int)(keys:List iJ):Nat->Option iJ
 |0=>none
 |j+1=>match keys[j]? with
  |some k=>if decide (k.since<=i)then some k else sD i keys j
  |none=>sD i keys j
theorem aoL(i:Int)(keys:List iJ)(j:Nat)(h:j<keys.length):sD i keys (j+1)=if decide (keys[j].since<=i)then some keys[j]else sD i keys j:=by
 rw[sD,List.getElem?_eq_getElem h]
def eP(c:ay)(i:Int):Option iJ:=if decide (i<0)||decide ((c.acts.length:Int)<i)then none else sD i c.keys c.keys.length
def xW(x:Int):Bool:=decide (1<=x)&&decide (x<=2305843009213693949)
def iZ(xs:List Int):List Int:=(xs.filter xW).map (dW 37)
def jh(kind:Int):Bool:=(kind==1)||((kind==2)||(kind==3))
def nT(kind:Int):Bool:=jh kind||(kind==14)
def wY(ps:List Int)(c:ay)(g:Nat):Bool:=match eP c g with
 |some k=>iR ps k.pub
 |none=>false
def yS(ps:List Int)(a:ak):Bool:=a.wraps.any fun x=>iR ps x.to
def DR(ps:List Int)(c:ay)(i:Int)(a:ak):Bool:=(bZ c i a.scope a.group).2&&match c.acts[(bZ c i a.scope a.group).1]? with
 |some ga=>(ga.epoch==a.epoch)&&(wY ps c (bZ c i a.scope a.group).1||yS ps ga)
 |none=>false
def Bz(ps:List Int)(c:ay)(i:Int)(a:ak):Bool:=nT a.kind&&((a.scope==0)||DR ps c i a)
def uf{α:Type}(l:List α)(i:Int):Option α:=if decide (i<0)then none else l[i.toNat]?
def jA(ps:List Int)(c:ay)(i:Int):Bool:=match uf c.acts i with
 |some a=>Bz ps c i a
 |none=>false
def LY(ps:List Int)(a:ak):Nat:=a.wraps.countP fun x=>iR ps x.to
def ug(ps:List Int)(c:ay)(i:Int):Bool:=match uf c.acts i with
 |some a=>(a.kind==19)&&decide (a.n<=(LY ps a:Int))
 |none=>false
theorem aoM(b1 b2 b3 b4:Bool):b1=false∨(b1=true/\b2=false)∨(b1=true/\b2=true/\b3=false)∨(b1=true/\b2=true/\b3=true/\b4=false)∨(b1=true/\b2=true/\b3=true/\b4=true):=by
 cases b1<;>cases b2<;>cases b3<;>cases b4<;>simp
theorem ad9(c:ay)(n:Int)(w:World)(hl:c.acts.length<=maxLen):Calls Tryz.prog 37 #[.agg (aF c), .int .i64 n] w fun e w'=>e= .returned (.int .i64 (fH c n:Int))/\Q w w':=by
 obtain⟨w1,x,hx,hq1,hbk⟩:=boxedB w 41 c.cells
 have hx:w.alloc (.cells (aF c) 41)=x.w:=hx
 have c1:=aB (.slice c.aA c.acts.length c.aC) hbk 1
 have HR:=Lib.hid (show((fH c n:Nat):Int)=min (max n 0) (c.acts.length:Int) by unfold fH;omega)
 clear hbk
 go_enter Tryz.func37,Tryz.ntmps37
 go_wp2_with fail
 go_ret
 exact⟨by rw[HR.out];rfl,Q.trans hq1 x.q⟩
theorem Yb(b1 b2 b3:Bool):b1=true∨(b1=false/\b2=true)∨(b1=false/\b2=false/\b3=true)∨(b1=false/\b2=false/\b3=false):=by
 cases b1<;>cases b2<;>cases b3<;>simp
theorem iE(k:Int)(w:World):Calls Tryz.prog 48 #[.int .i64 k] w fun e w'=>e= .returned (.bool (jh k))/\Q w w':=by
 obtain⟨x,hx⟩:=Wd.first w
 refine(show Calls Tryz.prog 48 #[.int .i64 k] x.w _->_ from fun h=>by rwa[<-hx]at h) ?_
 clear hx
 have HR:=Lib.hid (show jh k=((k==1)||((k==2)||(k==3)))from rfl)
 rcases Yb (k==1) (k==2) (k==3)with g1|⟨g1,g2⟩|⟨g1,g2,g3⟩|⟨g1,g2,g3⟩
 all_goals
  simp only[*,Bool.or_true,Bool.or_false,Bool.true_or,Bool.false_or]at HR
  go_enter Tryz.func48,Tryz.ntmps48
  go_wp2_with fail
  go_ret
  exact⟨by rw[HR.out];rfl,x.q⟩
theorem Jt(c:ay)(n scope:Int)(group:ByteArray)(w:World)(hI:gX w c):Calls Tryz.prog 45 #[.agg (aF c), .int .i64 n, .int .i64 scope, .string group] w fun e w'=>e= .returned (.tuple #[.int .i64 ((bZ c n scope group).1:Int), .bool (bZ c n scope group).2])/\Q w w':=by
 obtain⟨w1,x,hx,hq1,hbk⟩:=boxedB w 41 c.cells
 have hx:w.alloc (.cells (aF c) 41)=x.w:=hx
 have cZ:=dX (P:=Tryz.prog) (aF c) hbk Tryz.underlying41
 have c1:=aB (.slice c.aA c.acts.length c.aC) hbk 1
 have hmx:maxLen=9223372036854775807:=by decide
 have hal:=hI.aC
 have hLi:=fun y:Wd w1=>ad9 c n y.w (by omega)
 have hlm:fH c n<=c.acts.length:=by unfold fH;omega
 have jQ:=hI.acts.q hq1
 have HG:=Lib.hid (show bZ c n scope group=((gG scope group c.acts (fH c n)).1,decide (0<(gG scope group c.acts (fH c n)).2))from rfl)
 have HQ:=Lib.hid hq1
 have hlt1:=hbk.lt
 clear hbk hq1 hI
 generalize fH c n=m at*
 generalize hnl:c.acts.length=nl at*
 go_enter Tryz.func45,Tryz.ntmps45
 go_wp2_with (first|(refine aI (.tmp 4) (cZ _) ?_)|(go_at_call 37;refine(hLi _).mono ?_;rintro e w' ⟨rfl,hq2⟩;obtain⟨y,rfl⟩:=Wd.next _ hq2;clear hq2))
 go_loopw [10,11,17] (fun a b i wr=>∃(j ix nx:Nat) (z:Wd w1),a= .int .i64 (ix:Int)/\b= .int .i64 (nx:Int)/\i= .int .i64 j/\wr=z.w/\j<=m/\nx<=j/\Hid (gG scope group c.acts j=(ix,nx))) (fun _ _ i _=>m-(intOf i).toNat)
 case atStart=>exact⟨0,0,0,y,rfl,rfl,rfl,rfl,Nat.zero_le _,Nat.zero_le _,Lib.hid rfl⟩
 case round=>
  obtain⟨j,ix,nx,z,rfl,rfl,rfl,rfl,hj,hnx,hgt⟩:=hrel
  by_cases hlt:j<m
  ·have dM:j<c.acts.length:=by omega
   have pX:(j:Int)<(m:Int):=by omega
   have Uo:j<nl:=by omega
   obtain⟨b,o,eA,hb0,hcs⟩:=jQ (by omega)
   have hld:=Wd.load (P:=Tryz.prog) (ty:=37) hb0 (hcs j dM) Tryz.underlying37 rfl (by kernel_rfl) z
   rw[eA]at c1
   have hgs:=aoK scope group c.acts j dM
   rw[hgt.out]at hgs
   have hzs:=z.q.size
   clear hcs eA
   generalize c.acts[j]=a at*
   go_wp2_with (first|(refine kR 38 37 (.tmp 21) (.tmp 22) b o nl c.aC j 20 rfl rfl rfl rfl Tryz.underlying38 (by kernel_rfl) Tryz.sizeOf37 Uo ?_)|(refine aI (.tmp 23) hld ?_)|(refine fM (ah.new z.w 37 aH.cells.toArray) rfl 37 (.tmp 13) (.tmp 24) a.cells rfl rfl rfl (by kernel_rfl) (dL _) (Nat.le_refl 20) ?_))
   intro W hW hbel
   rw[bC _ _ (by rfl)]at hW
   have aJ:Q z.w W:=hbel _ _ (Nat.le_refl _) (aO _ _ _)
   have k3:W.cell? ⟨z.w.heap.size,3,none⟩=some (.int .i64 a.kind):=hW.cell 3
   have k7:W.cell? ⟨z.w.heap.size,7,none⟩=some (.int .i64 a.scope):=hW.cell 7
   have k8:W.cell? ⟨z.w.heap.size,8,none⟩=some (.string a.group):=hW.cell 8
   have k14:W.cell? ⟨z.w.heap.size,14,none⟩=some (.int .i64 a.epoch):=hW.cell 14
   have dR:Q w1 W:=Q.trans z.q aJ
   clear hbel hW hld cZ hLi
   rcases aoM (a.kind==16) (a.scope==scope) (a.group.toList==group.toList) (a.epoch==(nx:Int))with g1|⟨g1,g2⟩|⟨g1,g2,g3⟩|⟨g1,g2,g3,g4⟩|⟨g1,g2,g3,g4⟩
   iterate 4
    ·have HS:Hid (gG scope group c.acts (j+1)=(ix,nx)):=Lib.hid (by rw[hgs];simp[Af,Fb, *])
     go_wp2_with fail
     exact⟨⟨j+1,ix,nx,⟨W,dR⟩,rfl,rfl,by go_num,rfl,by omega,by omega,HS⟩,by simp only[intOf];omega⟩
   ·have HS:Hid (gG scope group c.acts (j+1)=(j,nx+1)):=Lib.hid (by rw[hgs];simp[Af,Fb, *])
    go_wp2_with fail
    exact⟨⟨j+1,j,nx+1,⟨W,dR⟩,rfl,by go_num,by go_num,rfl,by omega,by omega,HS⟩,by simp only[intOf];omega⟩
  ·obtain rfl:j=m:=by omega
   have uO:¬((j:Int)<(j:Int)):=by omega
   have HF:Hid (bZ c n scope group=(ix,decide (0<nx))):=Lib.hid (by rw[HG.out,hgt.out])
   have hpos:decide ((0:Int)<(nx:Int))=decide (0<nx):=by simp
   clear hgt HG
   go_wp2_with fail
   all_goals
    exact bodyPost_ret (results_tmp2 rfl _ _ _) rfl ⟨by rw[HF.out];simp_all,Q.trans HQ.out z.q⟩
theorem vP(k:iJ):k.cells.toArray.all (·.oneCell')=true:=by simp[iJ.cells,Value.oneCell']
def dV(k:iJ):Array Value:=k.cells.toArray
theorem aea(w:World):(Instr.build 111 #[]).run Tryz.prog w= .ok (.agg (dV gK)) w:=by kernel_rfl
def BD(o:Option iJ)(w:World)(e:Ending)(w':World):Prop:=e= .returned (.tuple #[.agg (dV (o.getD gK)), .bool o.isSome])/\Q w w'
theorem O9(c:ay)(ii:Int)(w:World)(hI:gX w c):Calls Tryz.prog 55 #[.agg (aF c), .int .i64 ii] w (BD (eP c ii) w):=by
 have hb1:=ah.new w 41 (aF c)
 have hq1:=aO w (aF c) 41
 have hbr:=ah.new' (g:=w.heap.size+1) (w.alloc (.cells (aF c) 41)) 111 (dV gK) (by simp)
 have hq2:=aO (w.alloc (.cells (aF c) 41)) (dV gK) 111
 have hb1:=hb1.q hq2
 have hq:=Q.trans hq1 hq2
 clear hq1 hq2
 obtain⟨W0,hW0⟩:∃W0,W0=(w.alloc (.cells (aF c) 41)).alloc (.cells (dV gK) 111):=⟨_,rfl⟩
 rw[<-hW0]at hb1 hbr hq
 have c1:W0.cell? ⟨w.heap.size,1,none⟩=some (.slice c.aA c.acts.length c.aC):=hb1.cell 1
 have c2:W0.cell? ⟨w.heap.size,2,none⟩=some (.slice c.kA c.keys.length c.kC):=hb1.cell 2
 have jQ:=hI.keys.q hq
 have HX:=Lib.hid hW0
 have HQ:=Lib.hid hq
 have Yc:=Lib.hid hbr
 have hmx:maxLen=9223372036854775807:=by decide
 have hkc:=hI.kC
 have hac:=hI.aC
 have hlt0:=hbr.lt
 have hfin:∀(k:iJ) (b:Bool),(∀e W',e= .returned (.tuple #[.agg (dV k), .bool b])->Q w W'->BD (eP c ii) w e W')->Hid (∀e W',e= .returned (.tuple #[.agg (dV k), .bool b])->Q w W'->BD (eP c ii) w e W'):=fun _ _ h=>Lib.hid h
 clear hW0 hb1 hq hbr hI
 rcases Yb (decide (ii<0)) (decide ((c.acts.length:Int)<ii)) false with g1|⟨g1,g2⟩|⟨g1,g2,g3⟩|⟨g1,g2,-⟩
 rotate_left 2
 ·cases g3
 rotate_left 1
 iterate 2
  ·have HP:Hid (∀e W',e= .returned (.tuple #[.agg (dV gK), .bool false])->Q w W'->BD (eP c ii) w e W'):=Lib.hid (by
    have hn:eP c ii=none:=by unfold eP;simp[*]
    rw[hn]
    exact fun e W' he hq=>⟨he,hq⟩)
   clear hfin
   simp only[decide_eq_true_eq,decide_eq_false_iff_not]at*
   go_enter Tryz.func55,Tryz.ntmps55
   go_upto_region 1 with(fail)
   refine(show Code.wp _ _ _ _ W0->Code.wp _ _ _ _ _ from fun h=>by rw[HX.out]at h;exact h) ?_
   go_wp2_with (first|(refine LQ 111 _ #[] (.agg (dV gK)) rfl rfl (by simp only[List.map_toArray,List.map_cons,List.map_nil];rfl) (aea _) ?_)|(refine eY (cs:=gK.cells) Yc.out rfl 111 (.tmp 4) (.tmp 16) gK.cells rfl rfl rfl (by kernel_rfl) (vP _) (Nat.le_refl 3) ?_))
   intro W3 hW3 kQ yT
   rw[bC _ _ (by rfl)]at hW3
   have HF:Hid (Q w W3):=Lib.hid (kQ _ _ (Nat.le_succ _) HQ.out)
   clear kQ yT
   go_wp2_with fail
   exact bodyPost_ret (nG rfl _ _ (w.heap.size+1) 111 (dV gK) (0,0) _ (.bool false) rfl rfl hW3 Tryz.underlying111 rfl (by kernel_rfl)) rfl (HP.out _ _ rfl HF.out)
 have HK:=Lib.hid (show eP c ii=sD ii c.keys c.keys.length by unfold eP;rw[g1,g2];rfl)
 clear hfin
 simp only[decide_eq_true_eq,decide_eq_false_iff_not]at g1 g2
 generalize hnk:c.keys.length=nk at*
 go_enter Tryz.func55,Tryz.ntmps55
 go_upto_region 1 with(fail)
 refine(show Code.wp _ _ _ _ W0->Code.wp _ _ _ _ _ from fun h=>by rw[HX.out]at h;exact h) ?_
 go_wp2_with fail
 go_loopw [6] (fun i wr=>∃(j:Nat) (v:Int),i= .int .i64 v/\wr=W0/\v=(j:Int)-1/\j<=nk/\Hid (sD ii c.keys nk=sD ii c.keys j)) (fun i _=>(intOf i+1).toNat)
 case atStart=>exact⟨nk,_,rfl,rfl,rfl,Nat.le_refl _,Lib.hid rfl⟩
 case round=>
  obtain⟨j,v,rfl,rfl,hv,hj,hkt⟩:=hrel
  rcases Nat.eq_zero_or_pos j with h0|h0
  ·have hneg:¬(0:Int)<=v:=by omega
   have HP:Hid (∀e W',e= .returned (.tuple #[.agg (dV gK), .bool false])->Q w W'->BD (eP c ii) w e W'):=Lib.hid (by
    have hn:eP c ii=none:=by rw[HK.out,hkt.out,h0];rfl
    rw[hn]
    exact fun e W' he hq=>⟨he,hq⟩)
   clear hkt HK hv
   go_wp2_with (first|(refine LQ 111 _ #[] (.agg (dV gK)) rfl rfl (by simp only[List.map_toArray,List.map_cons,List.map_nil];rfl) (aea _) ?_)|(refine eY (cs:=gK.cells) Yc.out rfl 111 (.tmp 4) (.tmp 38) gK.cells rfl rfl rfl (by kernel_rfl) (vP _) (Nat.le_refl 3) ?_))
   intro W3 hW3 kQ yT
   rw[bC _ _ (by rfl)]at hW3
   have HF:Hid (Q w W3):=Lib.hid (kQ _ _ (Nat.le_succ _) HQ.out)
   clear kQ yT
   go_wp2_with fail
   exact bodyPost_ret (nG rfl _ _ (w.heap.size+1) 111 (dV gK) (0,0) _ (.bool false) rfl rfl hW3 Tryz.underlying111 rfl (by kernel_rfl)) rfl (HP.out _ _ rfl HF.out)
  ·obtain⟨m,rfl⟩:∃m:Nat,v=(m:Int):=⟨j-1,by omega⟩
   have hm:m<c.keys.length:=by omega
   have hmn:m<nk:=by omega
   obtain rfl:j=m+1:=by omega
   have hpos:(0:Int)<=(m:Int):=by omega
   obtain⟨b,o,eA,hb0,hcs⟩:=jQ (by omega)
   have hcm:=hcs m hm
   have s0:wr.cell? ⟨b,o+m*3,none⟩=some (.int .i64 c.keys[m].since):=hcm 0 _ rfl
   have hld:=Wd.load (P:=Tryz.prog) (ty:=111) hb0 hcm Tryz.underlying111 rfl (by kernel_rfl) ⟨wr,Q.refl wr⟩
   have hst:=aoL ii c.keys m hm
   rw[eA]at c2
   clear hcs hcm eA
   generalize c.keys[m]=k at*
   by_cases hk:k.since<=ii
   ·rw[if_pos (by simpa using hk)]at hst
    have HP:Hid (∀e W',e= .returned (.tuple #[.agg (dV k), .bool true])->Q w W'->BD (eP c ii) w e W'):=Lib.hid (by
     have hn:eP c ii=some k:=by rw[HK.out,hkt.out,hst]
     rw[hn]
     exact fun e W' he hq=>⟨he,hq⟩)
    clear hkt HK hst hv
    go_wp2_with (first|(refine kR 39 111 (.tmp 26) (.tmp 27) b o nk c.kC m 3 rfl rfl rfl rfl Tryz.underlying39 (by kernel_rfl) Tryz.sizeOf111 hmn ?_)|(refine kR 39 111 (.tmp 34) (.tmp 35) b o nk c.kC m 3 rfl rfl rfl rfl Tryz.underlying39 (by kernel_rfl) Tryz.sizeOf111 hmn ?_)|(refine aI (.tmp 36) hld ?_)|(refine eY (cs:=gK.cells) Yc.out rfl 111 (.tmp 4) (.tmp 37) k.cells rfl rfl rfl (by kernel_rfl) (vP _) (Nat.le_refl 3) ?_))
    intro W3 hW3 kQ yT
    rw[bC _ _ (by rfl)]at hW3
    have HF:Hid (Q w W3):=Lib.hid (kQ _ _ (Nat.le_succ _) HQ.out)
    clear kQ yT
    go_wp2_with fail
    exact bodyPost_ret (nG rfl _ _ (w.heap.size+1) 111 (dV k) (0,0) _ (.bool true) rfl rfl hW3 Tryz.underlying111 rfl (by kernel_rfl)) rfl (HP.out _ _ rfl HF.out)
   ·rw[if_neg (by simpa using hk)]at hst
    have HN:Hid (sD ii c.keys nk=sD ii c.keys m):=Lib.hid (by rw[hkt.out,hst])
    clear hkt HK hst hv hld
    go_wp2_with (refine kR 39 111 (.tmp 26) (.tmp 27) b o nk c.kC m 3 rfl rfl rfl rfl Tryz.underlying39 (by kernel_rfl) Tryz.sizeOf111 hmn ?_)
    exact⟨⟨m,(m:Int)-1,by go_num,trivial,rfl,by omega,HN⟩,by simp only[intOf];omega⟩
end bP
end Go.Proofs.YtbemmjnjoabadaaGreatDoor
