/- part 16 -/
import Derived.Shelf.SlGeneric
import Derived.Shelf.SlSortCmp.InsertionK
import Derived.Ground.SlsfProg
import Derived.Lib.SliceRun
import Derived.Lib.SlicesCompact
import Derived.Sort.OwnSorted
import Derived.Test.YtbemmjnjoabadaaGreatDoorK15
import Derived.Test.YtbemmjnjoabadaaGreatDoorK07
set_option linter.unusedVariables false
set_option linter.unusedSimpArgs false
set_option maxHeartbeats 1000000
set_option maxRecDepth 100000
namespace Go.Proofs.YtbemmjnjoabadaaGreatDoor
namespace Item
open Go.RowKit Go.ChangeShapes Go.WideShapes Go.Deep aQ Mem _root_.Go.Proofs.YtbemmjnjoabadaaGreatDoor.Code aY Sign
theorem gB{w:World}{A:Option Addr}{l:List ByteArray}(h:dS w A 1 (fun s:ByteArray=>[.string s]) l):Strs w A l:=fun h0=>by
 obtain⟨b,o,e,hb,hc⟩:=h h0
 exact⟨b,o,e,hb,fun j hj=>by have:=hc j hj 0 _ rfl;simpa using this⟩
theorem lY{w:World}{A:Option Addr}{l:List bQ}(h:dS w A 5 bQ.cells l):tX w A l:=fun h0=>by
 obtain⟨b,o,e,hb,hc⟩:=h h0
 exact⟨b,o,e,hb,fun j hj=>hc j hj⟩
instance:Inhabited dO:=⟨vS⟩
instance:Inhabited bQ:=⟨⟨0,0,bK,bK,bK⟩⟩
section
variable {H:Type} {enc:TypeId×Value->H} {W:World} {base:Nat} {spare:Nat->Bool} {held:Bool}
end
end Item
namespace Known
open Go.RowKit aQ Mem _root_.Go.Proofs.YtbemmjnjoabadaaGreatDoor.Code aY Sign _root_.Go.Proofs.YtbemmjnjoabadaaGreatDoor.Item
structure KR where
 sv:List Int
 sA:Option Addr
 sC:Nat
 l:List dO
 iA:Option Addr
 iC:Nat
def KR.cells(k:KR):List Value:=[.slice k.sA k.sv.length k.sC, .slice k.iA k.l.length k.iC]
structure G5(w:World)(A:Option Addr)(l:List dO):Prop where
 rows:dS w A 49 dO.cells l
 each:∀x∈l,mQ w x
theorem G5.q{w w':World}{A:Option Addr}{l:List dO}(h:G5 w A l)(hq:Q w w'):G5 w' A l:=⟨h.rows.q hq,fun x hx=>(h.each x hx).q hq⟩
structure X0(w:World)(k:KR):Prop where
 sv:Ints w k.sA k.sv
 items:G5 w k.iA k.l
 svC:k.sv.length<=k.sC/\k.sC<=maxLen
 lC:k.l.length<=k.iC/\k.iC<=maxLen
theorem X0.q{w w':World}{k:KR}(h:X0 w k)(hq:Q w w'):X0 w' k:=⟨h.sv.q hq,h.items.q hq,h.svC,h.lC⟩
theorem G5.load{w:World}{A:Option Addr}{l:List dO}(h:G5 w A l)(j:Nat)(hj:j<l.length):∃b o,A=some ⟨b,o,none⟩/\b<w.heap.size/\∀y:Wd w,(Instr.loadAt 150 (.pointer (some ⟨b,o+j*49,none⟩))).run Tryz.prog y.w= .ok (.agg (jT l[j])) y.w:=by
 obtain⟨b,o,e,hb,hc⟩:=h.rows (by omega)
 exact⟨b,o,e,hb,Wd.load hb (hc j hj) Tryz.underlying150 rfl (by kernel_rfl)⟩
theorem adI{w:World}{base:Nat}{v:Value}{l:List Int}(h:w.ownsRow base 3 1 v l.length (l.map (Value.int .i64))):∃A c,v= .slice A l.length c/\Ints w A l/\(l.length<=c/\c<=maxLen):=by
 have ho:=aV.of h
 obtain⟨A,c,rfl,h1,h2⟩:=ho.shape
 have hr:dS w A 1 (fun n:Int=>[Value.int .i64 n]) l:=aV.rows (fun _=>rfl) (by
  have e:l.flatMap (fun n:Int=>[Value.int .i64 n])=l.map (Value.int .i64):=by
   clear h ho h1 h2
   induction l with
   |nil=>rfl
   |cons x l ih=>rw[List.flatMap_cons,ih];rfl
  rw[e];exact ho) rfl
 exact⟨A,c,rfl,yQ hr,h1,h2⟩
theorem nG{P:Program}{fn:Func}{p u:Tmp}{ty:TypeId}(h:fn.results= #[.cell p ty, .tmp u])(tmps:Array Value)(w:World)(g:Nat)(t:TypeId)(cs:Array Value)(fr:Nat×Nat)(d:TypeDesc)(v:Value)
 (hp:tmps.getD p undef= .pointer (some ⟨g,0,none⟩)) (hv:tmps.getD u undef=v) (hg:w.heap[g]?=some (.cells cs t fr))
 (hu:P.underlying ty=some d) (hd:(match d with| .struct _| .array _ _=>true|_=>false)=true) (hi:(P.info? ty).map (·.size)=some cs.size):
 (results fn tmps).run P w= .ok (.tuple #[.agg cs,v]) w:=by
 have hp':tmps[p]?.getD undef= .pointer (some ⟨g,0,none⟩):=by simpa using hp
 have hv':tmps[u]?.getD undef=v:=by simpa using hv
 simp[results,h,hp',hv',asAddr,run_loadVar_row w g t ty cs fr d hg hu hd hi]
theorem adJ{α:Type}{f:α->List Value}{n:Nat}{w:World}{A:Option Addr}{l:List α}(h:dS w A n f l)(c cap:Nat)(hcap:l.length<=cap):dS w (if cap=c then A else A.map (·.add (c*n))) n f (l.drop c):=fun h0=>by
 rw[List.length_drop]at h0
 obtain⟨b,o,rfl,hb,hc⟩:=h (by omega)
 rw[if_neg (by omega)]
 refine⟨b,o+c*n,by rw[Option.map_some,Addr.add_mid],hb,fun j hj=> ?_⟩
 rw[List.length_drop]at hj
 have h2:=hc (c+j) (by omega)
 rw[List.getElem_drop]
 rw[Nat.add_assoc,<-Nat.add_mul]
 exact h2
theorem Un:(Tryz.prog.info? 9).map (fun i=>(i.zero,i.size,i.bytes))=some (some (.string ⟨#[]⟩),1,16):=by kernel_rfl
abbrev dP(s:ByteArray):List Value:=[.string s]
theorem kZ(s:ByteArray):(dP s).length=1:=rfl
theorem oZ(s:ByteArray):∀v∈dP s,v.oneCell'=true:=by simp[dP,Value.oneCell']
structure Aside(w W:World)(g:Nat):Prop where
 only:∀o v,w.cell? ⟨g,o,none⟩=some v->∃A n c,v= .slice A n c
 far:∀b,b≠g->W.heap[b]?=w.heap[b]?
 size:w.heap.size<=W.heap.size
theorem Aside.ne{w W:World}{g b o:Nat}{v:Value}(h:Aside w W g)(hc:w.cell? ⟨b,o,none⟩=some v)(hv:∀A n c,v≠ .slice A n c):b≠g:=fun e=>by
 subst e
 obtain⟨A,n,c,rfl⟩:=h.only o v hc
 exact hv A n c rfl
theorem Aside.cell{w W:World}{g b:Nat}(h:Aside w W g)(hb:b≠g)(o:Nat):W.cell? ⟨b,o,none⟩=w.cell? ⟨b,o,none⟩:=World.cell?_of_block (w:=w) (h.far b hb)
theorem Aside.strs{w W:World}{g:Nat}{A:Option Addr}{l:List ByteArray}(h:Aside w W g)(hs:Strs w A l):Strs W A l:=fun h0=>by
 obtain⟨b,o,e,hb,hc⟩:=hs h0
 have hne:=h.ne (hc 0 h0) (by simp)
 exact⟨b,o,e,Nat.lt_of_lt_of_le hb h.size,fun j hj=>(h.cell hne _).trans (hc j hj)⟩
theorem Aside.wrs{w W:World}{g:Nat}{A:Option Addr}{l:List bQ}(h:Aside w W g)(hs:tX w A l):tX W A l:=fun h0=>by
 obtain⟨b,o,e,hb,hc⟩:=hs h0
 have hne:=h.ne (hc 0 h0 0 _ rfl) (by simp)
 exact⟨b,o,e,Nat.lt_of_lt_of_le hb h.size,fun j hj i v hv=>(h.cell hne _).trans (hc j hj i v hv)⟩
theorem Aside.item{w W:World}{g:Nat}{x:dO}(h:Aside w W g)(hs:mQ w x):mQ W x:=⟨⟨h.strs hs.act.to,h.wrs hs.act.wraps,hs.act.toC,hs.act.dF⟩,⟨h.strs hs.dec.to,hs.dec.toC⟩⟩
theorem Aside.items{w W:World}{g:Nat}{A:Option Addr}{l:List dO}(h:Aside w W g)(hs:G5 w A l):G5 W A l:=⟨fun h0=>by
 obtain⟨b,o,e,hb,hc⟩:=hs.rows h0
 have hne:=h.ne (hc 0 h0 0 _ rfl) (by simp)
 exact⟨b,o,e,Nat.lt_of_lt_of_le hb h.size,fun j hj i v hv=>(h.cell hne _).trans (hc j hj i v hv)⟩,fun x hx=>h.item (hs.each x hx)⟩
theorem kR{P:Program}{ops:Array Oper}{rest:List Oper}{o:Oper}{a:Act}{w:World}{K:Exit->Act->World->Prop}(t e:TypeId)(x i:Operand)(b off n c m k:Nat)(ho:o.op= .indexAddr t x i)(hw:Region.wanted o (yielded ops a.tmps)=true)
 (hx:a.eval x= .slice (some ⟨b,off,none⟩) n c) (hi:a.eval i= .int .i64 (m:Int)) (ht:P.underlying t=some (.slice e)) (he:P.elem t=e) (hs:∀w,(sizeOf e).run P w= .ok k w) (hm:m<n) (h:wpList P ops K rest (a.put o.dst (.pointer (some ⟨b,off+m*k,none⟩))) w):wpList P ops K (o::rest) a w:=by
 refine wpList_step fun K' hK=> ?_
 rw[if_pos hw]
 have hr:=run_indexAt_slice (P:=P) (w:=w) t ⟨b,off,none⟩ n c .i64 (m:Int) (by rw[he];exact ht)
 rw[if_pos ⟨by omega,by omega⟩,he,hs,Int.toNat_natCast]at hr
 unfold Oper.wp execOp
 simp only[ho,hx,hi,Sem.run_bind,hr,Result.andThen_ok,Sem.run_pure]
 refine hK _ _ ?_
 rw[Addr.add_mid]
 exact h
structure Found(α:Type) where
 rank:Int
 dig:ByteArray
 val:α
instance{α:Type}[Inhabited α]:Inhabited (Found α):=⟨⟨0,bK,default⟩⟩
instance:Inhabited wO:=⟨Lr⟩
def Found.cells{α:Type}(c:α->List Value)(x:Found α):List Value:= .int .i64 x.rank:: .string x.dig::c x.val
def Bv(a b:ByteArray):Int:=if iq a b then-1 else if iq b a then 1 else 0
def LU(x y:Int):Int:=if x=0 then y else x
theorem aon(s:ByteArray)(w:World):Calls Tryz.prog 99 #[.string s] w fun e w'=>e= .returned (.bool false)/\w'=w:=by
 go_enter Tryz.func99,Tryz.ntmps99
 go_wp2_with fail
 all_goals (go_ret;exact⟨by simp,rfl⟩)
theorem aoo(a b:ByteArray)(w:World):Calls Tryz.prog 52 #[.string a, .string b] w fun e w'=>e= .returned (.int .i64 (Bv a b))/\w'=w:=by
 have hle:=acL a b
 have HR:Hid (Bv a b=if iq a b then-1 else if iq b a then 1 else 0):=Lib.hid rfl
 have h3:=OH (a:=a) (b:=b)
 cases h1:iq a b
 all_goals cases h2:iq b a
 all_goals
  rw[h1,h2]at HR
  have hls:Op.bytesLess a.toList b.toList=_:=h1
  rw[h2]at hle
 case true.true=>rw[h3 h1]at h2;cases h2
 all_goals
  clear h1 h2 h3
  generalize Bv a b=r at HR⊢
  go_enter Tryz.func52,Tryz.ntmps52
  go_wp2_with (go_at_call 99;refine(aon _ _).mono ?_;rintro e w' ⟨rfl,hw⟩;rw[hw])
  all_goals first
   |(go_ret;exact⟨by rw[HR.out];rfl,rfl⟩)
   |(simp_all)
theorem aop(b o c:Nat)(x y:Int)(w:World)(h0:w.cell? ⟨b,o,none⟩=some (.int .i64 x))(h1:w.cell? ⟨b,o+1,none⟩=some (.int .i64 y)):Calls Tryz.prog 51 #[.slice (some ⟨b,o,none⟩) 2 c] w fun e w'=>e= .returned (.int .i64 (LU x y))/\w'=w:=by
 have h0':w.cell? ⟨b,o+0,none⟩=some (.int .i64 x):=h0
 have HR:Hid (LU x y=if x=0 then y else x):=Lib.hid rfl
 generalize LU x y=r at HR⊢
 by_cases hx:x=0
 ·rw[if_pos hx]at HR
  by_cases hy:y=0
  ·go_enter Tryz.func51,Tryz.ntmps51
   go_wp2_with fail
   refine wp_loop_rounds 3 ?_
   rw[rounds_succ]
   go_wp2_with fail
   rw[rounds_succ]
   go_wp2_with fail
   rw[rounds_succ]
   go_wp2_with fail
   go_ret
   exact⟨by rw[HR.out,hy];rfl,rfl⟩
  ·go_enter Tryz.func51,Tryz.ntmps51
   go_wp2_with fail
   refine wp_loop_rounds 2 ?_
   rw[rounds_succ]
   go_wp2_with fail
   rw[rounds_succ]
   go_wp2_with fail
   go_ret
   exact⟨by rw[HR.out];rfl,rfl⟩
 ·rw[if_neg hx]at HR
  go_enter Tryz.func51,Tryz.ntmps51
  go_wp2_with fail
  refine wp_loop_rounds 1 ?_
  rw[rounds_succ]
  go_wp2_with fail
  go_ret
  exact⟨by rw[HR.out];rfl,rfl⟩
theorem aoq(W:World)(n:Nat)(a b c:Obj):(((W.alloc a).alloc b).drewN n).alloc c=Go.Sort.grow (W.drewN n) #[a,b,c]:=by
 rw[Go.Sort.alloc_eq_grow,Go.Sort.alloc_eq_grow,Go.Sort.alloc_eq_grow]
 show Go.Sort.grow (Go.Sort.grow (Go.Sort.grow (W.drewN n) #[a]) #[b]) #[c]=_
 rw[Go.Sort.grow_grow,Go.Sort.grow_grow]
 rfl
theorem holds_of{α:Type}[Inhabited α]{f:α->List Value}{k g n cap:Nat}{w:World}{base:Nat}{e:TypeId}{l:List α}(hk:∀x,(f x).length=k)(h:aV w base e k (.slice (some ⟨g,0,none⟩) n cap) n (l.flatMap f))(hn:n=l.length)(h0:0<n):Go.Sort.HoldsK f k w g 0 l.toArray/\base<=g/\g<w.heap.size:=by
 subst hn
 rcases h.2 with⟨e1,h1⟩|⟨g',cap',cur,fz,hv,hb,hg,hlo,hnc,hcm,hcs,htk⟩
 ·omega
 ·injection hv with hA _ _
  injection hA with hA
  injection hA with hA
  subst hA
  refine⟨fun t ht=> ?_,hb,(Array.getElem?_eq_some_iff.1 hg).1⟩
  rw[Go.Sort.size_flatK,List.size_toArray]at ht
  have hk0:0<k:=by
   rcases Nat.eq_zero_or_pos k with h2|h2
   ·subst h2;simp at ht
   ·exact h2
  have h1:t/k<l.length:=Nat.div_lt_of_lt_mul (by rwa[Nat.mul_comm]at ht)
  have h2:=Nat.mod_lt t hk0
  have hcur:t<cur.size:=by
   rw[hcs]
   have:=Nat.mul_le_mul_right k hnc
   omega
  have e1:cur[t]?=some (f l[t/k])[t%k]! :=by
   have h3:(cur.toList.take (l.length*k))[t]?=(l.flatMap f)[t]?:=by rw[htk]
   rw[List.getElem?_take,if_pos ht]at h3
   have h4:=flat_get hk l (t/k) (t%k) h1 h2
   rw[show t/k*k+t%k=t by rw[Nat.mul_comm];exact Nat.div_add_mod t k]at h4
   rw[h4]at h3
   rw[<-Array.getElem?_toList,h3,List.getElem?_eq_getElem (by rw[hk];exact h2),getElem!_pos (f l[t/k]) (t%k) (by rw[hk];exact h2)]
  refine⟨?_,?_⟩
  ·rw[Go.Sort.get_flatK _ _ _ _ (by rw[List.size_toArray];exact ht),getElem!_pos l.toArray (t/k) (by simpa using h1)]
   unfold World.cell?
   simp only[hg,Nat.zero_add]
   simpa using e1
  ·unfold World.frozen?
   simp only[hg,Nat.zero_add]
   rcases hlo with h7|h7
   ·simp only[h7];simp
   ·have:¬fz.1<=t:=by omega
    simp[this]
theorem aor{α:Type}[Inhabited α]{f:α->List Value}{k g:Nat}{w:World}{d:Array α}(hk:∀x,(f x).length=k)(h:Go.Sort.HoldsK f k w g 0 d)(hg:g<w.heap.size):dS w (some ⟨g,0,none⟩) k f d.toList:=fun _=>by
 refine⟨g,0,rfl,hg,fun j hj i v hv=> ?_⟩
 have hj':j<d.size:=by simpa using hj
 have:=HoldsK.cells h hk hj' i v (by rw[getElem!_pos d j hj'];simpa using hv)
 rw[Addr.add_mid]at this
 exact this
theorem aos{α:Type}[Inhabited α]{f:α->List Value}{k g B m:Nat}{w0 w:World}{d:Array α}{os:Array Obj}(h:Below B w0 w)(hg:B<=g)(hB:B<=w.heap.size):Below B w0 (sortWorldK f k w g 0 m d os):=by
 unfold sortWorldK
 refine h.trans ⟨rfl,rfl,rfl,?_,fun i hi=> ?_⟩
 ·rw[Go.Sort.size_grow,Go.Sort.size_putRowK]
  exact Nat.le_add_right _ _
 ·unfold Go.Sort.putRowK Go.Sort.putRow Go.Sort.mapBlock Go.Sort.grow Go.Sort.ahead
  rw[Array.getElem?_append_left (by simp;omega),Array.getElem?_modify,if_neg (by omega)]
def Fa(nO:ByteArray)(gen:Int)(x:dO):Bool:=decide (x.kind=2)&&(decide (x.pO.nO=nO)&&decide (x.pO.gen=gen))
end Known
namespace Sign
open Go.RowKit aQ Mem _root_.Go.Proofs.YtbemmjnjoabadaaGreatDoor.Code aY
abbrev aT:ByteArray:=⟨#[97]⟩
theorem f1:kN aT=361080046605472372:=by decide+kernel
theorem f2:keyOf 361080046605472372=(361080046605472372,2287805972299522828):=by decide+kernel
theorem fg:keyOf (kN aT)=(361080046605472372,2287805972299522828):=by rw[f1,f2]
end Sign
namespace Known
open Go.RowKit aQ Mem _root_.Go.Proofs.YtbemmjnjoabadaaGreatDoor.Code aY Sign _root_.Go.Proofs.YtbemmjnjoabadaaGreatDoor.Item
theorem adK(w:World)(t:TypeId)(k:Nat):aV (w.alloc (.cells #[] t)) w.heap.size t k (.slice (some ⟨w.heap.size,0,none⟩) 0 0) 0 []:=
 ⟨by simp, .inr ⟨w.heap.size,0,#[],(0,0),rfl,Nat.le_refl _,ah.new w t #[], .inl rfl,Nat.le_refl _,Nat.zero_le _,by simp,by simp⟩⟩
theorem LV(x:bQ):x.cells.length=5:=rfl
theorem X3(x:bQ):∀v∈x.cells,v.oneCell'=true:=by
 intro v hv
 simp only[bQ.cells,List.mem_cons,List.not_mem_nil,or_false]at hv
 rcases hv with rfl|rfl|rfl|rfl|rfl<;>rfl
theorem X4:(Tryz.prog.info? 115).map (fun i=>(i.zero,i.size,i.bytes))=some (some (.agg (bQ.cells default).toArray),5,64):=by kernel_rfl
theorem Jz{w:World}{A:Option Addr}{l:List ByteArray}(h:Strs w A l):dS w A 1 dP l:=fun h0=>by
 obtain⟨b,o,e,hb,hc⟩:=h h0
 refine⟨b,o,e,hb,fun j hj i v hv=> ?_⟩
 have hi:i=0:=by
  have:=(List.getElem?_eq_some_iff.1 hv).1
  simp[dP]at this
  omega
 subst hi
 have:v= .string l[j]:=by simpa[dP]using hv.symm
 rw[this,Nat.mul_one,Nat.add_zero]
 exact hc j hj
theorem adL{w:World}{A:Option Addr}{l:List bQ}(h:tX w A l):dS w A 5 bQ.cells l:=h
def dI{α:Type}(B:Nat)(w:World)(A:Option Addr)(k:Nat)(f:α->List Value)(l:List α):Prop:=0<l.length->∃b o,A=some ⟨b,o,none⟩/\B<=b/\b<w.heap.size/\∀j (h:j<l.length),w.rangeAt b (o+j*k) (f l[j])
theorem dI.rows{α:Type}{B:Nat}{w:World}{A:Option Addr}{k:Nat}{f:α->List Value}{l:List α}(h:dI B w A k f l):dS w A k f l:=fun h0=>by
 obtain⟨b,o,e,_,h2,h3⟩:=h h0
 exact⟨b,o,e,h2,h3⟩
theorem dI.q{α:Type}{B:Nat}{w w':World}{A:Option Addr}{k:Nat}{f:α->List Value}{l:List α}(h:dI B w A k f l)(hq:Q w w'):dI B w' A k f l:=fun h0=>by
 obtain⟨b,o,e,h1,h2,h3⟩:=h h0
 exact⟨b,o,e,h1,Nat.lt_of_lt_of_le h2 hq.size,fun j hj=>yP (h3 j hj) hq h2⟩
theorem dI.far{α:Type}{B:Nat}{w w':World}{A:Option Addr}{k:Nat}{f:α->List Value}{l:List α}(h:dI B w A k f l)(hf:∀b,B<=b->w'.heap[b]?=w.heap[b]?):dI B w' A k f l:=fun h0=>by
 obtain⟨b,o,e,h1,h2,h3⟩:=h h0
 have e1:=hf b h1
 refine⟨b,o,e,h1,?_,fun j hj i v hv=>(World.cell?_of_block (w:=w) e1).trans (h3 j hj i v hv)⟩
 rcases Nat.lt_or_ge b w'.heap.size with h7|h7
 ·exact h7
 ·rw[Array.getElem?_eq_none h7,Array.getElem?_eq_getElem h2]at e1
  cases e1
theorem xU{α:Type}{f:α->List Value}{k:Nat}{w:World}{base n:Nat}{e:TypeId}{A:Option Addr}{c:Nat}{l:List α}(hk:∀x,(f x).length=k)(h:aV w base e k (.slice A n c) n (l.flatMap f))(hn:n=l.length):dI base w A k f l:=fun h0=>by
 obtain⟨b,o,e1,h2,h3⟩:=aV.rows hk h hn h0
 rcases h.2 with⟨e2,h4⟩|⟨g,cap,cur,fz,hv,hb,_⟩
 ·omega
 ·injection hv with hA _ _
  rw[e1]at hA
  injection hA with hA
  injection hA with hA
  subst hA
  exact⟨b,o,e1,hb,h2,h3⟩
def O1{α:Type}(k:Nat)(f:α->List Value)(l:List α)(w:World)(e:Ending)(w':World):Prop:=∃(A:Option Addr) (c:Nat),e= .returned (.slice A l.length c)/\l.length<=c/\c<=maxLen/\dI w.heap.size w' A k f l/\Q w w'
def adM(l:List ByteArray)(w:World)(e:Ending)(w':World):Prop:=∃(A:Option Addr) (c:Nat),e= .returned (.slice A l.length c)/\l.length<=c/\c<=maxLen/\aV w' w.heap.size 9 1 (.slice A l.length c) l.length (l.flatMap dP)/\Q w w'
open Go.Op in
theorem aot(w:World)(a:Option Addr)(n c n' c':Nat):(binOp .eql 30 (.slice a n c) (.slice none n' c')).run Tryz.prog w= .ok (.bool a.isNone) w:=Lib.run_eql_slice_nil w _ _ a n c n' c' Tryz.underlying30
theorem aou(w:World):(Instr.buildSlice 30 0 #[]).run Tryz.prog w= .ok (.slice (some ⟨w.heap.size,0,none⟩) 0 0) (w.alloc (.cells #[] 9)):=by kernel_rfl
theorem aov(A:Option Addr)(c:Nat)(l:List ByteArray)(w:World)(hS:dS w A 1 dP l)(hl:l.length<=1000000):Calls Tryz.prog 63 #[.slice A l.length c] w (adM l w):=by
 obtain⟨i0,hi,hz0,hz1,hz2⟩:=info_parts Un
 have q22:=aot
 cases A with
 |none=>
  have h0:l=[]:=by
   rcases Nat.eq_zero_or_pos l.length with h|h
   ·exact List.length_eq_zero_iff.1 h
   ·obtain⟨_,_,e,_⟩:=hS h
    cases e
  subst h0
  go_enter Tryz.func63,Tryz.ntmps63
  go_wp2_with fail
  go_ret
  exact⟨none,0,rfl,Nat.le_refl _,Nat.zero_le _,aV.nil_ _ _ _ _,Q.refl _⟩
 |some a=>
  have hq1:=aO w #[] 9
  have hown:=adK w 9 1
  have hS1:=hS.q hq1
  obtain⟨w1,hw1⟩:∃w1,w.alloc (.cells #[] 9)=w1:=⟨_,rfl⟩
  have hbs:=aou w
  have hs1:w.heap.size<=w1.heap.size:=by rw[<-hw1];simp
  rw[hw1]at hq1 hown hS1 hbs
  clear hw1
  go_enter Tryz.func63,Tryz.ntmps63
  go_upto_region 3 with(fail)
  refine wp_region_lit ?_
  refine Uk 30 0 _ #[] _ rfl rfl (by simp) hbs ?_
  dsimp only[Act.put]
  simp only[List.setIfInBounds_toArray,List.set_cons_succ,List.set_cons_zero]
  refine adt (.tmp 0) (.slice (some a) l.length c) rfl rfl rfl ?_
  dsimp only[Act.put]
  simp only[List.setIfInBounds_toArray,List.set_cons_succ,List.set_cons_zero]
  refine Jw kZ oZ rfl (.tmp 5) (.tmp 6) 30 9 i0 _ 16 rfl Tryz.underlying30 hi hz0 hz1 hz2 rfl (by decide) (by decide) w.heap.size (.slice (some ⟨w.heap.size,0,none⟩) 0 0) 0 [] rfl hown (some a) l.length c l rfl hS1 rfl (by omega) hs1 ?_
  intro A2 c2 w2 hc2 hm2 hown2 hg2
  have hq2:Q w w2:=fB hq1 (Nat.le_refl _) hown hg2
  rw[Nat.zero_add]at hown2
  have hfin:adM l w (.returned (.slice A2 l.length c2)) w2:=⟨A2,c2,rfl,by omega,hm2,hown2,hq2⟩
  have HF:=Lib.hid hfin
  clear hfin hown2 hg2 hq2
  go_wp2_with fail
  go_ret
  exact HF.out
theorem LW(A:Option Addr)(c:Nat)(l:List ByteArray)(w:World)(hS:dS w A 1 dP l)(hl:l.length<=1000000):Calls Tryz.prog 63 #[.slice A l.length c] w (O1 1 dP l w):=
 (aov A c l w hS hl).mono fun _ _ ⟨A2,c2,h1,h2,h3,h4,h5⟩=>⟨A2,c2,h1,h2,h3,xU kZ h4 rfl,h5⟩
def vU(a:ak):dO:=⟨0,a,Oz,Lr,Jk⟩
theorem aow(a:ak)(w:World):(Instr.build 150 #[(0, .int .i64 0),(1, .agg (au a))]).run Tryz.prog w= .ok (.agg (jT (vU a))) w:=by kernel_rfl
def ak.to'(a:ak)(A:Option Addr)(c:Nat):ak:={a with toA:=A,toC:=c}
def ak.wr'(a:ak)(A:Option Addr)(c:Nat):ak:={a with gy:=A,dF:=c}
def oU.to'(d:oU)(A:Option Addr)(c:Nat):oU:={d with toA:=A,toC:=c}
theorem JA(a:ak)(A:Option Addr)(c:Nat):splice a.cells 9 [.slice A a.to.length c]=(ak.to' a A c).cells:=rfl
theorem O4(a:ak)(A:Option Addr)(c:Nat):splice a.cells 15 [.slice A a.wraps.length c]=(ak.wr' a A c).cells:=rfl
theorem dI.low{α:Type}{B C:Nat}{w:World}{A:Option Addr}{k:Nat}{f:α->List Value}{l:List α}(h:dI B w A k f l)(hc:C<=B):dI C w A k f l:=fun h0=>by
 obtain⟨b,o,e,h1,h2⟩:=h h0
 exact⟨b,o,e,Nat.le_trans hc h1,h2⟩
end Known
namespace Rel
open Go.RowKit aQ Mem _root_.Go.Proofs.YtbemmjnjoabadaaGreatDoor.Code aY Sign _root_.Go.Proofs.YtbemmjnjoabadaaGreatDoor.Item _root_.Go.Proofs.YtbemmjnjoabadaaGreatDoor.Known
def DN(l:List ByteArray)(d:ByteArray):List ByteArray:=if l.any (fun o=>o.data.toList==d.data.toList)then l else zY l d
def jl(ds:List ByteArray):List ByteArray:=ds.foldl DN []
theorem adN(l:List ByteArray)(d:ByteArray):l.any (fun o=>o.data.toList==d.data.toList)=true↔d∈l:=by
 rw[List.any_eq_true]
 constructor
 ·rintro⟨x,hx,h⟩
  have h2:x.data.toList=d.data.toList:=eq_of_beq h
  have:x=d:=by
   cases x
   cases d
   simp only[ByteArray.mk.injEq]
   exact Array.toList_inj.1 h2
  rw[<-this]
  exact hx
 ·intro h
  exact⟨d,h,beq_self_eq_true _⟩
theorem aox(l:List ByteArray)(d e:ByteArray):e∈DN l d↔e=d∨e∈l:=by
 unfold DN
 split
 ·rename_i h
  have hm:=(adN l d).1 h
  constructor
  ·exact .inr
  ·rintro(rfl|h)
   ·exact hm
   ·exact h
 ·exact XB d e l
theorem aoy(l:List ByteArray)(d:ByteArray)(h:Asc l):Asc (DN l d):=by
 unfold DN
 split
 ·exact h
 ·rename_i hn
  exact XC d l h fun hm=>hn ((adN l d).2 hm)
theorem adO(ds:List ByteArray):∀l,Asc l->Asc (ds.foldl DN l)/\∀d,d∈ds.foldl DN l↔d∈l∨d∈ds:=by
 induction ds with
 |nil=>intro l h;exact⟨h,fun d=>by simp⟩
 |cons a ds ih=>
  intro l h
  rw[List.foldl_cons]
  obtain⟨h1,h2⟩:=ih (DN l a) (aoy l a h)
  refine⟨h1,fun d=> ?_⟩
  rw[h2 d,aox,List.mem_cons]
  constructor
  ·rintro((h|h)|h)
   ·exact .inr (.inl h)
   ·exact .inl h
   ·exact .inr (.inr h)
  ·rintro(h|h|h)
   ·exact .inl (.inr h)
   ·exact .inl (.inl h)
   ·exact .inr h
theorem adP:Asc []:=List.Pairwise.nil
theorem adQ(ds:List ByteArray):Asc (jl ds):=(adO ds [] adP).1
theorem X5(ds:List ByteArray)(d:ByteArray):d∈jl ds↔d∈ds:=by
 unfold jl
 have:=(adO ds [] adP).2 d
 simpa using this
theorem X6{l ds:List ByteArray}(ha:Asc l)(hm:∀d,d∈l↔d∈ds):l=jl ds:=acP _ _ ha (adQ ds) fun d=>(hm d).trans (X5 ds d).symm
theorem adR(d:ByteArray):∀l,(zY l d).length=l.length+1
 |[]=>rfl
 |o::r=>by
  unfold zY
  split
  ·rfl
  ·rw[List.length_cons,adR d r,List.length_cons]
theorem adS(ds:List ByteArray):(jl ds).length<=ds.length:=by
 have:∀(ds l:List ByteArray),(ds.foldl DN l).length<=l.length+ds.length:=by
  intro ds
  induction ds with
  |nil=>intro l;exact Nat.le_refl _
  |cons a ds ih=>
   intro l
   rw[List.foldl_cons]
   refine Nat.le_trans (ih _) ?_
   unfold DN
   split
   ·rw[List.length_cons];omega
   ·rw[adR,List.length_cons];omega
 have h:=this ds []
 unfold jl
 simpa using h
abbrev vV:List UInt8->Value:=encStr
def toB(s:ByteArray):List UInt8:=s.data.toList
def uN(l:List UInt8):ByteArray:=⟨l.toArray⟩
theorem X7(s:ByteArray):uN (toB s)=s:=rfl
theorem aoz(l:List UInt8):toB (uN l)=l:=by simp[toB,uN]
theorem aoA(a b:List UInt8):iq (uN a) (uN b)=decide (a<b):=by
 rw[OG]
 exact decide_eq_decide.2 (by simp[uN])
def pW(zs:List (List UInt8)):List (List UInt8):=zs.mergeSort fun x y=>decide (x<=y)
theorem O5(zs:List (List UInt8)):(pW zs).length=zs.length:=List.length_mergeSort zs
theorem X8(zs:List (List UInt8)):(Lib.compact zs).length<=zs.length:=by
 unfold Lib.compact Lib.compactUpTo
 rw[List.length_map]
 refine Nat.le_trans (List.length_filter_le _ _) ?_
 rw[List.length_range]
 exact Nat.le_refl _
theorem adT(zs:List (List UInt8)):(pW zs).Pairwise fun a b=>a<=b:=by
 have hp:=List.pairwise_mergeSort (le:=fun x y:List UInt8=>decide (x<=y)) (fun a b c h1 h2=>decide_eq_true (List.le_trans (of_decide_eq_true h1) (of_decide_eq_true h2))) (fun a b=>by
  rcases List.le_total a b with h|h
  ·rw[decide_eq_true h];rfl
  ·rw[decide_eq_true h,Bool.or_true]) zs
 exact hp.imp fun h=>of_decide_eq_true h
theorem lt_of_le_ne{a b:List UInt8}(h:a<=b)(hn:a≠b):a<b:=by
 rcases Classical.em (a<b)with h2|h2
 ·exact h2
 ·exact absurd (List.le_antisymm h (List.not_lt.1 h2)) hn
theorem X9(d:Array (List UInt8))(x:List UInt8):∀m,x∈Lib.compactUpTo d m↔∃i,i<m/\d[i]! =x
 |0=>by simp[Lib.compactUpTo]
 |m+1=>by
  rw[Lib.compactUpTo_succ,List.mem_append,X9 d x m]
  constructor
  ·rintro(⟨i,h1,h2⟩|h)
   ·exact⟨i,by omega,h2⟩
   ·split at h
    ·rw[List.mem_singleton]at h
     exact⟨m,by omega,h.symm⟩
    ·cases h
  ·rintro⟨i,h1,h2⟩
   rcases Nat.lt_or_ge i m with h3|h3
   ·exact .inl ⟨i,h3,h2⟩
   ·have hi:i=m:=by omega
    subst hi
    cases hk:Lib.keeps d i
    ·refine .inl ⟨i-1,?_,?_⟩
     ·rcases Nat.eq_zero_or_pos i with h0|h0
      ·subst h0
       simp[Lib.keeps]at hk
      ·omega
     ·have hk2:¬(i=0∨d[i]! ≠d[i-1]!):=by
       unfold Lib.keeps at hk
       simpa using hk
      have:d[i]! =d[i-1]! :=Classical.byContradiction fun hn=>hk2 (.inr hn)
      rw[<-this,h2]
    ·exact .inr (by rw[if_pos rfl,h2];exact List.mem_singleton.2 rfl)
theorem adU(d:Array (List UInt8))(hs:∀i j,i<=j->j<d.size->d[i]! <=d[j]!):∀m,m<=d.size->(Lib.compactUpTo d m).Pairwise (·<·)
 |0,_=>by simp[Lib.compactUpTo]
 |m+1,hm=>by
  rw[Lib.compactUpTo_succ,List.pairwise_append]
  refine⟨adU d hs m (by omega),by split<;>simp,?_⟩
  intro a ha b hb
  split at hb
  ·rename_i hk
   rw[List.mem_singleton]at hb
   subst hb
   obtain⟨i,hi,rfl⟩:=(X9 d a m).1 ha
   have h1:¬m=0:=by omega
   have h2:d[m]! ≠d[m-1]! :=by
    unfold Lib.keeps at hk
    rcases of_decide_eq_true hk with h|h
    ·exact absurd h h1
    ·exact h
   have h3:=hs i (m-1) (by omega) (by omega)
   have h4:=hs (m-1) m (by omega) (by omega)
   refine lt_of_le_ne (List.le_trans h3 h4) fun he=>h2 ?_
   rw[he]at h3
   exact List.le_antisymm h3 h4
  ·cases hb
theorem aoB(zs:List (List UInt8))(x:List UInt8):x∈Lib.compact (pW zs)↔x∈zs:=by
 unfold Lib.compact
 rw[X9,<-List.mem_mergeSort (le:=fun x y=>decide (x<=y)) (l:=zs)]
 show _↔x∈pW zs
 generalize pW zs=L
 rw[List.mem_iff_getElem]
 constructor
 ·rintro⟨i,h1,h2⟩
  refine⟨i,h1,?_⟩
  rw[getElem!_pos L.toArray i (by simpa using h1)]at h2
  simpa using h2
 ·rintro⟨i,h1,h2⟩
  refine⟨i,h1,?_⟩
  rw[getElem!_pos L.toArray i (by simpa using h1)]
  simpa using h2
theorem aoC(zs:List (List UInt8)):(Lib.compact (pW zs)).Pairwise (·<·):=by
 have hp:=adT zs
 unfold Lib.compact
 generalize pW zs=L at*
 refine adU L.toArray (fun i j hij hj=> ?_) _ (by simp)
 have hjL:j<L.length:=by simpa using hj
 rw[getElem!_pos L.toArray i (by simp;omega),getElem!_pos L.toArray j (by simpa using hjL)]
 simp only[List.getElem_toArray]
 rcases Nat.lt_or_ge i j with h|h
 ·exact List.pairwise_iff_getElem.1 hp i j (by omega) hjL h
 ·have:i=j:=by omega
  subst this
  exact List.le_refl _
theorem adW(l:List (List UInt8))(d:ByteArray):d∈l.map uN↔toB d∈l:=by
 rw[List.mem_map]
 constructor
 ·rintro⟨x,hx,rfl⟩
  rw[aoz]
  exact hx
 ·intro h
  exact⟨toB d,h,X7 d⟩
theorem adX(l:List (List UInt8))(h:l.Pairwise (·<·)):Asc (l.map uN):=by
 unfold Asc
 rw[List.pairwise_map]
 exact h.imp fun h=>by rw[aoA];exact decide_eq_true h
theorem Ya{a b:ByteArray}(h:toB a=toB b):a=b:=by rw[<-X7 a,h,X7]
theorem aoD(l:List ByteArray)(d:ByteArray):toB d∈l.map toB↔d∈l:=by
 rw[List.mem_map]
 constructor
 ·rintro⟨x,hx,h⟩
  rw[<-Ya h]
  exact hx
 ·intro h
  exact⟨d,h,rfl⟩
theorem aoE(ds:List ByteArray):(Lib.compact (pW (ds.map toB))).map uN=jl ds:=
 X6 (adX _ (aoC _)) fun d=>by rw[adW,aoB,aoD]
theorem aoF{ss:List (List UInt8)}(ds:List ByteArray)(hn:ss.Nodup)(hm:∀d,toB d∈ss↔d∈ds):(ss.mergeSort fun x y=>decide (x<=y)).map uN=jl ds:=by
 refine X6 (adX _ ?_) fun d=> ?_
 ·have h1:=adT ss
  have h2:(pW ss).Nodup:=(List.mergeSort_perm ss _).nodup_iff.2 hn
  show(pW ss).Pairwise (·<·)
  exact(h1.and h2).imp fun h=>lt_of_le_ne h.1 h.2
 ·rw[adW,List.mem_mergeSort]
  exact hm d
theorem adY{w:World}{g n:Nat}{d d':Array (List UInt8)}(h:Go.Sort.Holds vV w g 0 d)(hs:d'.size=d.size):Go.Sort.Holds vV (Go.Sort.putRow vV (Go.Sort.ahead w n) g 0 d') g 0 d':=
 Go.Sort.holds_putRow vV (Go.Sort.ahead w n) g 0 d d' h hs
theorem aoG{w:World}{g:Nat}{l m:List (List UInt8)}(h:Go.Sort.Holds vV w g 0 (l++m).toArray):Go.Sort.Holds vV w g 0 l.toArray:=fun j hj=>by
 have hj':j<l.length:=by simpa using hj
 have:=h j (by simp;omega)
 rw[getElem!_pos (l++m).toArray j (by simp;omega)]at this
 rw[getElem!_pos l.toArray j hj]
 simp only[List.getElem_toArray,List.getElem_append_left hj']at this⊢
 exact this
theorem adZ(g cap n:Nat)(zs:List (List UInt8))(w:World)(hnz:n=zs.length)(hH:Go.Sort.Holds vV w g 0 zs.toArray)(hg:g<w.heap.size)(hn:zs.length<=100000):
 Calls Tryz.prog 39 #[.slice (some ⟨g,0,none⟩) n cap] w fun e w'=>e= .returned (.tuple #[])/\Go.Sort.Holds vV w' g 0 (pW zs).toArray/\w.grownBy w' (some g):=by
 subst hnz
 refine(Tryz.slices_Sort_string g 0 cap zs w hH hg (by omega)).mono ?_
 rintro e w' ⟨rfl,n,os,rfl⟩
 refine⟨rfl,?_,grownBy_sorted _⟩
 refine Go.Sort.holds_grow vV _ os g 0 _ ?_ (adY hH ?_)
 ·rw[Go.Sort.size_putRow]
  exact hg
 ·simp
theorem aoH(g cap n:Nat)(zs:List (List UInt8))(w:World)(hnz:n=zs.length)(hH:Go.Sort.Holds vV w g 0 zs.toArray)(hn:zs.length<=100000)(hc:zs.length<=cap):
 Calls Tryz.prog 40 #[.slice (some ⟨g,0,none⟩) n cap] w fun e w'=>e= .returned (.slice (some ⟨g,0,none⟩) (Lib.compact zs).length cap)/\Go.Sort.Holds vV w' g 0 (Lib.compact zs).toArray/\w.grownBy w' (some g):=by
 subst hnz
 refine(Tryz.slices_Compact_string g 0 cap zs w hH (by omega) hc).mono ?_
 rintro e w' ⟨rfl,q,rfl⟩
 have hl:=X8 zs
 refine⟨rfl,aoG (m:=List.replicate (zs.length-(Lib.compact zs).length) []) (adY hH (by simp;omega)),?_⟩
 have:=grownBy_sorted (w:=w) (g:=g) (n:=q) (os:= #[]) (Lib.compact zs++List.replicate (zs.length-(Lib.compact zs).length) []).toArray
 rwa[Go.Sort.grow_empty]at this
theorem aoI{w:World}{g:Nat}{zs:List (List UInt8)}(h:Go.Sort.Holds vV w g 0 zs.toArray)(hg:g<w.heap.size):Strs w (some ⟨g,0,none⟩) (zs.map uN):=fun h0=>⟨g,0,rfl,hg,fun j hj=>by
 have hj':j<zs.length:=by simpa using hj
 have:=(h j (by simpa using hj')).1
 rw[getElem!_pos zs.toArray j (by simpa using hj')]at this
 simpa[uN]using this⟩
theorem ad1(l:List ByteArray):l.flatMap dP=l.map Value.string:=by
 induction l with
 |nil=>rfl
 |cons a l ih=>rw[List.flatMap_cons,ih];rfl
theorem aoJ{w:World}{base g cap n:Nat}{l:List ByteArray}(h:aV w base 9 1 (.slice (some ⟨g,0,none⟩) n cap) n (l.flatMap dP))(hn:n=l.length):Go.Sort.Holds vV w g 0 (l.map toB).toArray:=fun j hj=>by
 have hj':j<l.length:=by simpa using hj
 obtain⟨g',e,_,_,h1,h2⟩:=h.cellAt j (.string l[j]) (by rw[ad1,List.getElem?_map,List.getElem?_eq_getElem hj'];rfl)
 injection e with e
 injection e with e
 subst e
 rw[getElem!_pos (l.map toB).toArray j hj,Nat.zero_add]
 exact⟨by simpa[toB]using h1,h2⟩
def yR(ss:List ByteArray)(w:World)(e:Ending)(w':World):Prop:=∃(A:Option Addr) (c:Nat),e= .returned (.slice A ss.length c)/\ss.length<=c/\c<=maxLen/\dI w.heap.size w' A 1 dP ss/\Q w w'
end Rel
end Go.Proofs.YtbemmjnjoabadaaGreatDoor
