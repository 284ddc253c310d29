/- part 8 -/
import Derived.StillTail
import Derived.Deep.Quiet
import Derived.OrdersHeld
import Derived.Deep.Slices
import Derived.ChangeMaps5
import Derived.Deep.RegionHeld
import Derived.Test.YtbemmjnjoabadaaGreatDoorK06
set_option linter.unusedVariables false
set_option linter.unusedSimpArgs false
set_option maxHeartbeats 2000000
set_option maxRecDepth 100000
namespace Go.Proofs.YtbemmjnjoabadaaGreatDoor
namespace Mem
open Go.RowKit aQ
section
variable {P:Program} {ops:Array Oper} {md:Region.Mode} {C:World->Prop}
def GV(P:Program)(md:Region.Mode)(ops:Array Oper)(C:World->Prop)(n:Nat)(L:Array Bool->Act->Prop):Nat->Array Bool->Act->Prop
 |0,s,a=>L s a
 |f+1,s,a=>Region.ready md ops s≠[]/\∀i∈Region.ready md ops s,i<n/\qOp P ops C i (GV P md ops C n L f (s.setIfInBounds i true)) a
theorem acU{n g:Nat}{L:Array Bool->Act->Prop}{K:Exit->Act->World->Prop}(hL:∀s a w,C w->L s a->wpAny P md ops K g s a w):
 ∀(f:Nat) (s:Array Bool) (a:Act) (w:World),C w->GV P md ops C n L f s a->wpAny P md ops K (f+g) s a w:=by
 intro f
 induction f with
 |zero=>intro s a w hw h;rw[Nat.zero_add];exact hL s a w hw h
 |succ f ih=>
  intro s a w hw h
  rw[Nat.succ_add]
  exact⟨fun h0=>absurd h0 h.1,fun i hi=>wpOp_of_qOp hw (fun a' w' hw' h'=>ih _ a' w' hw' h') (h.2 i hi).2⟩
def GX(md:Region.Mode)(ops:Array Oper)(m n:Nat):Bool:=
 (List.range n).all fun i=>decide (i<m)||(List.range (n+1)).any fun j=>decide (i<j)&&Region.waitsFor md ops j i
theorem acV{m n:Nat}{s:Array Bool}(hs:GX md ops m n=true)(hc:Region.chainB md ops n=true)(hn:n<ops.size)(inv:HeadInv md ops n s):
 ∀(d i:Nat),n-i=d->m<=i->i<n->s.getD i true=false->∀t,n<=t->t∉Region.ready md ops s:=by
 intro d
 induction d using Nat.strongRecOn with
 |_ d ih=>
  intro i hd Jp hi hun t ht hr
  obtain⟨_,ot,hot,hall⟩:=mem_ready.1 hr
  have htlt:t<ops.size:=(Array.getElem?_eq_some_iff.1 hot).1
  rcases Nat.lt_or_ge n t with htn|htn
  ·have h1:=List.all_eq_true.1 hc t (List.mem_range.2 htlt)
   rw[Bool.or_eq_true,decide_eq_true_eq]at h1
   rcases h1 with h1|h1
   ·omega
   ·obtain⟨o',ho',e,he,hb,hon⟩:=Region.waitsFor_spec h1
    obtain rfl:o'=ot:=Option.some.inj (ho'.symm.trans hot)
    have h2:=hall e he hb
    rw[hon,getD_both (inv.tail (t-1) (by omega) (by omega))]at h2
    cases h2
  ·obtain rfl:t=n:=by omega
   have h1:=List.all_eq_true.1 hs i (List.mem_range.2 hi)
   rw[Bool.or_eq_true,decide_eq_true_eq]at h1
   rcases h1 with h1|h1
   ·omega
   obtain⟨j,hj,hj2⟩:=List.any_eq_true.1 h1
   rw[Bool.and_eq_true,decide_eq_true_eq]at hj2
   have hjle:=List.mem_range.1 hj
   obtain⟨oj,hoj,e,he,hb,hon⟩:=Region.waitsFor_spec hj2.2
   rcases Nat.lt_or_ge j t with hjt|hjt
   ·cases hl:s.getD j false with
    |true=>
     have h2:=inv.closed j oj hoj hl e he hb
     rw[hon,getD_both hun]at h2
     cases h2
    |false=>
     exact ih (t-j) (by omega) j rfl (by omega) hjt (getD_in (by rw[inv.size];omega) hl) t (Nat.le_refl _) hr
   ·obtain rfl:j=t:=by omega
    obtain rfl:oj=ot:=Option.some.inj (hoj.symm.trans hot)
    have h2:=hall e he hb
    rw[hon,getD_both hun]at h2
    cases h2
theorem amP{m n i:Nat}{oi:Oper}{v:Value}{L:Array Bool->Act->Prop}(hi:ops[i]?=some oi)(hsel:∀(j:Nat) (o:Oper) cs b,ops[j]?=some o->o.op≠ .select cs b)
 (hs:GX md ops m n=true) (hc:Region.chainB md ops n=true) (hn:n<ops.size) (Jp:m<=i) (hin:i<n) (hdone:∀s a,L s a->∀j∈Region.ready md ops s,n<=j):
 ∀(f:Nat) (s:Array Bool) (a:Act),HeadInv md ops n s->
  (∀j oj,ops[j]?=some oj->j≠i->s.getD j true=false->(∀e∈oj.after,Region.binds md e=true->e.on≠i)->oi.apart ops oj=true)->
  i∈Region.ready md ops s->YieldsIn P ops C oi v a->GV P md ops C n L f (s.setIfInBounds i true) (a.put oi.dst v)->GV P md ops C n L (f+1) s a:=by
 intro f
 induction f with
 |zero=>
  intro s a inv _ hr hy H
  have hun:=(mem_ready.1 hr).1
  refine⟨fun h=>(by rw[h]at hr;cases hr),fun j hj=> ?_⟩
  have hjn:j<n:=Nat.lt_of_not_le fun h=>acV hs hc hn inv _ i rfl Jp hin hun j h hj
  by_cases hji:j=i
  ·subst hji;exact⟨hjn,hy.qOp hi H⟩
  ·have:=hdone _ _ H j (ready_mono hj hji)
   omega
 |succ f ih=>
  intro s a inv free hr hy H
  have hun:=(mem_ready.1 hr).1
  refine⟨fun h=>(by rw[h]at hr;cases hr),fun j hj=> ?_⟩
  have hjn:j<n:=Nat.lt_of_not_le fun h=>acV hs hc hn inv _ i rfl Jp hin hun j h hj
  refine⟨hjn,?_⟩
  by_cases hji:j=i
  ·subst hji;exact hy.qOp hi H
  ·have h1:=(H.2 j (ready_mono hj hji)).2
   obtain⟨hjun,oj,hoj,hall⟩:=mem_ready.1 hj
   have hnot:∀e∈oj.after,Region.binds md e=true->e.on≠i:=fun e he hb heq=>by
    have h2:=hall e he hb
    rw[heq,getD_both hun]at h2
    cases h2
   have h2:=qOp_put hoj (free j oj hoj hji hjun hnot) (fun cs b=>hsel i oi cs b hi) (fun cs b=>hsel j oj cs b hoj) hy h1
   refine qOp_mono (fun a' h3=>ih (s.setIfInBounds j true) a' (inv.set hj hjn) (fun k ok hk hki OL hno=>free k ok hk hki ?_ hno) (ready_mono hr (Ne.symm hji)) h3.1 ?_) h2
   ·by_cases hjk:j=k
    ·subst hjk;exact hjun
    ·rw[getD_set_ne true hjk]at OL;exact OL
   ·rw[Array.setIfInBounds_comm _ _ hji]
    exact h3.2
theorem amQ{m n g:Nat}{Lq:Act->Prop}(hsel:Region.noSelect ops=true)(hs:GX md ops m n=true)(hc:Region.chainB md ops n=true)(hn:n<ops.size):
 ∀(l:List Oper) (k:Nat) (s:Array Bool) (a:Act),m<=k->(∀j,j<l.length->l[j]?=ops[k+j]?)->k+l.length=n->HeadInv md ops n s->Region.lexHead md ops g l.length k s=true->wpQuiet P ops C Lq l a->
  GV P md ops C n (fun s' a'=>Region.seqB md ops g n s'=true/\Lq a') l.length s a:=by
 intro l
 induction l with
 |nil=>
  intro k s a _ _ hk _ hB h
  have:k=n:=by simpa using hk
  subst this
  exact⟨by simpa[Region.lexHead]using hB,h⟩
 |cons o l ih=>
  intro k s a hmk hl hk inv hB h
  rw[List.length_cons]at hk
  have h0:ops[k]?=some o:=by simpa using(hl 0 (by simp)).symm
  simp only[List.length_cons,Region.lexHead,Bool.and_eq_true]at hB
  obtain⟨⟨hr,hf⟩,hB'⟩:=hB
  have hkn:k<n:=by omega
  have hr':k∈Region.ready md ops s:=by simpa using hr
  have hst:qOp P ops C k (wpQuiet P ops C Lq l) a:=by unfold qOp;simp only[h0];exact h
  obtain⟨v,hy,hK⟩:=yieldsIn_of_qOp h0 hst
  exact amP h0 (Region.noSelect_spec hsel) hs hc hn hmk hkn (fun s' a' hL=>seqB_ready hL.1) l.length s a inv (Region.free_spec h0 hf) hr' hy
   (ih (k+1) _ _ (by omega) (fun j hj=>by have:=hl (j+1) (by simp;omega);simpa[Nat.add_assoc,Nat.add_comm 1 j]using this) (by omega) (inv.set hr' hkn) hB' hK)
def Jq(P:Program):List Oper->(Act->Prop)->Act->Prop
 |[],K,a=>K a
 |o::r,K,a=>o.guard=none/\∃v,(∀w,(execOp a.eval o).run P w= .ok (.value v) w)/\Jq P r K (a.put o.dst v)
theorem TN{K:Act->Prop}{a:Act}(h:K a):Jq P [] K a:=h
theorem acW{o:Oper}{r:List Oper}{K:Act->Prop}{a:Act}(x:Operand)(v:Value)(hg:o.guard=none)(ho:o.op= .move x)(hv:a.eval x=v)(h:Jq P r K (a.put o.dst v)):Jq P (o::r) K a:=
 ⟨hg,v,fun w=>by unfold execOp;simp only[ho,hv,Sem.run_bind,Sem.run_pure,Result.andThen_ok],h⟩
def TP(md:Region.Mode)(ops:Array Oper)(rest:Array Bool->Bool):Nat->Nat->Array Bool->Bool
 |0,_,s=>rest s
 |f+1,k,s=>(Region.ready md ops s).contains k&&Region.free md ops s k&&TP md ops rest f (k+1) (s.setIfInBounds k true)
theorem acX{K:Exit->Act->World->Prop}:∀(f:Nat) (s:Array Bool) (a:Act) (w:World),wpAny P md ops K f s a w->wpAnyH P md ops K (fun _=>True) f s a w:=by
 intro f
 induction f with
 |zero=>intro s a w h;exact h
 |succ f ih=>intro s a w h;exact⟨h.1,fun i hi=>wpOp_mono (fun a' w' h'=>⟨trivial,ih _ a' w' h'⟩) (h.2 i hi)⟩
theorem amR{K:Exit->Act->World->Prop}{rest:Array Bool->Bool}{Lq:Act->Prop}{w:World}{g n:Nat}(hsel:Region.noSelect ops=true)(hQ:∀c d v a w,K (.panic c) (Act.put a d v) w->K (.panic c) a w)
 (hL:∀s a,HeadInv md ops n s->rest s=true->Lq a->wpAny P md ops K g s a w):
 ∀(l:List Oper) (k:Nat) (s:Array Bool) (a:Act),(∀j,j<l.length->l[j]?=ops[k+j]?)->k+l.length<=n->HeadInv md ops n s->TP md ops rest l.length k s=true->Jq P l Lq a->wpAny P md ops K (l.length+g) s a w:=by
 intro l
 induction l with
 |nil=>intro k s a _ _ inv hB h;rw[List.length_nil,Nat.zero_add];exact hL s a inv hB h
 |cons o l ih=>
  intro k s a hl hk inv hB h
  rw[List.length_cons]at hk
  have h0:ops[k]?=some o:=by simpa using(hl 0 (by simp)).symm
  simp only[List.length_cons,TP,Bool.and_eq_true]at hB
  obtain⟨⟨hr,hf⟩,hB'⟩:=hB
  obtain⟨hg,v,hv,hK⟩:=h
  have hr':k∈Region.ready md ops s:=by simpa using hr
  have:=ih (k+1) _ _ (fun j hj=>by have:=hl (j+1) (by simp;omega);simpa[Nat.add_assoc,Nat.add_comm 1 j]using this) (by omega) (inv.set hr' (by omega)) hB' hK
  rw[List.length_cons,Nat.succ_add]
  refine wpAny_of_held (S:=fun _=>True) _ _ _ _ (wpAnyH_take h0 hsel hf hr (fun c a w=>hQ c o.dst v a w) (Or.inl ⟨by simp[Region.wanted,hg],fun w _=>hv w⟩) trivial (acX _ _ _ _ this))
def XD(md:Region.Mode)(ops:Array Oper)(m n:Nat):Bool:=
 Region.noSelect ops&&decide (m<=n)&&decide (n<ops.size)&&GX md ops m n&&Region.chainB md ops n&&TP md ops (Region.lexHead md ops (ops.size-n) (n-m) m) m 0 (Array.replicate ops.size false)
theorem amS{id:Nat}{K:Exit->Act->World->Prop}{a:Act}{w:World}{l:List Oper}(m n:Nat)(hm:P.follows .mixedOrders=true)(hB:XD .any l.toArray m n=true)(hQ:∀c d v a w,K (.panic c) (Act.put a d v) w->K (.panic c) a w)(hC:C {w with drawn:=w.drawn+1})
 (h:Jq P (l.take m) (wpQuiet P l.toArray C (fun a'=>∀w',C w'->wpList P l.toArray K (l.drop n) a' w') ((l.take n).drop m)) a):(Code.region id l.toArray true).wp P K a w:=by
 simp only[XD,Bool.and_eq_true,decide_eq_true_eq]at hB
 obtain⟨⟨⟨⟨⟨hsel,hmn⟩,hn⟩,hs⟩,hc⟩,hlex⟩:=hB
 have hn':n<l.length:=by simpa using hn
 have htl:(l.take m).length=m:=by simp;omega
 have TQ:((l.take n).drop m).length=n-m:=by simp;omega
 have hdl:(l.drop n).length=l.toArray.size-n:=by simp
 have inv0:HeadInv .any l.toArray n (Array.replicate l.toArray.size false):=
  ⟨by simp,fun j oj _ hl=>(by rw[getD_replicate_false]at hl;cases hl),fun t _ ht=>getD_in (by simpa using ht) (getD_replicate_false _ _)⟩
 refine wp_region_any hm ?_
 have H:=amR (md:= .any) (ops:=l.toArray) (K:=K) (w:={w with drawn:=w.drawn+1}) (g:=(n-m)+(l.toArray.size-n)) hsel hQ (fun s a' inv hr hL=>by
  have H:=amQ (md:= .any) (g:=l.toArray.size-n) hsel hs hc hn ((l.take n).drop m) m s a' (Nat.le_refl _) (fun j hj=>by
   rw[TQ]at hj
   rw[List.getElem?_drop,List.getElem?_take,if_pos (by omega)]
   simp) (by rw[TQ];omega) inv (by rw[TQ];exact hr) hL
  have:=acU (C:=C) (K:=K) (g:=l.toArray.size-n) (fun s a' w' hw' hL=>by
   have:=wpAny_of_seq (md:= .any) (Q':=K) (l.drop n) n s a' w' (fun j=>by simp[List.getElem?_drop]) (by rw[hdl];exact hL.1) (hL.2 w' hw')
   rwa[hdl]at this) _ _ _ _ hC H
  rwa[TQ]at this) (l.take m) 0 _ a (fun j hj=>by
   rw[htl]at hj
   rw[List.getElem?_take,if_pos hj]
   simp) (by rw[htl];omega) inv0 (by rw[htl];exact hlex) h
 rw[htl,show m+(n-m+(l.toArray.size-n))=l.toArray.size by omega]at H
 exact H
end
theorem TR{P:Program}{w0:World}{id:Nat}{K:Exit->Act->World->Prop}{a:Act}(x:Wd w0){l:List Oper}(m n:Nat)(hm:P.follows .mixedOrders=true)(hB:XD .any l.toArray m n=true)(hQ:∀c d v a w,K (.panic c) (Act.put a d v) w->K (.panic c) a w)
 (h:Jq P (l.take m) (wpQuiet P l.toArray (fun w'=>∃y:Wd w0,w'=y.w) (fun a'=>∀w',(∃y:Wd w0,w'=y.w)->wpList P l.toArray K (l.drop n) a' w') ((l.take n).drop m)) a):(Code.region id l.toArray true).wp P K a x.w:=
 amS (C:=fun w'=>∃y:Wd w0,w'=y.w) m n hm hB hQ (x.next (Q.refl _).drew) h
end Mem
namespace Mem
open Go.RowKit Go.ChangeShapes Go.WideShapes Go.Deep aQ
def dS{α:Type}(w:World)(A:Option Addr)(k:Nat)(f:α->List Value)(l:List α):Prop:=
 0<l.length->∃b o,A=some ⟨b,o,none⟩/\b<w.heap.size/\∀j (h:j<l.length),w.rangeAt b (o+j*k) (f l[j])
theorem dS.q{α:Type}{w w':World}{A:Option Addr}{k:Nat}{f:α->List Value}{l:List α}(h:dS w A k f l)(hq:Q w w'):dS w' A k f l:=fun h0=>by
 obtain⟨b,o,e,hb,hc⟩:=h h0
 exact⟨b,o,e,Nat.lt_of_lt_of_le hb hq.size,fun j hj=>yP (hc j hj) hq hb⟩
theorem dS.nil{α:Type}(w:World)(A:Option Addr)(k:Nat)(f:α->List Value):dS w A k f []:=fun h=>by simp at h
section
variable {H:Type} {enc:TypeId×Value->H} {P:Program} {W:World} {base:Nat} {spare:Nat->Bool} {held:Bool}
structure acY(α:Type) where
 A:Option Addr
 l:List α
 c:Nat
def acY.cells{α:Type}(s:acY α):List Value:=[.slice s.A s.l.length s.c]
end
end Mem
namespace Item
open Go.RowKit aQ Mem _root_.Go.Proofs.YtbemmjnjoabadaaGreatDoor.Code aY Sign
def isRow(w:World)(k:Nat):Prop:=∃cs fr,w.heap[k]?=some (.cells cs 5 fr)
structure Tk(B g:Nat)(w w':World):Prop where
 os:w'.os=w.os
 tape:w'.tape=w.tape
 output:w'.output=w.output
 size:w.heap.size<=w'.heap.size
 block:∀k,k<w.heap.size->(k<B∨(k≠g/\¬isRow w k))->w'.heap[k]?=w.heap[k]?
theorem Tk.pV{B g:Nat}{w w':World}(h:Q w w'):Tk B g w w':=⟨h.os,h.tape,h.output,h.size,fun k hk _=>h.block k hk⟩
theorem Tk.refl(B g:Nat)(w:World):Tk B g w w:=Tk.pV (Q.refl w)
theorem Tk.trans{B g:Nat}{a b c:World}(h:Tk B g a b)(k:Tk B g b c):Tk B g a c:=
 ⟨k.os.trans h.os,k.tape.trans h.tape,k.output.trans h.output,Nat.le_trans h.size k.size,fun i hi hc=>by
   have e:=h.block i hi hc
   refine(k.block i (Nat.lt_of_lt_of_le hi h.size) ?_).trans e
   rcases hc with hc|⟨h1,h2⟩
   ·exact .inl hc
   ·exact .inr ⟨h1,fun⟨cs,fr,hr⟩=>h2 ⟨cs,fr,by rw[<-e];exact hr⟩⟩⟩
theorem Tk.q{B g:Nat}{w0 w w':World}(h:Tk B g w w')(hB:B=w0.heap.size)(hq:Q w0 w):Q w0 w':=by
 subst hB
 exact⟨h.os.trans hq.os,h.tape.trans hq.tape,h.output.trans hq.output,Nat.le_trans hq.size h.size,fun k hk=>(h.block k (Nat.lt_of_lt_of_le hk hq.size) (.inl hk)).trans (hq.block k hk)⟩
structure wU(B g:Nat)(w:World)(b:Nat):Prop where
 lt:b<w.heap.size
 or:b<B∨(b≠g/\¬isRow w b)
theorem wU.next{B g:Nat}{w w':World}{b:Nat}(h:wU B g w b)(k:Tk B g w w'):wU B g w' b:=
 ⟨Nat.lt_of_lt_of_le h.lt k.size,by
   rcases h.or with h1|⟨h1,h2⟩
   ·exact .inl h1
   ·exact .inr ⟨h1,fun⟨cs,fr,hr⟩=>h2 ⟨cs,fr,by rw[<-k.block b h.lt h.or];exact hr⟩⟩⟩
theorem wU.blk{B g:Nat}{w:World}{b:Nat}{t:TypeId}{cs:Array Value}(h:ah w b t cs)(hne:b≠g)(ht:t≠5):wU B g w b:=
 ⟨h.lt, .inr ⟨hne,fun⟨cs',fr,hr⟩=>by
   unfold ah at h
   rw[h]at hr
   exact ht (by injection hr with e;injection e)⟩⟩
theorem Tk.blk{B g:Nat}{w w':World}{b:Nat}{t:TypeId}{cs:Array Value}(k:Tk B g w w')(hs:wU B g w b)(h:ah w b t cs):ah w' b t cs:=(k.block b hs.lt hs.or).trans h
theorem Tk.cell{B g:Nat}{w w':World}{b:Nat}(k:Tk B g w w')(hs:wU B g w b)(o:Nat):w'.cell? ⟨b,o,none⟩=w.cell? ⟨b,o,none⟩:=World.cell?_of_block (w:=w) (k.block b hs.lt hs.or)
theorem Tk.range{B g:Nat}{w w':World}{b o:Nat}{cs:List Value}(k:Tk B g w w')(hs:wU B g w b)(h:w.rangeAt b o cs):w'.rangeAt b o cs:=fun j v hv=>(k.cell hs _).trans (h j v hv)
def kK(B g:Nat)(w:World)(L:List UInt8):Prop:=B<=g/\∃v,ah w g 229 #[v]/\aV w B 5 1 v L.length (cellsOf L)
theorem kK.q{B g:Nat}{w w':World}{L:List UInt8}(h:kK B g w L)(hq:Q w w'):kK B g w' L:=by
 obtain⟨hB,v,h1,h2⟩:=h
 exact⟨hB,v,h1.q hq,h2.q hq⟩
theorem acZ{w:World}{B n size:Nat}{v:Value}{xs:List Value}{k:Nat}(h:aV w B 5 size v n xs)(hk:v.ownBlock=some k):isRow w k:=by
 rcases h.2 with⟨rfl,_⟩|⟨g,cap,cur,fz,rfl,_,hg,_⟩
 ·simp[Value.ownBlock]at hk
 ·simp only[Value.ownBlock,Option.some.injEq]at hk
  subst hk
  exact⟨cur,fz,hg⟩
theorem amT:(229:TypeId)≠5:=by decide
theorem row_ne{g B m:Nat}{u:World}{x:Value}{c:Array Value}{ys:List Value}(hb:ah u g 229 c)(ho:aV u B 5 1 x m ys):some g≠x.ownBlock:=fun e=>by
 obtain⟨cs',fr,hr⟩:=acZ ho e.symm
 unfold ah at hb
 rw[hb]at hr
 exact amT (by injection hr with e;injection e)
theorem kK.at2{B g n:Nat}{w w2:World}{v:Value}{xs:List Value}(hg:ah w g 229 #[v])(hown:aV w B 5 1 v n xs)(hgr:w.grownBy w2 v.ownBlock):ah w2 g 229 #[v]:=
 (hgr.block g hg.lt (row_ne hg hown)).trans hg
theorem kK.step{B g n:Nat}{w w2:World}{v v2:Value}{xs:List Value}{L':List UInt8}(hB:B<=g)(hg:ah w g 229 #[v])(hown:aV w B 5 1 v n xs)
 (hown2:aV w2 B 5 1 v2 L'.length (cellsOf L')) (hgr:w.grownBy w2 v.ownBlock):kK B g (w2.setCell ⟨g,0,none⟩ v2) L'/\Tk B g w (w2.setCell ⟨g,0,none⟩ v2):=by
 have hg2:=kK.at2 hg hown hgr
 refine⟨⟨hB,v2,by simpa using hg2.Dq 0 v2,hown2.keep fun k hk=>Below.heap_setCell _ _ _ _ (fun e=>row_ne hg2 hown2 (by rw[hk,e]))⟩,hgr.os,hgr.tape,hgr.output,by simpa[World.setCell]using hgr.size,fun k hk hc=> ?_⟩
 have hkg:k≠g:=by
  rcases hc with hc|hc
  ·omega
  ·exact hc.1
 rw[Below.heap_setCell _ _ _ _ hkg]
 refine hgr.block k hk fun e=> ?_
 rcases hc with hc|hc
 ·have:=(hown.lt k e.symm).1
  omega
 ·exact hc.2 (acZ hown e.symm)
theorem kK.own{B g n:Nat}{w w2:World}{v v2:Value}{xs:List Value}{L':List UInt8}(hg:ah w g 229 #[v])(hown:aV w B 5 1 v n xs)
 (hown2:aV w2 B 5 1 v2 L'.length (cellsOf L')) (hgr:w.grownBy w2 v.ownBlock):aV (w2.setCell ⟨g,0,none⟩ v2) B 5 1 v2 L'.length (cellsOf L'):=
 hown2.keep fun k hk=>Below.heap_setCell _ _ _ _ (fun e=>row_ne (kK.at2 hg hown hgr) hown2 (by rw[hk,e]))
theorem kK.new(w:World){B:Nat}(hB:B<=w.heap.size):kK B w.heap.size (w.alloc (.cells #[.slice none 0 0] 229)) []:=
 ⟨hB,_,ah.new w _ _,aV.nil_ _ _ _ _⟩
theorem kK.stay{B g:Nat}{w:World}{L:List UInt8}(h:kK B g w L):g<w.heap.size:=by
 obtain⟨_,v,h1,_⟩:=h
 exact h1.lt
def amU(B g:Nat)(w:World)(A:Option Addr)(l:List Int):Prop:=0<l.length->∃b o,A=some ⟨b,o,none⟩/\wU B g w b/\∀j (h:j<l.length),w.cell? ⟨b,o+j,none⟩=some (.int .i64 l[j])
def amV(B g:Nat)(w:World)(A:Option Addr)(l:List ByteArray):Prop:=0<l.length->∃b o,A=some ⟨b,o,none⟩/\wU B g w b/\∀j (h:j<l.length),w.cell? ⟨b,o+j,none⟩=some (.string l[j])
theorem ac0{α:Type}(f:α->List UInt8)(L:List UInt8)(l:List α)(k:Nat)(h:k<l.length):L++(l.take (k+1)).flatMap f=(L++(l.take k).flatMap f)++f l[k]:=by
 rw[List.take_succ_eq_append_getElem h,List.flatMap_append,List.append_assoc]
 simp
theorem ac1{α:Type}(f:α->List UInt8)(D:Nat):∀(l:List α),(∀x∈l,(f x).length<=D)->(l.flatMap f).length<=l.length*D:=by
 intro l
 induction l with
 |nil=>intro _;simp
 |cons a l ih=>
  intro h
  rw[List.flatMap_cons,List.length_append,List.length_cons,Nat.succ_mul]
  have h1:=h a (by simp)
  have h2:=ih fun x hx=>h x (by simp[hx])
  omega
theorem TS(n:Int):(fV n).length<=10:=by
 unfold fV
 rw[ny]
 exact iI n
theorem amW(B g:Nat)(L:List UInt8)(A:Option Addr)(c:Nat)(l:List Int)(w:World)(hb:kK B g w L)(hI:amU B g w A l)(hr:∀n∈l,n<=9223372036854775807)(hs:L.length+l.length*10<=140737488355327):
 Calls Tryz.prog 184 #[.pointer (some ⟨g,0,none⟩), .slice A l.length c] w fun e w'=>e= .returned (.tuple #[])/\(kK B g w' (L++l.flatMap fV)/\Tk B g w w'):=by
 obtain⟨i0,hi,hz0,hz1,hz2⟩:=info_parts Code.Dt
 have XE:=Lib.hid hb
 clear hb
 go_enter Tryz.func184,Tryz.ntmps184
 go_wp2_with fail
 go_loopw [8] (fun i wr=>∃k:Nat,i= .int .i64 k/\k<=l.length/\kK B g wr (L++(l.take k).flatMap fV)/\Tk B g w wr) (fun i _=>l.length-(intOf i).toNat)
 case atStart=>exact⟨0,rfl,Nat.zero_le _,by simpa using XE.out,Tk.refl _ _ _⟩
 case round=>
  obtain⟨k,rfl,hk,EW,htk⟩:=hrel
  by_cases hlt:k<l.length
  ·obtain⟨b,o,rfl,hst,hcell⟩:=hI (by omega)
   have hce:wr.cell? ⟨b,o+k,none⟩=some (.int .i64 l[k]):=(htk.cell hst _).trans (hcell k hlt)
   clear hcell
   have hrk:=hr _ (List.getElem_mem hlt)
   obtain⟨hB,v,hg,hown⟩:=EW
   have hfl:=Lib.hid (ac0 fV L l k hlt)
   have hnk:=TS l[k]
   have hft:=ac1 fV 10 (l.take k) fun x _=>TS x
   rw[List.length_take]at hft
   have hll:(L++(l.take k).flatMap fV).length<=L.length+k*10:=by
    rw[List.length_append]
    have:=Nat.mul_le_mul_right 10 (Nat.min_le_left k l.length)
    omega
   have hkl:k*10+10<=l.length*10:=by omega
   clear hft
   generalize hX:l[k]=x at*
   generalize hY:L++(l.take k).flatMap fV=Y at*
   clear hX hY
   have cg:∀y:Wd wr,y.w.cell? ⟨g,0,none⟩=some v:=fun y=>(y.q.cell (p:=⟨g,0,none⟩) hg.lt).trans (hg.cell 0)
   go_wp2_with fail
   refine TR (⟨_,Q.refl _⟩:Wd wr) 1 7 (by kernel_rfl) (by kernel_rfl) (by intro c d v a w h;cases d<;>exact h) ?_
   simp only[List.take_succ_cons,List.take_zero,List.drop_succ_cons,List.drop_zero]
   refine acW _ _ rfl rfl rfl (TN ?_)
   simp only[Act.put,List.setIfInBounds_toArray,List.set_cons_succ,List.set_cons_zero]
   repeat(go_big_quiet_step (exact Wd.call _ (kM _ _ hrk)))
   refine wpQuiet_nil ?_
   rintro w'' ⟨y,rfl⟩
   have hown':=hown.q y.q
   have hg':=hg.q y.q
   have hsz:(aU x).size=(fV x).length:=by unfold fV;rw[ny]
   have HZ:=Lib.hid hsz
   have hsz2:=iI x
   clear hsz
   go_wp2_with (at_builtin;refine SS _ rfl (.tmp 16) (.tmp 18) 126 9 rfl B 5 i0 Tryz.underlying126 Tryz.underlying9 hi hz0 hz1 hz2 v Y.length (cellsOf Y) rfl hown' (aU x) rfl ?_ ?_ ?_ ?_)
   ·simp only[maxLen];omega
   ·omega
   ·have:=hg'.lt;omega
   intro v2 w2 hown2 hgr
   rw[strCells_eq,HZ.out,<-Je,<-List.length_append]at hown2
   have hg2:=kK.at2 hg' hown' hgr
   have z0:w2.cell? ⟨g,0,none⟩=some v:=hg2.cell 0
   have z1:=hg2.frozen 0
   obtain⟨hb2,hk2⟩:=kK.step (L':=Y++fV x) hB hg' hown' hown2 hgr
   rw[<-hfl.out]at hb2
   obtain⟨A2,cap2,rfl,-,-⟩:=hown2.shape
   rw[List.length_append]at hb2 hk2
   have HB:=Lib.hid hb2
   have HK:=Lib.hid hk2
   clear hk2
   clear hb2 hown2 hown' hown hg2 cg
   go_wp2
   exact⟨⟨k+1,by go_num,by omega,HB.out,htk.trans ((Tk.pV y.q).trans HK.out)⟩,by simp only[intOf];omega⟩
  ·have hkl:k=l.length:=by omega
   subst hkl
   rw[List.take_length]at EW
   have hH:=Lib.hid EW
   clear EW
   go_wp2
   go_end0
   exact⟨rfl,hH.out,htk⟩
theorem amX(B g:Nat)(L:List UInt8)(A:Option Addr)(c:Nat)(l:List ByteArray)(w:World)(hb:kK B g w L)(hI:amV B g w A l)(M:Nat)(hn:l.length<=140737488355327)(hr:∀n∈l,n.size<=M)(hs:L.length+l.length*(M+10)<=140737488355327):
 Calls Tryz.prog 231 #[.pointer (some ⟨g,0,none⟩), .slice A l.length c] w fun e w'=>e= .returned (.tuple #[])/\(kK B g w' (L++l.flatMap gZ)/\Tk B g w w'):=by
 obtain⟨i0,hi,hz0,hz1,hz2⟩:=info_parts Code.Dt
 have XE:=Lib.hid hb
 clear hb
 go_enter Tryz.func231,Tryz.ntmps231
 go_wp2_with fail
 go_loopw [8] (fun i wr=>∃k:Nat,i= .int .i64 k/\k<=l.length/\kK B g wr (L++(l.take k).flatMap gZ)/\Tk B g w wr) (fun i _=>l.length-(intOf i).toNat)
 case atStart=>exact⟨0,rfl,Nat.zero_le _,by simpa using XE.out,Tk.refl _ _ _⟩
 case round=>
  obtain⟨k,rfl,hk,EW,htk⟩:=hrel
  by_cases hlt:k<l.length
  ·obtain⟨b,o,rfl,hst,hcell⟩:=hI (by omega)
   have hce:wr.cell? ⟨b,o+k,none⟩=some (.string l[k]):=(htk.cell hst _).trans (hcell k hlt)
   clear hcell
   have hrk:=hr _ (List.getElem_mem hlt)
   obtain⟨hB,v,hg,hown⟩:=EW
   have hfl:=Lib.hid (ac0 gZ L l k hlt)
   have hnk:=vN l[k]
   have hft:=ac1 gZ (M+10) (l.take k) fun x hx=>by have:=vN x;have:=hr x (List.mem_of_mem_take hx);omega
   rw[List.length_take]at hft
   have hll:(L++(l.take k).flatMap gZ).length<=L.length+k*(M+10):=by
    rw[List.length_append]
    have:=Nat.mul_le_mul_right (M+10) (Nat.min_le_left k l.length)
    omega
   have hkl:k*(M+10)+(M+10)<=l.length*(M+10):=by rw[<-Nat.succ_mul];exact Nat.mul_le_mul_right _ hlt
   clear hft
   generalize hX:l[k]=x at*
   generalize hY:L++(l.take k).flatMap gZ=Y at*
   clear hX hY
   have cg:∀y:Wd wr,y.w.cell? ⟨g,0,none⟩=some v:=fun y=>(y.q.cell (p:=⟨g,0,none⟩) hg.lt).trans (hg.cell 0)
   go_wp2_with fail
   refine TR (⟨_,Q.refl _⟩:Wd wr) 1 7 (by kernel_rfl) (by kernel_rfl) (by intro c d v a w h;cases d<;>exact h) ?_
   simp only[List.take_succ_cons,List.take_zero,List.drop_succ_cons,List.drop_zero]
   refine acW _ _ rfl rfl rfl (TN ?_)
   simp only[Act.put,List.setIfInBounds_toArray,List.set_cons_succ,List.set_cons_zero]
   repeat(go_big_quiet_step (exact Wd.call _ (kY _ _ (by omega))))
   refine wpQuiet_nil ?_
   rintro w'' ⟨y,rfl⟩
   have hown':=hown.q y.q
   have hg':=hg.q y.q
   have hsz:(aZ x).size=(gZ x).length:=tK _
   have HZ:=Lib.hid hsz
   have hsz2:(aZ x).size<=x.size+10:=by rw[HZ.out];exact hnk
   clear hsz
   go_wp2_with (at_builtin;refine SS _ rfl (.tmp 16) (.tmp 18) 126 9 rfl B 5 i0 Tryz.underlying126 Tryz.underlying9 hi hz0 hz1 hz2 v Y.length (cellsOf Y) rfl hown' (aZ x) rfl ?_ ?_ ?_ ?_)
   ·simp only[maxLen];omega
   ·omega
   ·have:=hg'.lt;omega
   intro v2 w2 hown2 hgr
   rw[strCells_eq,HZ.out,show(aZ x).data.toList=gZ x from rY _,<-Je,<-List.length_append]at hown2
   have hg2:=kK.at2 hg' hown' hgr
   have z0:w2.cell? ⟨g,0,none⟩=some v:=hg2.cell 0
   have z1:=hg2.frozen 0
   obtain⟨hb2,hk2⟩:=kK.step (L':=Y++gZ x) hB hg' hown' hown2 hgr
   rw[<-hfl.out]at hb2
   obtain⟨A2,cap2,rfl,-,-⟩:=hown2.shape
   rw[List.length_append]at hb2 hk2
   have HB:=Lib.hid hb2
   have HK:=Lib.hid hk2
   clear hk2
   clear hb2 hown2 hown' hown hg2 cg
   go_wp2
   exact⟨⟨k+1,by go_num,by omega,HB.out,htk.trans ((Tk.pV y.q).trans HK.out)⟩,by simp only[intOf];omega⟩
  ·have hkl:k=l.length:=by omega
   subst hkl
   rw[List.take_length]at EW
   have hH:=Lib.hid EW
   clear EW
   go_wp2
   go_end0
   exact⟨rfl,hH.out,htk⟩
theorem amY{B g:Nat}{L:List UInt8}{w:World}(hb:kK B g w L)(l:List Int)(cs:Array Value)(n kk:Nat)(hkk:kk=w.heap.size)(hc:cs=(l.map fun n=>Value.int .i64 n).toArray)(hn:n=l.length)(hr:∀n∈l,n<=9223372036854775807)(hs:L.length+l.length*10<=140737488355327):
 Calls Tryz.prog 184 #[.pointer (some ⟨g,0,none⟩), .slice (some ⟨kk,0,none⟩) n n] (w.alloc (.cells cs 3)) fun e w'=>e= .returned (.tuple #[])/\(kK B g w' (L++l.flatMap fV)/\Tk B g w w'):=by
 subst hn
 subst hkk
 have hN:=ah.new w 3 cs
 refine(amW B g L (some ⟨w.heap.size,0,none⟩) l.length l _ (hb.q (aO w cs 3)) (fun _=>⟨_,_,rfl,wU.blk hN (by have:=hb.stay;omega) (by decide),fun j hj=> ?_⟩) hr hs).mono fun e w' ⟨h1,h2,h3⟩=>⟨h1,h2,(Tk.pV (aO w cs 3)).trans h3⟩
 rw[hN.cell,hc,Nat.zero_add]
 simp[hj]
structure Kd(B g:Nat)(W:World) where
 w:World
 q:Tk B g W w
theorem Kd.next{B g:Nat}{W:World}(x:Kd B g W){w':World}(h:Tk B g x.w w'):∃y:Kd B g W,w'=y.w:=⟨⟨w',x.q.trans h⟩,rfl⟩
theorem Kd.first(B g:Nat)(W:World):∃y:Kd B g W,W=y.w:=⟨⟨W,Tk.refl B g W⟩,rfl⟩
theorem Kd.cell{B g:Nat}{W:World}{b:Nat}{t:TypeId}{cs:Array Value}(h:ah W b t cs)(hs:wU B g W b)(j:Nat){v:Value}(hv:cs[j]?=some v):∀y:Kd B g W,y.w.cell? ⟨b,j,none⟩=some v:=fun y=>
 ((y.q.cell hs j).trans (h.cell j)).trans hv
theorem Kd.load{P:Program}{B g:Nat}{W:World}{b o:Nat}{cs:List Value}(hs:wU B g W b)(h:W.rangeAt b o cs){ty:TypeId}{d:TypeDesc}(hu:P.underlying ty=some d)(hd:d.isRow=true)(hi:(P.info? ty).map (·.size)=some cs.length):
 ∀y:Kd B g W,(Instr.loadAt ty (.pointer (some ⟨b,o,none⟩))).run P y.w= .ok (.agg cs.toArray) y.w:=fun y=>run_loadAt_mid y.w b o ty cs d (y.q.range hs h) hu hd hi
theorem boxedB(w:World)(t:TypeId)(cs:List Value):∃(w1:World) (x:Wd w1),w.alloc (.cells cs.toArray t)=x.w/\Q w w1/\ah w1 w.heap.size t cs.toArray:=
 ⟨_,⟨_,Q.refl _⟩,rfl,aO w _ t,ah.new w t cs.toArray⟩
end Item
namespace Mem
open Go.RowKit aQ
section
variable {P:Program} {ops:Array Oper} {md:Region.Mode} {C:World->Prop}
def TT(md:Region.Mode)(ops:Array Oper)(n:Nat):Bool:=
 (List.range ops.size).all fun t=>decide (t<=n)||(List.range t).any fun s=>decide (n<=s)&&Region.waitsFor md ops t s
theorem ac2{n:Nat}{s:Array Bool}(hs:GX md ops 0 n=true)(hc:TT md ops n=true)(hn:n<ops.size)(inv:HeadInv md ops n s):
 ∀(d i:Nat),n-i=d->i<n->s.getD i true=false->∀t,n<=t->t∉Region.ready md ops s:=by
 intro d
 induction d using Nat.strongRecOn with
 |_ d ih=>
  intro i hd hi hun t ht hr
  obtain⟨_,ot,hot,hall⟩:=mem_ready.1 hr
  have htlt:t<ops.size:=(Array.getElem?_eq_some_iff.1 hot).1
  rcases Nat.lt_or_ge n t with htn|htn
  ·have h1:=List.all_eq_true.1 hc t (List.mem_range.2 htlt)
   rw[Bool.or_eq_true,decide_eq_true_eq]at h1
   rcases h1 with h1|h1
   ·omega
   ·obtain⟨u,hu,hu2⟩:=List.any_eq_true.1 h1
    rw[Bool.and_eq_true,decide_eq_true_eq]at hu2
    have hut:=List.mem_range.1 hu
    obtain⟨o',ho',e,he,hb,hon⟩:=Region.waitsFor_spec hu2.2
    obtain rfl:o'=ot:=Option.some.inj (ho'.symm.trans hot)
    have h2:=hall e he hb
    rw[hon,getD_both (inv.tail u hu2.1 (by omega))]at h2
    cases h2
  ·obtain rfl:t=n:=by omega
   have h1:=List.all_eq_true.1 hs i (List.mem_range.2 hi)
   rw[Bool.or_eq_true,decide_eq_true_eq]at h1
   rcases h1 with h1|h1
   ·omega
   obtain⟨j,hj,hj2⟩:=List.any_eq_true.1 h1
   rw[Bool.and_eq_true,decide_eq_true_eq]at hj2
   have hjle:=List.mem_range.1 hj
   obtain⟨oj,hoj,e,he,hb,hon⟩:=Region.waitsFor_spec hj2.2
   rcases Nat.lt_or_ge j t with hjt|hjt
   ·cases hl:s.getD j false with
    |true=>
     have h2:=inv.closed j oj hoj hl e he hb
     rw[hon,getD_both hun]at h2
     cases h2
    |false=>
     exact ih (t-j) (by omega) j rfl hjt (getD_in (by rw[inv.size];omega) hl) t (Nat.le_refl _) hr
   ·obtain rfl:j=t:=by omega
    obtain rfl:oj=ot:=Option.some.inj (hoj.symm.trans hot)
    have h2:=hall e he hb
    rw[hon,getD_both hun]at h2
    cases h2
theorem amZ{n i:Nat}{oi:Oper}{v:Value}{L:Array Bool->Act->Prop}(hi:ops[i]?=some oi)(hsel:∀(j:Nat) (o:Oper) cs b,ops[j]?=some o->o.op≠ .select cs b)
 (hs:GX md ops 0 n=true) (hc:TT md ops n=true) (hn:n<ops.size) (hin:i<n) (hdone:∀s a,L s a->∀j∈Region.ready md ops s,n<=j):
 ∀(f:Nat) (s:Array Bool) (a:Act),HeadInv md ops n s->
  (∀j oj,ops[j]?=some oj->j≠i->s.getD j true=false->(∀e∈oj.after,Region.binds md e=true->e.on≠i)->oi.apart ops oj=true)->
  i∈Region.ready md ops s->YieldsIn P ops C oi v a->GV P md ops C n L f (s.setIfInBounds i true) (a.put oi.dst v)->GV P md ops C n L (f+1) s a:=by
 intro f
 induction f with
 |zero=>
  intro s a inv _ hr hy H
  have hun:=(mem_ready.1 hr).1
  refine⟨fun h=>(by rw[h]at hr;cases hr),fun j hj=> ?_⟩
  have hjn:j<n:=Nat.lt_of_not_le fun h=>ac2 hs hc hn inv _ i rfl hin hun j h hj
  by_cases hji:j=i
  ·subst hji;exact⟨hjn,hy.qOp hi H⟩
  ·have:=hdone _ _ H j (ready_mono hj hji)
   omega
 |succ f ih=>
  intro s a inv free hr hy H
  have hun:=(mem_ready.1 hr).1
  refine⟨fun h=>(by rw[h]at hr;cases hr),fun j hj=> ?_⟩
  have hjn:j<n:=Nat.lt_of_not_le fun h=>ac2 hs hc hn inv _ i rfl hin hun j h hj
  refine⟨hjn,?_⟩
  by_cases hji:j=i
  ·subst hji;exact hy.qOp hi H
  ·have h1:=(H.2 j (ready_mono hj hji)).2
   obtain⟨hjun,oj,hoj,hall⟩:=mem_ready.1 hj
   have hnot:∀e∈oj.after,Region.binds md e=true->e.on≠i:=fun e he hb heq=>by
    have h2:=hall e he hb
    rw[heq,getD_both hun]at h2
    cases h2
   have h2:=qOp_put hoj (free j oj hoj hji hjun hnot) (fun cs b=>hsel i oi cs b hi) (fun cs b=>hsel j oj cs b hoj) hy h1
   refine qOp_mono (fun a' h3=>ih (s.setIfInBounds j true) a' (inv.set hj hjn) (fun k ok hk hki OL hno=>free k ok hk hki ?_ hno) (ready_mono hr (Ne.symm hji)) h3.1 ?_) h2
   ·by_cases hjk:j=k
    ·subst hjk;exact hjun
    ·rw[getD_set_ne true hjk]at OL;exact OL
   ·rw[Array.setIfInBounds_comm _ _ hji]
    exact h3.2
def OM:Nat->Nat->Array Bool->Array Bool
 |0,_,s=>s
 |f+1,k,s=>OM f (k+1) (s.setIfInBounds k true)
def headB(md:Region.Mode)(ops:Array Oper)(n:Nat):Nat->Nat->Array Bool->Bool
 |0,_,s=>(Region.ready md ops s).all fun j=>decide (n<=j)
 |f+1,k,s=>(Region.ready md ops s).contains k&&Region.free md ops s k&&headB md ops n f (k+1) (s.setIfInBounds k true)
theorem am0{n:Nat}:∀(f k:Nat) (s:Array Bool),headB md ops n f k s=true->∀j∈Region.ready md ops (OM f k s),n<=j:=by
 intro f
 induction f with
 |zero=>intro k s h j hj;simpa using List.all_eq_true.1 h j hj
 |succ f ih=>
  intro k s h
  simp only[headB,Bool.and_eq_true]at h
  exact ih _ _ h.2
theorem am1{n:Nat}{Lq:Act->Prop}{SN:Array Bool}(hsel:Region.noSelect ops=true)(hs:GX md ops 0 n=true)(hc:TT md ops n=true)(hn:n<ops.size)(hd:∀j∈Region.ready md ops SN,n<=j):
 ∀(l:List Oper) (k:Nat) (s:Array Bool) (a:Act),(∀j,j<l.length->l[j]?=ops[k+j]?)->k+l.length=n->HeadInv md ops n s->headB md ops n l.length k s=true->OM l.length k s=SN->wpQuiet P ops C Lq l a->
  GV P md ops C n (fun s' a'=>s'=SN/\Lq a') l.length s a:=by
 intro l
 induction l with
 |nil=>intro k s a _ _ _ _ he h;exact⟨he,h⟩
 |cons o l ih=>
  intro k s a hl hk inv hB he h
  rw[List.length_cons]at hk
  have h0:ops[k]?=some o:=by simpa using(hl 0 (by simp)).symm
  simp only[List.length_cons,headB,Bool.and_eq_true]at hB
  obtain⟨⟨hr,hf⟩,hB'⟩:=hB
  have hkn:k<n:=by omega
  have hr':k∈Region.ready md ops s:=by simpa using hr
  have hst:qOp P ops C k (wpQuiet P ops C Lq l) a:=by unfold qOp;simp only[h0];exact h
  obtain⟨v,hy,hK⟩:=yieldsIn_of_qOp h0 hst
  exact amZ h0 (Region.noSelect_spec hsel) hs hc hn hkn (fun s' a' hL=>by rw[hL.1];exact hd) l.length s a inv (Region.free_spec h0 hf) hr' hy
   (ih (k+1) _ _ (fun j hj=>by have:=hl (j+1) (by simp;omega);simpa[Nat.add_assoc,Nat.add_comm 1 j]using this) (by omega) (inv.set hr' hkn) hB' he hK)
def nR(md:Region.Mode)(ops:Array Oper)(n:Nat):Bool:=
 Region.noSelect ops&&decide (n<ops.size)&&GX md ops 0 n&&TT md ops n&&headB md ops n n 0 (Array.replicate ops.size false)
theorem am2{id:Nat}{K:Exit->Act->World->Prop}{a:Act}{w:World}{l:List Oper}(n:Nat)(hm:P.follows .mixedOrders=true)(hB:nR .any l.toArray n=true)(hC:C {w with drawn:=w.drawn+1})
 (h:wpQuiet P l.toArray C (fun a'=>∀w',C w'->wpAny P .any l.toArray K (l.length-n) (OM n 0 (Array.replicate l.length false)) a' w') (l.take n) a):(Code.region id l.toArray true).wp P K a w:=by
 simp only[nR,Bool.and_eq_true,decide_eq_true_eq]at hB
 obtain⟨⟨⟨⟨hsel,hn⟩,hs⟩,hc⟩,hlex⟩:=hB
 have hn':n<l.length:=by simpa using hn
 have htl:(l.take n).length=n:=by simp;omega
 have inv0:HeadInv .any l.toArray n (Array.replicate l.toArray.size false):=
  ⟨by simp,fun j oj _ hl=>(by rw[getD_replicate_false]at hl;cases hl),fun t _ ht=>getD_in (by simpa using ht) (getD_replicate_false _ _)⟩
 refine wp_region_any hm ?_
 have H:=am1 (md:= .any) (SN:=OM n 0 (Array.replicate l.toArray.size false)) hsel hs hc hn (am0 _ _ _ hlex) (l.take n) 0 _ a (fun j hj=>by
  rw[htl]at hj
  rw[List.getElem?_take,if_pos hj]
  simp) (by rw[htl];omega) inv0 (by rw[htl];exact hlex) (by rw[htl]) h
 have:=acU (C:=C) (K:=K) (g:=l.length-n) (fun s a' w' hw' hL=>by rw[hL.1];exact hL.2 w' hw') _ _ _ _ hC H
 rw[htl,show n+(l.length-n)=l.toArray.size by simp;omega]at this
 exact this
theorem am3{K:Exit->Act->World->Prop}{l:List Oper}(k:Nat){o:Oper}{v:Value}{f:Nat}{s:Array Bool}{a:Act}{w:World}(hi:l[k]?=some o)(hsel:Region.noSelect l.toArray=true)(hf:Region.free md l.toArray s k=true)(hr:(Region.ready md l.toArray s).contains k=true)
 (hQ:∀c d v a w,K (.panic c) (Act.put a d v) w->K (.panic c) a w) (hg:o.guard=none) (hv:∀w,(execOp a.eval o).run P w= .ok (.value v) w) (h:wpAny P md l.toArray K f (s.setIfInBounds k true) (a.put o.dst v) w):wpAny P md l.toArray K (f+1) s a w:=
 wpAny_of_held (S:=fun _=>True) _ _ _ _ (wpAnyH_take (by simpa using hi) hsel hf hr (fun c a w=>hQ c o.dst v a w) (Or.inl ⟨by simp[Region.wanted,hg],fun w _=>hv w⟩) trivial (acX _ _ _ _ h))
theorem ac3{K:Exit->Act->World->Prop}{l:List Oper}(k:Nat){o:Oper}{f:Nat}{s:Array Bool}{a:Act}{w:World}(hi:l[k]?=some o)(hr:Region.ready md l.toArray s=[k])(hg:o.guard=none)
 (h:∀K':Act->World->Prop,(∀a w,wpAny P md l.toArray K f (s.setIfInBounds k true) a w->K' a w)->o.wp P a w K' K):wpAny P md l.toArray K (f+1) s a w:=by
 refine⟨fun h0=>(by rw[hr]at h0;cases h0),fun i hi2=> ?_⟩
 rw[hr]at hi2
 obtain rfl:i=k:=by simpa using hi2
 refine wpOp_step (by simpa using hi) fun K' hK=> ?_
 rw[if_pos (by simp[Region.wanted,hg])]
 exact h K' hK
theorem am4{K:Exit->Act->World->Prop}{s:Array Bool}{a:Act}{w:World}(hr:Region.ready md ops s=[])(h:K .normal a w):∀f,wpAny P md ops K f s a w
 |0=>⟨hr,h⟩
 |_+1=>⟨fun _=>h,by rw[hr];simp⟩
end
section
variable {P:Program} {md:Region.Mode} {S:World->Prop}
theorem am5{K:Exit->Act->World->Prop}{l:List Oper}(k:Nat){o:Oper}{f:Nat}{s:Array Bool}{a:Act}{w:World}(hi:l[k]?=some o)(hr:Region.ready md l.toArray s=[k])(hg:o.guard=none)
 (h:∀K':Act->World->Prop,(∀a w,S w->wpAnyH P md l.toArray K S f (s.setIfInBounds k true) a w->K' a w)->o.wp P a w K' K):wpAnyH P md l.toArray K S (f+1) s a w:=by
 refine wpAnyH_ready hr (by simp) (AllReadyH.cons (by simpa using hi) (fun K' hK=> ?_) AllReadyH.nil)
 rw[if_pos (by simp[Region.wanted,hg])]
 exact h K' fun a w hS hW=>hK.out a w hS fun _=>hW
theorem am6{K:Exit->Act->World->Prop}{l:List Oper}(k:Nat){o:Oper}{v:Value}{f:Nat}{s:Array Bool}{a:Act}{w:World}(hi:l[k]?=some o)(hsel:Region.noSelect l.toArray=true)(hf:Region.free md l.toArray s k=true)(hr:(Region.ready md l.toArray s).contains k=true)
 (hQ:∀c (a:Act) d v w,K (.panic c) (Act.put a d v) w->K (.panic c) a w) (hg:o.guard=none) (hS:S w) (hv:∀w,(execOp a.eval o).run P w= .ok (.value v) w) (h:wpAnyH P md l.toArray K S f (s.setIfInBounds k true) (a.put o.dst v) w):wpAnyH P md l.toArray K S (f+1) s a w:=
 wpAnyH_take (by simpa using hi) hsel hf hr (fun c a w=>hQ c a o.dst v w) (Or.inl ⟨by simp[Region.wanted,hg],fun w _=>hv w⟩) hS h
end
section
variable {P:Program} {md:Region.Mode} {S:World->Prop}
theorem ac4{id:Nat}{K:Exit->Act->World->Prop}{a:Act}{w:World}{l:List Oper}(S:World->Prop)(hm:P.follows .mixedOrders=true)(hS:S {w with drawn:=w.drawn+1})
 (h:∀w',S w'->wpAnyH P .any l.toArray K S l.length (Array.replicate l.length false) a w'):(Code.region id l.toArray true).wp P K a w:=by
 refine wp_region_held (S:=S) hm ?_
 have:=h _ hS
 simpa using this
theorem am7{K:Exit->Act->World->Prop}{l:List Oper}(k:Nat){o:Oper}{v:Value}{f:Nat}{s:Array Bool}{a:Act}{w:World}(hi:l[k]?=some o)(hsel:Region.noSelect l.toArray=true)(hf:Region.free md l.toArray s k=true)(hr:(Region.ready md l.toArray s).contains k=true)
 (hQ:∀c (a:Act) d v w,K (.panic c) (Act.put a d v) w->K (.panic c) a w) (hg:o.guard=none) (hS:S w) (hv:∀z,S z->(execOp a.eval o).run P z= .ok (.value v) z) (h:wpAnyH P md l.toArray K S f (s.setIfInBounds k true) (a.put o.dst v) w):wpAnyH P md l.toArray K S (f+1) s a w:=
 wpAnyH_take (by simpa using hi) hsel hf hr (fun c a w=>hQ c a o.dst v w) (Or.inl ⟨by simp[Region.wanted,hg],hv⟩) hS h
theorem ac5{ρ:Operand->Value}{o:Oper}{w:World}(ty:TypeId)(y:Operand)(p v:Value)(ho:o.op= .load ty y)(hy:ρ y=p)(hr:(Instr.loadAt ty p).run P w= .ok v w):(execOp ρ o).run P w= .ok (.value v) w:=by
 unfold execOp
 simp only[ho,hy,Sem.run_bind,hr,Result.andThen_ok,Sem.run_pure]
theorem vT{ρ:Operand->Value}{o:Oper}{w:World}(ty:TypeId)(parts:Array (Nat×Operand))(vs:Array (Nat×Value))(v:Value)(ho:o.op= .build ty parts)(hp:(parts.map fun x=>(x.1,ρ x.2))=vs)(hr:(Instr.build ty vs).run P w= .ok v w):(execOp ρ o).run P w= .ok (.value v) w:=by
 subst hp
 unfold execOp
 simp only[ho,Sem.run_bind,hr,Result.andThen_ok,Sem.run_pure]
theorem am8{K:Exit->Act->World->Prop}{l:List Oper}(i j:Nat){oi oj:Oper}{f:Nat}{s:Array Bool}{a:Act}{w:World}(hi:l[i]?=some oi)(hj:l[j]?=some oj)(hr:Region.ready md l.toArray s=[i,j])(hgi:oi.guard=none)(hgj:oj.guard=none)
 (h1:∀K':Act->World->Prop,(∀a w,S w->wpAnyH P md l.toArray K S f (s.setIfInBounds i true) a w->K' a w)->oi.wp P a w K' K)
 (h2:∀K':Act->World->Prop,(∀a w,S w->wpAnyH P md l.toArray K S f (s.setIfInBounds j true) a w->K' a w)->oj.wp P a w K' K):wpAnyH P md l.toArray K S (f+1) s a w:=by
 refine wpAnyH_ready hr (by simp) (AllReadyH.cons (by simpa using hi) (fun K' hK=> ?_) (AllReadyH.cons (by simpa using hj) (fun K' hK=> ?_) AllReadyH.nil))
 ·rw[if_pos (by simp[Region.wanted,hgi])]
  exact h1 K' fun a w hS hW=>hK.out a w hS fun _=>hW
 ·rw[if_pos (by simp[Region.wanted,hgj])]
  exact h2 K' fun a w hS hW=>hK.out a w hS fun _=>hW
theorem sG{o:Oper}{a:Act}{w w':World}{K:Act->World->Prop}{Q:Exit->Act->World->Prop}(t:TypeId)(v:Value)(ho:o.op= .alloc t)(hr:(Instr.alloc t true (.tuple #[])).run P w= .ok v w')(h:K (a.put o.dst v) w'):o.wp P a w K Q:=by
 unfold Oper.wp execOp
 simp only[ho,Sem.run_bind,hr,Result.andThen_ok,Sem.run_pure]
 exact h
end
section
variable {P:Program} {md:Region.Mode} {S:World->Prop}
theorem aS{K:Exit->Act->World->Prop}{l:List Oper}(k:Nat){o:Oper}(v:Value){f:Nat}{s:Array Bool}{a:Act}{w:World}(hS:S w)(h:wpAnyH P md l.toArray K S f (s.setIfInBounds k true) (a.put o.dst v) w)(hi:l[k]?=some o:=by rfl)(hsel:Region.noSelect l.toArray=true:=by kernel_rfl)(hf:Region.free md l.toArray s k=true:=by kernel_rfl)(hr:(Region.ready md l.toArray s).contains k=true:=by kernel_rfl)(hQ:∀c (a:Act) d v w,K (.panic c) (Act.put a d v) w->K (.panic c) a w:=by intro c a d v w h;cases d<;>exact h)(hg:o.guard=none:=by rfl)(hv:∀w,(execOp a.eval o).run P w= .ok (.value v) w:=by intro w;rfl):wpAnyH P md l.toArray K S (f+1) s a w:=
 am6 k hi hsel hf hr hQ hg hS hv h
theorem dG{K:Exit->Act->World->Prop}{l:List Oper}(k:Nat){o:Oper}(v:Value){f:Nat}{s:Array Bool}{a:Act}{w:World}(hS:S w)(hv:∀z,S z->(execOp a.eval o).run P z= .ok (.value v) z)(h:wpAnyH P md l.toArray K S f (s.setIfInBounds k true) (a.put o.dst v) w)(hi:l[k]?=some o:=by rfl)(hsel:Region.noSelect l.toArray=true:=by kernel_rfl)(hf:Region.free md l.toArray s k=true:=by kernel_rfl)(hr:(Region.ready md l.toArray s).contains k=true:=by kernel_rfl)(hQ:∀c (a:Act) d v w,K (.panic c) (Act.put a d v) w->K (.panic c) a w:=by intro c a d v w h;cases d<;>exact h)(hg:o.guard=none:=by rfl):wpAnyH P md l.toArray K S (f+1) s a w:=
 am7 k hi hsel hf hr hQ hg hS hv h
theorem aW{K:Exit->Act->World->Prop}{l:List Oper}(k:Nat){o:Oper}{f:Nat}{s:Array Bool}{a:Act}{w:World}(h:∀K':Act->World->Prop,(∀a w,S w->wpAnyH P md l.toArray K S f (s.setIfInBounds k true) a w->K' a w)->o.wp P a w K' K)(hi:l[k]?=some o:=by rfl)(hr:Region.ready md l.toArray s=[k]:=by kernel_rfl)(hg:o.guard=none:=by rfl):wpAnyH P md l.toArray K S (f+1) s a w:=
 am5 k hi hr hg h
theorem kL{K:Exit->Act->World->Prop}{l:List Oper}(i j:Nat){oi oj:Oper}{f:Nat}{s:Array Bool}{a:Act}{w:World}(hi1:∀K':Act->World->Prop,(∀a w,S w->wpAnyH P md l.toArray K S f (s.setIfInBounds i true) a w->K' a w)->oi.wp P a w K' K)(hj1:∀K':Act->World->Prop,(∀a w,S w->wpAnyH P md l.toArray K S f (s.setIfInBounds j true) a w->K' a w)->oj.wp P a w K' K)(hi:l[i]?=some oi:=by rfl)(hj:l[j]?=some oj:=by rfl)(hr:Region.ready md l.toArray s=[i,j]:=by kernel_rfl)(hgi:oi.guard=none:=by rfl)(hgj:oj.guard=none:=by rfl):wpAnyH P md l.toArray K S (f+1) s a w:=
 am8 i j hi hj hr hgi hgj hi1 hj1
theorem oV{ρ:Operand->Value}{o:Oper}{w:World}{ty:TypeId}{y:Operand}{p v:Value}(hr:(Instr.loadAt ty p).run P w= .ok v w)(ho:o.op= .load ty y:=by rfl)(hy:ρ y=p:=by rfl):(execOp ρ o).run P w= .ok (.value v) w:=ac5 ty y p v ho hy hr
theorem aj:(∀(a:Act) (n:Nat) (v:Value),a.put (some n) v={a with tmps:=a.tmps.setIfInBounds n v})/\(∀(a:Act) (v:Value),a.put none v=a)/\(∀(l:List Value) (i:Nat) (x:Value),l.toArray.setIfInBounds i x=(l.set i x).toArray)/\(∀(x y:Value) (l:List Value) (n:Nat),(x::l).set (n+1) y=x::l.set n y)/\(∀(x y:Value) (l:List Value),(x::l).set 0 y=y::l):=⟨fun _ _ _=>rfl,fun _ _=>rfl,fun _ _ _=>List.setIfInBounds_toArray ..,fun _ _ _ _=>rfl,fun _ _ _=>rfl⟩
end
end Mem
end Go.Proofs.YtbemmjnjoabadaaGreatDoor
