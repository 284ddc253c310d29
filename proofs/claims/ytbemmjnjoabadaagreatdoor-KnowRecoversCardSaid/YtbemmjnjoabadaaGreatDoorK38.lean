/- part 38 -/
import Derived.Test.YtbemmjnjoabadaaGreatDoorK37
set_option linter.unusedVariables false
set_option linter.unusedSimpArgs false
set_option maxHeartbeats 16000000
set_option maxRecDepth 100000
namespace Go.Proofs.YtbemmjnjoabadaaGreatDoor
namespace Rel
open Go.RowKit aQ Mem _root_.Go.Proofs.YtbemmjnjoabadaaGreatDoor.Code aY Sign _root_.Go.Proofs.YtbemmjnjoabadaaGreatDoor.Item _root_.Go.Proofs.YtbemmjnjoabadaaGreatDoor.Known _root_.Go.Proofs.YtbemmjnjoabadaaGreatDoor.bP
theorem auu{w:World}{base g n cap i:Nat}{e:TypeId}{size:Nat}{xs:List Value}(h:aV w base e size (.slice (some ⟨g,0,none⟩) n cap) n xs)(hi:i<xs.length)(u:Value):
 aV (w.setCell ⟨g,i,none⟩ u) base e size (.slice (some ⟨g,0,none⟩) n cap) n (xs.set i u):=by
 rcases h.2 with⟨hv,_⟩|⟨g',cap',cur,fz,hv,hb,hg,hfz,hnc,hcm,hcs,htake⟩
 ·cases hv
 ·cases hv
  refine⟨by rw[List.length_set];exact h.1, .inr ⟨g,cap,cur.setIfInBounds i u,fz,rfl,hb,?_,by rw[Array.size_setIfInBounds];exact hfz,hnc,hcm,by rw[Array.size_setIfInBounds];exact hcs,?_⟩⟩
  ·simp[World.setCell,Array.getElem?_modify,hg]
  ·rw[Array.toList_setIfInBounds,<-htake]
   rw[<-htake,List.length_take]at hi
   exact List.take_set.trans (by rfl)
theorem auv{base g n cap:Nat}{e:TypeId}{size:Nat}:∀(vs:List Value) (o:Nat) (xs:List Value) (w:World),aV w base e size (.slice (some ⟨g,0,none⟩) n cap) n xs->o+vs.length<=xs.length->aV (w.setCells g o vs) base e size (.slice (some ⟨g,0,none⟩) n cap) n (splice xs o vs):=by
 intro vs
 induction vs with
 |nil=>
  intro o xs w h _
  have:splice xs o []=xs:=by simp[splice]
  rw[this]
  exact h
 |cons v vs ih=>
  intro o xs w h hl
  rw[List.length_cons]at hl
  have h2:=auu h (show o<xs.length by omega) v
  have:=ih (o+1) (xs.set o v) _ h2 (by rw[List.length_set];omega)
  rw[ado xs o v vs (by omega)]at this
  exact this
theorem aiv{α:Type}{f:α->List Value}{k:Nat}(hk:∀x,(f x).length=k):∀(l:List α) (i:Nat) (x:α),i<l.length->splice (l.flatMap f) (i*k) (f x)=(l.set i x).flatMap f
 |[],i,x,h=>absurd h (by simp)
 |a::l,0,x,_=>by
  unfold splice
  rw[Nat.zero_mul,List.take_zero,List.nil_append,Nat.zero_add,List.set_cons_zero,List.flatMap_cons,List.flatMap_cons,List.drop_append_of_le_length (by rw[hk,hk];exact Nat.le_refl _),List.drop_of_length_le (by rw[hk,hk];exact Nat.le_refl _),List.nil_append]
 |a::l,i+1,x,h=>by
  have ih:=aiv hk l i x (by rw[List.length_cons]at h;omega)
  unfold splice at ih⊢
  rw[List.set_cons_succ,List.flatMap_cons,List.flatMap_cons,<-ih]
  have e1:(i+1)*k=(f a).length+i*k:=by rw[hk,Nat.succ_mul,Nat.add_comm]
  rw[e1,List.take_append,List.take_of_length_le (by omega),Nat.add_sub_cancel_left,List.append_assoc,Nat.add_assoc,List.drop_append,List.drop_of_length_le (by omega),List.nil_append,Nat.add_sub_cancel_left]
theorem aaA{w:World}{b1 b2 n1 n2 s1 s2:Nat}{e1 e2:TypeId}{v1 v2:Value}{x1 x2:List Value}(h1:aV w b1 e1 s1 v1 n1 x1)(h2:aV w b2 e2 s2 v2 n2 x2)(hne:e1≠e2):∀k,v1.ownBlock=some k->v2.ownBlock≠some k:=by
 intro k hk1 hk2
 rcases h1.2 with⟨rfl,_⟩|⟨g,cap,cur,fz,rfl,_,hg,_⟩
 ·cases hk1
 rcases h2.2 with⟨rfl,_⟩|⟨g2,cap2,ayG,fz2,rfl,_,hg2,_⟩
 ·cases hk2
 simp only[Value.ownBlock,Option.some.injEq]at hk1 hk2
 subst hk1
 subst hk2
 rw[hg]at hg2
 injection hg2 with h3
 injection h3 with _ h4
 exact hne h4
theorem Wq{w w':World}{b1 b2 n1 n2 s1 s2:Nat}{e1 e2:TypeId}{v1 v2:Value}{x1 x2:List Value}(h1:aV w b1 e1 s1 v1 n1 x1)(h2:aV w b2 e2 s2 v2 n2 x2)(hne:e1≠e2)(hg:w.grownBy w' v2.ownBlock):aV w' b1 e1 s1 v1 n1 x1:=
 h1.grown hg (by
  cases hv:v1.ownBlock with
  |none=>exact .inr rfl
  |some k=>exact .inl fun e=>aaA h1 h2 hne k hv e.symm)
theorem IY(A:Option Addr)(n c:Nat)(g:Nat):g∈gu A↔(Value.slice A n c).ownBlock=some g:=by
 cases A with
 |none=>simp[gu,Value.ownBlock]
 |some a=>simp[gu,Value.ownBlock,eq_comm]
theorem Ws{gs:List Nat}{z w9:World}{x:ay}{D:Option Addr}{n cd:Nat}(h1:dw gs z x)(hD:∀a,D=some a->a.block∈gs)(hg:z.grownBy w9 (Value.slice D n cd).ownBlock):dw (z.heap.size::gs) w9 x:=by
 have hx2:dw (z.heap.size::gs) z x:=h1.sub fun g hg=>by
  rcases List.mem_cons.1 hg with e|e
  ·exact .inr (by omega)
  ·exact .inl e
 exact⟨Ia hx2.acts hg hD,fun a ha=>⟨Ia (hx2.each a ha).to hg hD,Ia (hx2.each a ha).wraps hg hD,(hx2.each a ha).toC,(hx2.each a ha).dF⟩,hx2.aC,Ia hx2.keys hg hD,hx2.kC⟩
def kE(A D E:Option Addr):List Nat:=gu A++(gu D++gu E)
theorem jR(A D E:Option Addr)(g:Nat):g∈kE A D E↔g∈gu A∨g∈gu D∨g∈gu E:=by
 unfold kE
 rw[List.mem_append,List.mem_append]
structure iH(w z:World)(gs:List Nat)(A:Option Addr)(ca:Nat)(D:Option Addr)(cd:Nat)(E:Option Addr)(ec:Nat)(cs:List ay)(es:List ByteArray)(ts:List jH):Prop where
 q:Q w z
 n4:cs.length=4
 rows:aV z w.heap.size 41 6 (.slice A 4 ca) 4 (cs.flatMap ay.cells)
 early:aV z w.heap.size 9 1 (.slice D es.length cd) es.length (es.flatMap dP)
 texts:aV z w.heap.size 29 3 (.slice E ts.length ec) ts.length (ts.flatMap jH.cells)
 off:∀x∈cs,dw (gs++kE A D E) z x
 gl:∀g∈gs,g<z.heap.size
 dj:∀g∈gs,g∉kE A D E
section
variable {w z z':World} {gs:List Nat} {A:Option Addr} {ca:Nat} {D:Option Addr} {cd:Nat} {E:Option Addr} {ec:Nat} {cs:List ay} {es:List ByteArray} {ts:List jH}
theorem iH.rl(h:iH w z gs A ca D cd E ec cs es ts):∀g∈kE A D E,w.heap.size<=g/\g<z.heap.size:=by
 intro g hg
 rcases(jR A D E g).1 hg with hg|hg|hg
 ·exact h.rows.lt g ((IY A 4 ca g).1 hg)
 ·exact h.early.lt g ((IY D es.length cd g).1 hg)
 ·exact h.texts.lt g ((IY E ts.length ec g).1 hg)
theorem iH.lt(h:iH w z gs A ca D cd E ec cs es ts):∀g∈gs++kE A D E,g<z.heap.size:=by
 intro g hg
 rcases List.mem_append.1 hg with hg|hg
 ·exact h.gl g hg
 ·exact(h.rl g hg).2
theorem iH.q'(h:iH w z gs A ca D cd E ec cs es ts)(hq:Q z z'):iH w z' gs A ca D cd E ec cs es ts:=
 ⟨Q.trans h.q hq,h.n4,h.rows.q hq,h.early.q hq,h.texts.q hq,fun x hx=>(h.off x hx).q hq,fun g hg=>Nat.lt_of_lt_of_le (h.gl g hg) hq.size,h.dj⟩
theorem iH.add(h:iH w z gs A ca D cd E ec cs es ts)(hq:Q z z'){g:Nat}(h1:z.heap.size<=g)(h2:g<z'.heap.size):iH w z' (g::gs) A ca D cd E ec cs es ts:=by
 have k:=h.q' hq
 refine⟨k.q,k.n4,k.rows,k.early,k.texts,fun x hx=> ?_,fun b hb=> ?_,fun b hb=> ?_⟩
 ·refine((h.off x hx).sub fun b hb=> ?_).q hq
  rcases List.mem_cons.1 hb with e|hb
  ·exact .inr (by omega)
  ·exact .inl hb
 ·rcases List.mem_cons.1 hb with e|hb
  ·omega
  ·exact k.gl b hb
 ·rcases List.mem_cons.1 hb with e|hb
  ·intro hm
   have:=(h.rl b hm).2
   omega
  ·exact h.dj b hb
theorem iH.far(h:iH w z gs A ca D cd E ec cs es ts){g:Nat}(hm:g∈gs)(hq:Q w z')(hs:z.heap.size<=z'.heap.size)(hf:∀b,b≠g->z'.heap[b]?=z.heap[b]?):iH w z' gs A ca D cd E ec cs es ts:=by
 have hd:=h.dj g hm
 rw[jR]at hd
 refine⟨hq,h.n4,h.rows.keep fun k hk=>hf k fun e=>hd (.inl ((IY A 4 ca g).2 (e▸hk))),h.early.keep fun k hk=>hf k fun e=>hd (.inr (.inl ((IY D es.length cd g).2 (e▸hk)))),h.texts.keep fun k hk=>hf k fun e=>hd (.inr (.inr ((IY E ts.length ec g).2 (e▸hk)))),fun x hx=>(h.off x hx).far fun b hb=>hf b fun e=>hb (e▸List.mem_append_left _ hm),fun b hb=>Nat.lt_of_lt_of_le (h.gl b hb) hs,h.dj⟩
theorem iH.drop(h:iH w z gs A ca D cd E ec cs es ts):iH w z [] A ca D cd E ec cs es ts:=
 ⟨h.q,h.n4,h.rows,h.early,h.texts,fun x hx=>(h.off x hx).sub fun b hb=> .inl (List.mem_append_right _ hb),fun g hg=>(by cases hg),fun g hg=>(by cases hg)⟩
theorem N7{X Y:Option Addr}{n c m d B g:Nat}(hw:(Value.slice Y m d).ownBlock=(Value.slice X n c).ownBlock∨(Value.slice Y m d).ownBlock=some B)(hg:g∈gu Y):g∈gu X∨g=B:=by
 rw[IY Y m d]at hg
 rcases hw with e|e
 ·exact .inl ((IY X n c g).2 (e▸hg))
 ·rw[e]at hg
  injection hg with hg
  exact .inr hg.symm
theorem iH.text(h:iH w z gs A ca D cd E ec cs es ts){E9:Option Addr}{c9:Nat}{t9:List jH}(hg:z.grownBy z' (Value.slice E ts.length ec).ownBlock)(ho:aV z' w.heap.size 29 3 (.slice E9 t9.length c9) t9.length (t9.flatMap jH.cells))
 (hw:(Value.slice E9 t9.length c9).ownBlock=(Value.slice E ts.length ec).ownBlock∨(Value.slice E9 t9.length c9).ownBlock=some z.heap.size):iH w z' gs A ca D cd E9 c9 cs es t9:=by
 have hq:Q w z':=fB h.q (Nat.le_refl _) h.texts hg
 refine⟨hq,h.n4,Wq h.rows h.texts (by decide) hg,Wq h.early h.texts (by decide) hg,ho,fun x hx=> ?_,fun g hgm=>Nat.lt_of_lt_of_le (h.gl g hgm) hg.size,fun g hgm hr=> ?_⟩
 ·refine(Ws (h.off x hx) (fun a e=> ?_) hg).sub fun g hgm=> .inl ?_
  ·refine List.mem_append_right _ ((jR A D E _).2 (.inr (.inr ?_)))
   rw[e]
   simp[gu]
  ·rcases List.mem_append.1 hgm with hgm|hgm
   ·exact List.mem_cons_of_mem _ (List.mem_append_left _ hgm)
   ·rcases(jR A D E9 g).1 hgm with hgm|hgm|hgm
    ·exact List.mem_cons_of_mem _ (List.mem_append_right _ ((jR A D E _).2 (.inl hgm)))
    ·exact List.mem_cons_of_mem _ (List.mem_append_right _ ((jR A D E _).2 (.inr (.inl hgm))))
    ·rcases N7 hw hgm with hgm|e
     ·exact List.mem_cons_of_mem _ (List.mem_append_right _ ((jR A D E _).2 (.inr (.inr hgm))))
     ·rw[e]
      exact List.mem_cons_self ..
 ·rcases(jR A D E9 g).1 hr with hr|hr|hr
  ·exact h.dj g hgm ((jR A D E _).2 (.inl hr))
  ·exact h.dj g hgm ((jR A D E _).2 (.inr (.inl hr)))
  ·rcases N7 hw hr with hr|e
   ·exact h.dj g hgm ((jR A D E _).2 (.inr (.inr hr)))
   ·have:=h.gl g hgm
    omega
theorem iH.digest(h:iH w z gs A ca D cd E ec cs es ts){D9:Option Addr}{c9:Nat}{e9:List ByteArray}(hg:z.grownBy z' (Value.slice D es.length cd).ownBlock)(ho:aV z' w.heap.size 9 1 (.slice D9 e9.length c9) e9.length (e9.flatMap dP))
 (hw:(Value.slice D9 e9.length c9).ownBlock=(Value.slice D es.length cd).ownBlock∨(Value.slice D9 e9.length c9).ownBlock=some z.heap.size):iH w z' gs A ca D9 c9 E ec cs e9 ts:=by
 have hq:Q w z':=fB h.q (Nat.le_refl _) h.early hg
 refine⟨hq,h.n4,Wq h.rows h.early (by decide) hg,ho,Wq h.texts h.early (by decide) hg,fun x hx=> ?_,fun g hgm=>Nat.lt_of_lt_of_le (h.gl g hgm) hg.size,fun g hgm hr=> ?_⟩
 ·refine(Ws (h.off x hx) (fun a e=> ?_) hg).sub fun g hgm=> .inl ?_
  ·refine List.mem_append_right _ ((jR A D E _).2 (.inr (.inl ?_)))
   rw[e]
   simp[gu]
  ·rcases List.mem_append.1 hgm with hgm|hgm
   ·exact List.mem_cons_of_mem _ (List.mem_append_left _ hgm)
   ·rcases(jR A D9 E g).1 hgm with hgm|hgm|hgm
    ·exact List.mem_cons_of_mem _ (List.mem_append_right _ ((jR A D E _).2 (.inl hgm)))
    ·rcases N7 hw hgm with hgm|e
     ·exact List.mem_cons_of_mem _ (List.mem_append_right _ ((jR A D E _).2 (.inr (.inl hgm))))
     ·rw[e]
      exact List.mem_cons_self ..
    ·exact List.mem_cons_of_mem _ (List.mem_append_right _ ((jR A D E _).2 (.inr (.inr hgm))))
 ·rcases(jR A D9 E g).1 hr with hr|hr|hr
  ·exact h.dj g hgm ((jR A D E _).2 (.inl hr))
  ·rcases N7 hw hr with hr|e
   ·exact h.dj g hgm ((jR A D E _).2 (.inr (.inl hr)))
   ·have:=h.gl g hgm
    omega
  ·exact h.dj g hgm ((jR A D E _).2 (.inr (.inr hr)))
theorem iH.at(h:iH w z gs A ca D cd E ec cs es ts):∃a,A=some ⟨a,0,none⟩/\w.heap.size<=a/\a<z.heap.size:=by
 rcases h.rows.2 with⟨_,h0⟩|⟨g,cap,cur,fz,hv,hb,hg,_⟩
 ·omega
 ·injection hv with h1 _ _
  exact⟨g,h1,hb,(Array.getElem?_eq_some_iff.1 hg).1⟩
theorem iH.set{a:Nat}(h:iH w z gs (some ⟨a,0,none⟩) ca D cd E ec cs es ts)(i:Nat)(hi:i<4)(d:ay)(hd:dw (gs++kE (some ⟨a,0,none⟩) D E) z d):iH w (z.setCells a (i*6) d.cells) gs (some ⟨a,0,none⟩) ca D cd E ec (cs.set i d) es ts:=by
 have hf:∀b,b≠a->(z.setCells a (i*6) d.cells).heap[b]?=z.heap[b]?:=fun b hb=>tY hb d.cells (i*6) z
 have ham:a∈gs++kE (some ⟨a,0,none⟩) D E:=List.mem_append_right _ ((jR _ D E a).2 (.inl (by simp[gu])))
 have hal:=h.rl a ((jR _ D E a).2 (.inl (by simp[gu])))
 have hq:Q w (z.setCells a (i*6) d.cells):=below_setCells hal.1 d.cells (i*6) w z h.q
 have hs:z.heap.size<=(z.setCells a (i*6) d.cells).heap.size:=(below_setCells (Nat.zero_le a) d.cells (i*6) z z (Below.refl 0 z)).size
 have hfl:(cs.flatMap ay.cells).length=24:=by have:=h.rows.1;omega
 have hn4:=h.n4
 have hR:=auv d.cells (i*6) _ z h.rows (by rw[hfl];show i*6+6<=24;omega)
 rw[aiv (f:=ay.cells) (k:=6) (fun _=>rfl) cs i d (by omega)]at hR
 refine⟨hq,by rw[List.length_set];exact h.n4,hR,h.early.keep fun k hk=>hf k fun e=> ?_,h.texts.keep fun k hk=>hf k fun e=> ?_,fun x hx=> ?_,fun g hg=>Nat.lt_of_lt_of_le (h.gl g hg) hs,h.dj⟩
 ·exact aaA h.early h.rows (by decide) k hk (e▸rfl)
 ·exact aaA h.texts h.rows (by decide) k hk (e▸rfl)
 ·have hz:dw (gs++kE (some ⟨a,0,none⟩) D E) z x:=by
   rcases List.mem_or_eq_of_mem_set hx with hx|rfl
   ·exact h.off x hx
   ·exact hd
  exact hz.far fun b hb=>hf b fun e=>hb (e▸ham)
theorem iH.aiw{a:Nat}(h:iH w z gs (some ⟨a,0,none⟩) ca D cd E ec cs es ts)(i:Nat)(hi:i<cs.length):z.rangeAt a (i*6) (cs[i].cells):=by
 have hr:=h.rows.rows (f:=ay.cells) (k:=6) (fun _=>rfl) h.n4.symm
 obtain⟨b,o,e,hb,hc⟩:=hr (by omega)
 injection e with e
 injection e with e1 e2
 subst e1 e2
 have:=hc i hi
 rwa[Nat.zero_add]at this
theorem iH.there{a:Nat}(h:iH w z gs (some ⟨a,0,none⟩) ca D cd E ec cs es ts)(i:Nat)(hi:i<4):z.there a (i*6) 6:=fun j hj=>by
 have hfl:(cs.flatMap ay.cells).length=24:=by have:=h.rows.1;omega
 obtain⟨g,e,_,_,h1,h2⟩:=h.rows.cellAt (i*6+j) ((cs.flatMap ay.cells)[i*6+j]'(by omega)) (List.getElem?_eq_getElem _)
 injection e with e
 injection e with e
 subst e
 rw[h1]
 exact⟨rfl,h2⟩
end
structure aix(x:iG):Prop where
 mG:I64 x.wish.mG
 who:I64 x.wish.who
 what:I64 x.wish.what
 scope:I64 x.scope
 text:x.wish.text.size<=140737488351232
def aiy(l:List iG)(w:World)(e:Ending)(w':World):Prop:=∃(A:Option Addr) (ca:Nat) (D:Option Addr) (cd:Nat) (E:Option Addr) (ec:Nat) (cs:List ay) (es:List ByteArray),
 e= .returned (.tuple #[.slice A 4 ca, .slice E (vG l).texts.length ec])/\iH w w' [] A ca D cd E ec cs es (vG l).texts/\cs.map aN=(vG l).cs
theorem auw(x:vg):x.cells.toArray.all (·.oneCell')=true:=by simp[vg.cells,Value.oneCell']
def auy:vg:=⟨0,0,0,0,bK,0⟩
theorem auz:(Tryz.prog.info? 29).map (fun i=>(i.zero,i.size,i.bytes))=some (some (.agg (jH.cells ⟨0,0,bK⟩).toArray),3,32):=by kernel_rfl
theorem auA(x:jH)(w:World):(Instr.buildSlice 25 1 #[(0, .agg x.cells.toArray)]).run Tryz.prog w= .ok (.slice (some ⟨w.heap.size,0,none⟩) 1 1) (w.alloc (.cells x.cells.toArray 29)):=by kernel_rfl
theorem auB(x:jH)(w:World):(Instr.build 29 #[(0, .int .i64 x.mG),(1, .int .i64 x.at_),(2, .string x.text)]).run Tryz.prog w= .ok (.agg x.cells.toArray) w:=by kernel_rfl
theorem aiz(t s:Int)(w:World):(Instr.build 37 #[(3, .int .i64 1),(4, .int .i64 t),(7, .int .i64 s)]).run Tryz.prog w= .ok (.agg (au {aH with kind:=1,time:=t,scope:=s})) w:=by kernel_rfl
theorem auC(x:jH):x.cells.length=3:=rfl
theorem auD(x:jH):∀v∈x.cells,v.oneCell'=true:=by simp[jH.cells,Value.oneCell']
theorem auE(s:F9)(x:iG)(b:Nat)(C:ay)(hb:vF x=b)(hc:s.cs[b]?=some C):CS s x=⟨s.cs.set b (jg b C x s.earlier).1,s.earlier++((jg b C x s.earlier).1.acts.drop C.acts.length).map bY,s.texts++(jg b C x s.earlier).2.toList⟩:=by
 unfold CS
 rw[hb,List.getD_eq_getElem?_getD,hc]
 rfl
theorem auF(d c:ay):(((aN d).acts.drop (aN c).acts.length).map bY)=(d.acts.drop c.acts.length).map bY:=by
 rw[ng,yA,<-List.map_drop,List.map_map]
 congr 1
theorem auG{α:Type}(l:List α)(n m:Nat)(h:l.length<=m):(l.drop n).take (m-n)=l.drop n:=List.take_of_length_le (by rw[List.length_drop];omega)
theorem auH(l:List ak)(n k:Nat)(h1:n<=k)(h2:k<l.length):((l.drop n).take (k+1-n)).map bY=((l.drop n).take (k-n)).map bY++[bY l[k]]:=by
 have e:k+1-n=(k-n)+1:=by omega
 have h3:k-n<(l.drop n).length:=by rw[List.length_drop];omega
 rw[e,List.take_succ_eq_append_getElem h3,List.map_append,List.getElem_drop]
 simp only[List.map_cons,List.map_nil]
 congr 3
 simp only[show n+(k-n)=k by omega]
theorem auI{g:Nat}{z w9:World}{d:ay}{A D D9 E:Option Addr}{n cd m c9:Nat}(h:dw (g::kE A D E) z d)(hg:z.grownBy w9 (Value.slice D n cd).ownBlock)
 (hw:(Value.slice D9 m c9).ownBlock=(Value.slice D n cd).ownBlock∨(Value.slice D9 m c9).ownBlock=some z.heap.size):dw (g::kE A D9 E) w9 d:=by
 refine(Ws h (fun a e=> ?_) hg).sub fun b hb=> .inl ?_
 ·refine List.mem_cons_of_mem _ ((jR A D E _).2 (.inr (.inl ?_)))
  rw[e]
  simp[gu]
 ·rcases List.mem_cons.1 hb with e|hb
  ·rw[e]
   exact List.mem_cons_of_mem _ (List.mem_cons_self ..)
  ·rcases(jR A D9 E b).1 hb with hb|hb|hb
   ·exact List.mem_cons_of_mem _ (List.mem_cons_of_mem _ ((jR A D E _).2 (.inl hb)))
   ·rcases N7 hw hb with hb|e
    ·exact List.mem_cons_of_mem _ (List.mem_cons_of_mem _ ((jR A D E _).2 (.inr (.inl hb))))
    ·rw[e]
     exact List.mem_cons_self ..
   ·exact List.mem_cons_of_mem _ (List.mem_cons_of_mem _ ((jR A D E _).2 (.inr (.inr hb))))
theorem auJ{g:Nat}{z w9:World}{d:ay}{A D E E9:Option Addr}{n cd m c9:Nat}(h:dw (g::kE A D E) z d)(hg:z.grownBy w9 (Value.slice E n cd).ownBlock)
 (hw:(Value.slice E9 m c9).ownBlock=(Value.slice E n cd).ownBlock∨(Value.slice E9 m c9).ownBlock=some z.heap.size):dw (g::kE A D E9) w9 d:=by
 refine(Ws h (fun a e=> ?_) hg).sub fun b hb=> .inl ?_
 ·refine List.mem_cons_of_mem _ ((jR A D E _).2 (.inr (.inr ?_)))
  rw[e]
  simp[gu]
 ·rcases List.mem_cons.1 hb with e|hb
  ·rw[e]
   exact List.mem_cons_of_mem _ (List.mem_cons_self ..)
  ·rcases(jR A D E9 b).1 hb with hb|hb|hb
   ·exact List.mem_cons_of_mem _ (List.mem_cons_of_mem _ ((jR A D E _).2 (.inl hb)))
   ·exact List.mem_cons_of_mem _ (List.mem_cons_of_mem _ ((jR A D E _).2 (.inr (.inl hb))))
   ·rcases N7 hw hb with hb|e
    ·exact List.mem_cons_of_mem _ (List.mem_cons_of_mem _ ((jR A D E _).2 (.inr (.inr hb))))
    ·rw[e]
     exact List.mem_cons_self ..
theorem auK{P:Program}(w:World)(a o:Nat)(cells:Array Value)(ht:w.there a o cells.size)(h1:cells.all (·.oneCell')=true):∃W,W=w.setCells a o cells.toList/\(storeCells ⟨a,o,none⟩ cells.toList 0).run P w= .ok () W:=by
 have:=run_storeCells_cells (P:=P) a o cells.toList 0 w (fun j hj=>by simpa using(ht j (by simpa using hj)).1) (fun j hj=>by simpa using(ht j (by simpa using hj)).2)
  (fun v hv=>(Array.all_eq_true_iff_forall_mem.1 h1) v (by simpa using hv))
 simp only[Nat.add_zero]at this
 exact⟨_,rfl,this⟩
theorem auL(c:ay)(x:vg)(l:List ByteArray):mP (aN c) x l=mP c x l:=by
 unfold mP
 rw[QU]
theorem auM(c:ay)(x:vg)(l:List ByteArray):(mP c x l).to=[]/\(mP c x l).toA=none/\(mP c x l).toC=0/\(mP c x l).wraps=[]/\(mP c x l).gy=none/\(mP c x l).dF=0:=by
 unfold mP mO mM mJ
 split<;>split<;>split<;>exact⟨rfl,rfl,rfl,rfl,rfl,rfl⟩
theorem aiA{a:ak}(h:a.to=[]/\a.toA=none/\a.toC=0/\a.wraps=[]/\a.gy=none/\a.dF=0)(w:World):bU w a:=
 ⟨fun h0=>absurd h0 (by rw[h.1];decide),fun h0=>absurd h0 (by rw[h.2.2.2.1];decide),by rw[h.1,h.2.2.1];exact⟨Nat.le_refl 0,Nat.zero_le _⟩,by rw[h.2.2.2.1,h.2.2.2.2.2];exact⟨Nat.le_refl 0,Nat.zero_le _⟩⟩
theorem auN(b:Nat)(c:ay)(x:iG)(es:List ByteArray)(h1:(x.wish.do_==1)=false)(h15:(x.wish.do_==15)=false):
 jg b c x es=(if ig c (gU (aG b) (mP c x.wish es))then dK c (gU (aG b) (mP c x.wish es))else aN c,none):=by
 unfold jg
 rw[h1,h15]
 rfl
theorem auO(b:Nat)(c:ay)(x:iG)(es:List ByteArray)(h1:(x.wish.do_==1)=false)(h15:(x.wish.do_==15)=true):
 jg b c x es=(if ig c (gU (aG b) (KD c x))then dK c (gU (aG b) (KD c x))else aN c,none):=by
 unfold jg
 rw[h1,h15]
 rfl
theorem auP(b:Nat)(c:ay)(x:iG)(es:List ByteArray)(h1:(x.wish.do_==1)=true):
 jg b c x es=(if(jf (aG b) c (gW x) x.wish.text).2 then((jf (aG b) c (gW x) x.wish.text).1,some ⟨b,((jf (aG b) c (gW x) x.wish.text).1.acts.length:Int)-1,x.wish.text⟩)else(aN c,none)):=by
 unfold jg
 rw[h1]
 rfl
theorem auQ(k:Int×Int)(c:ay)(a b:ak)(h:aP a=aP b)(t:ByteArray):jf k c a t=jf k c b t:=by
 have h1:a.scope=b.scope:=QO h
 have h2:a.group=b.group:=QS h
 have h3:a.to=b.to:=J6 h
 have h4:a.time=b.time:=ahz h
 have hg:lS k c a=lS k c b:=by
  unfold lS Ip CQ
  rw[h1,h2,h3,h4]
 have hp:∀C,jK k C a t=jK k C b t:=fun C=>(QV k C a a rfl t).symm.trans (QV k C a b h t)
 unfold jf
 rw[hg,hp]
theorem auR(k:Int×Int)(c:ay)(p:ak)(x:iG)(h:aP p=gW x)(t:ByteArray):jf k (aN c) (gW x) t=jf k c p t:=by
 rw[aui]
 exact auQ k c (gW x) p (show gW x=aP p from h.symm) t
theorem auS(n:Nat)(h:0<n)(h2:n<=100000):IntKind.i64.wrap ((n:Int)-1)=(n:Int)-1:=IntWalk.i64_in _ ⟨by omega,by omega⟩
theorem auT(x:iG):(gW x).to.length<=4:=by
 show(if x.scope%4==3 then lK x.mask else[]).length<=4
 split
 ·exact Vq x.mask 4
 ·exact Nat.zero_le _
theorem auU(LA:Option Addr)(lc:Nat)(l:List iG)(w:World)(hT:Tab w)(hL:dS w LA 8 iG.cells l)(hl:l.length<=14)(hx:∀x∈l,aix x):
 Calls Tryz.prog 8 #[.slice LA l.length lc] w (aiy l w):=by
 have hmx:maxLen=9223372036854775807:=by decide
 obtain⟨iT,hiT,hzT,auV,auW⟩:=info_parts auz
 obtain⟨iS,hiS,hzS,auZ,au0⟩:=info_parts Un
 have hBg:=asw w hT
 unfold Zr at hBg
 obtain⟨nl,hnl⟩:∃nl,l.length=nl:=⟨_,rfl⟩
 rw[hnl]
 rw[hnl]at hl
 have Gi:=Lib.hid hnl
 have HLK:=Lib.hid (show vG l=qm l nl by unfold vG;rw[hnl])
 have YJ:=Lib.hid (aao l)
 have HST:=Lib.hid (ahx l)
 clear hnl
 go_enter Tryz.func8,Tryz.ntmps8
 go_upto_region 2 with(go_at_call 29;refine hBg.mono ?_;rintro e w1 ⟨A,ca,cs,rfl,hca,hcm,hown,hof,hmap,hq1⟩;have hn4:cs.length=4:=by have h:=congrArg List.length hmap;rw[List.length_map]at h;exact h)
 rw[hn4]at hown
 have hM0:iH w w1 [] A ca none 0 none 0 cs [] []:=⟨hq1,hn4,hown,aV.nil_ _ _ _ _,aV.nil_ _ _ _ _,fun x hx=>(hof x hx).sub fun b hb=> .inl (by simpa[kE,gu]using hb),fun g hg=>(by cases hg),fun g hg=>(by cases hg)⟩
 have HE0:Hid (cs.map aN=(qm l 0).cs):=Lib.hid hmap
 clear hBg hca hcm hown hof hmap hn4 hq1
 obtain⟨v0,hv0⟩:∃v:Wd w,w1=v.w:=⟨⟨w1,hM0.q⟩,rfl⟩
 rw[hv0]at hM0⊢
 clear hv0
 go_wp2_with fail
 go_loopw [5,6,7] (fun d5 d6 ix wr=>∃(j:Nat) (D:Option Addr) (cd:Nat) (es:List ByteArray) (E:Option Addr) (ec:Nat) (ts:List jH) (cs:List ay) (z:Wd w),d5= .slice D es.length cd/\d6= .slice E ts.length ec/\ix= .int .i64 j/\wr=z.w/\j<=nl/\iH w z.w [] A ca D cd E ec cs es ts/\Hid (cs.map aN=(qm l j).cs)/\Hid (es=(qm l j).earlier)/\Hid (ts=(qm l j).texts)) (fun _ _ ix _=>nl-(intOf ix).toNat)
 case' atStart=>exact⟨0,none,0,[],none,0,[],cs,v0,rfl,rfl,rfl,rfl,Nat.zero_le _,hM0,HE0,Lib.hid rfl,Lib.hid rfl⟩
 case' round=>
  clear hM0 HE0 cs
  obtain⟨j,D,cd,es,E,ec,ts,cs,z,rfl,rfl,rfl,rfl,hj,hM,Wu,HEe,Wv⟩:=hrel
  by_cases hlt:j<nl
  ·have dM:j<l.length:=by rw[Gi.out];exact hlt
   have pX:(j:Int)<(nl:Int):=by omega
   have hpos:(0:Int)<=(j:Int):=by omega
   obtain⟨b0,o0,rfl,hb0,hcs⟩:=hL (by omega)
   have hrx:=hcs j dM
   have hxk:=hx _ (List.getElem_mem dM)
   have hst:=HST.out j dM
   have hjo:=YJ.out j (by omega)
   clear hcs
   obtain⟨x,hxe⟩:∃x,l[j]=x:=⟨_,rfl⟩
   rw[hxe]at hrx hxk hst
   have CX:=Lib.hid hst
   clear hst hxe
   obtain⟨b,hbi,hb4⟩:∃b:Nat,x.wish.mG%4=(b:Int)/\b<4:=⟨(x.wish.mG%4).toNat,by omega,by omega⟩
   have hbO:vF x=b:=by unfold vF;omega
   have hn4:=hM.n4
   have hbL:b<cs.length:=by omega
   obtain⟨cP,hcP,uI,hcl⟩:=hjo.own b hb4
   have hcb:aN cs[b]=cP:=by
    have h:=hcP
    rw[<-Wu.out,List.getElem?_map,List.getElem?_eq_getElem hbL]at h
    injection h
   have hel:es.length<=2*j:=by rw[HEe.out];exact hjo.early
   have htl:ts.length<=j:=by rw[Wv.out];exact hjo.tl
   clear hjo
   obtain⟨a,rfl,haw,haz⟩:=hM.at
   have hrc:=hM.aiw b hbL
   have hoc:=hM.off cs[b] (List.getElem_mem hbL)
   have hth:=hM.there b hb4
   obtain⟨c,hce⟩:∃c,cs[b]=c:=⟨_,rfl⟩
   rw[hce]at hrc hoc hcb
   have HCE:=Lib.hid hce
   subst hcb
   have HCP:=Lib.hid hcP
   rw[ng]at hcl
   clear hce hcP
   have hwr:w.rangeAt b0 (o0+j*8) x.wish.cells:=fun q v hv=>hrx q v (by rcases Nat.lt_or_ge q 6 with h6|h6;exact(List.getElem?_append_left (l₂:=[Value.int .i64 x.scope,Value.int .i64 x.mask]) (show q<x.wish.cells.length from h6)).trans hv;rw[List.getElem?_eq_none (show x.wish.cells.length<=q from h6)]at hv;cases hv)
   have hLw:∀y:Wd w,(Instr.loadAt 79 (.pointer (some ⟨b0,o0+j*8,none⟩))).run Tryz.prog y.w= .ok (.agg (ND x.wish)) y.w:=Wd.load hb0 hwr Tryz.underlying79 rfl (by kernel_rfl)
   have s6:∀y:Wd w,y.w.cell? ⟨b0,o0+j*8+6,none⟩=some (.int .i64 x.scope):=Wd.get hb0 hrx 6 rfl
   have s7:∀y:Wd w,y.w.cell? ⟨b0,o0+j*8+7,none⟩=some (.int .i64 x.mask):=Wd.get hb0 hrx 7 rfl
   clear hrx hwr
   go_upto_region 8 with(first|(refine kR 22 81 (.tmp 25) (.tmp 26) b0 o0 nl lc j 8 rfl rfl rfl rfl Tryz.underlying22 (by kernel_rfl) Tryz.sizeOf81 hlt ?_)|(refine aI (.tmp 28) (hLw _) ?_)|(refine fM (ah.new z.w 79 auy.cells.toArray) rfl 79 (.tmp 8) (.tmp 29) x.wish.cells rfl rfl rfl (by kernel_rfl) (auw _) (Nat.le_refl 6) ?_))
   intro W hW hbel
   rw[bC _ _ (by rfl)]at hW
   have aJ:Q z.w W:=hbel _ _ (Nat.le_refl _) (aO _ _ _)
   replace hM:=hM.q' aJ
   replace hoc:dw (kE (some ⟨a,0,none⟩) D E) W c:=hoc.q aJ
   replace hrc:=yP hrc aJ haz
   have haW:a<W.heap.size:=Nat.lt_of_lt_of_le haz aJ.size
   generalize z.w.heap.size=g8 at*
   clear hbel hth hLw
   have r6:∀y:Wd W,y.w.cell? ⟨b0,o0+j*8+6,none⟩=some (.int .i64 x.scope):=fun y=>s6 ⟨y.w,Q.trans hM.q y.q⟩
   have r7:∀y:Wd W,y.w.cell? ⟨b0,o0+j*8+7,none⟩=some (.int .i64 x.mask):=fun y=>s7 ⟨y.w,Q.trans hM.q y.q⟩
   have w0:=aB (.int .i64 x.wish.mG) hW 0
   have w1:=aB (.int .i64 x.wish.do_) hW 1
   have cZ:∀y:Wd W,(Instr.loadAt 41 (.pointer (some ⟨a,b*6,none⟩))).run Tryz.prog y.w= .ok (.agg (aF c)) y.w:=Wd.load haW hrc Tryz.underlying41 rfl (by kernel_rfl)
   have Gh:∀y:Wd W,(Instr.loadAt 41 (.pointer (some ⟨a,0+b*6,none⟩))).run Tryz.prog y.w= .ok (.agg (aF c)) y.w:=fun y=>by rw[Nat.zero_add];exact cZ y
   have fP:=fun y:Wd W=>Cm x.wish.mG 4 y.w hxk.mG (by decide)
   rw[hbi]at fP
   have hTW:Tab W:=hT.q hM.q
   obtain⟨v1,hv1⟩:=Wd.first W
   rw[hv1]
   clear hv1 s6 s7
   go_upto_region 10 with(first|(go_at_call 20;refine(fP _).mono ?_;rintro e w' ⟨rfl,hq⟩;obtain⟨v2,rfl⟩:=Wd.next _ hq;clear hq)|(refine kR 24 41 (.tmp 33) (.tmp 34) a 0 4 ca b 6 rfl rfl rfl rfl Tryz.underlying24 (by kernel_rfl) Tryz.sizeOf41 hb4 ?_)|(refine aI (.tmp 35) (cZ _) ?_)|(refine aI (.tmp 35) (Gh _) ?_)|(refine fM (ah.new v2.w 41 fE.cells.toArray) rfl 41 (.tmp 10) (.tmp 36) c.cells rfl rfl rfl (by kernel_rfl) (nJ _) (Nat.le_refl 6) ?_))
   intro W9 qE hbel
   rw[bC _ _ (by rfl)]at qE
   have bD:Q v2.w W9:=hbel _ _ (Nat.le_refl _) (aO _ _ _)
   have aaD:Q W W9:=Q.trans v2.q bD
   have KF:=qE.lt
   replace hM:=(hM.q' v2.q).add bD (Nat.le_refl _) KF
   replace hoc:dw (v2.w.heap.size::kE (some ⟨a,0,none⟩) D E) W9 c:=((hoc.q v2.q).sub fun g hg=>by rcases List.mem_cons.1 hg with rfl|hg;exact .inr (Nat.le_refl _);exact .inl hg).q bD
   have ahL:g8<v2.w.heap.size:=(v2.blk hW).lt
   generalize v2.w.heap.size=g10 at*
   clear hbel bD hrc haW fP cZ Gh w0
   obtain⟨kk,hkk⟩:∃kk,aG b=kk:=⟨_,rfl⟩
   have gq:=fun y:Wd W9=>Ib b y.w (hTW.q (Q.trans aaD y.q)) (by omega)
   rw[hkk]at gq
   unfold bH at gq
   have HKK:=Lib.hid hkk
   clear hkk
   obtain⟨v3,hv3⟩:=Wd.first W9
   rw[hv3]
   clear hv3
   go_upto_region 11 with(first|(go_at_call 23;refine(gq _).mono ?_;rintro e w' ⟨rfl,hq⟩;obtain⟨v4,rfl⟩:=Wd.next _ hq;clear hq)|(refine fM (ah.new v4.w 66 [Value.int .i64 0,Value.int .i64 0].toArray) rfl 66 (.tmp 11) (.tmp 38) [.int .i64 kk.1, .int .i64 kk.2] rfl rfl rfl (by kernel_rfl) (by simp[Value.oneCell']) (Nat.le_refl 2) ?_))
   intro fZ Gq hbel
   rw[bC _ _ (by rfl)]at Gq
   have RF:Q W9 fZ:=hbel _ _ v4.q.size (Q.trans v4.q (aO _ _ _))
   have UZ:W9.heap.size<=v4.w.heap.size:=v4.q.size
   generalize v4.w.heap.size=g11 at*
   clear hbel gq
   replace hM:=hM.q' RF
   replace hoc:=hoc.q RF
   replace qE:=qE.q RF
   have RG:Q W fZ:=Q.trans aaD RF
   have wJ:ah fZ g8 79 (ND x.wish):=hW.q RG
   have Dj:Tab fZ:=hTW.q RG
   have q6:∀y:Wd fZ,y.w.cell? ⟨b0,o0+j*8+6,none⟩=some (.int .i64 x.scope):=fun y=>r6 ⟨y.w,Q.trans RG y.q⟩
   have q7:∀y:Wd fZ,y.w.cell? ⟨b0,o0+j*8+7,none⟩=some (.int .i64 x.mask):=fun y=>r7 ⟨y.w,Q.trans RG y.q⟩
   have ayI:g10<g11:=by omega
   have w1:=aB (.int .i64 x.wish.do_) wJ 1
   have w4:=aB (.string x.wish.text) wJ 4
   have w5:=aB (.int .i64 x.wish.time) wJ 5
   clear r6 r7 hW hTW aaD RF RG aJ
   obtain⟨v5,hv5⟩:=Wd.first fZ
   rw[hv5]
   clear hv5
   go_upto_region 15 with(fail)
   rename_i K32 aiE K16 au4
   have N8:∀(V:World) (d:ay) (E2:Option Addr) (KT:Nat) (Gs:List jH) {v12 v13 v14 v15 v16 v17 v19 v20 v21 v22 v23 v24 v25 v26 v27 v28 v29 v30 v31 v32 v33 v34 v35 v36 v37 v38 v39 v40 v41 v42 v43 v44 v45 v46 v47 v48 v49 v50 v51 v52 v53 v54 v55 v56 v57 v58 v59 v60 v61 v62 v63 v64 v65 v66 v67 v68 v69 v70 v71 v72 v73 v74 v75 v76 v77 v78 v79 v80 v81 v82 v83 v84 v85 v86 v87 qF v89 qG v91 qH v93 qI qJ qK qL qM qN qO qP qQ qR qU v105 qV v107 qW v109 qX qY qZ ru rC rD rE v117 rF rG rH rJ rM rO v124 rP rQ v127 rU rV v130 v131 rW rX nZ og oh oq v138 v139 ou v141 oz v143 oC v145 v146 oD v148:Value},iH w V [g10] (some ⟨a,0,none⟩) ca D cd E2 KT cs es Gs->ah V g10 41 d.cells.toArray->dw (g10::kE (some ⟨a,0,none⟩) D E2) V d->Own b (aN d)->c.acts.length<=d.acts.length->d.acts.length<=c.acts.length+2->aN d=(jg b (aN c) x es).1->Gs=ts++(jg b (aN c) x es).2.toList->K32 {tmps:= #[.slice (some ⟨b0,o0,none⟩) nl lc,undef, .slice none 0 0, .slice none 0 0, .slice (some ⟨a,0,none⟩) 4 ca, .slice D es.length cd, .slice E2 Gs.length KT, .int .i64 (j:Int), .pointer (some ⟨g8,0,none⟩), .int .i64 (b:Int), .pointer (some ⟨g10,0,none⟩), .pointer (some ⟨g11,0,none⟩),v12,v13,v14,v15,v16,v17, .slice (some ⟨a,0,none⟩) 4 ca,v19,v20,v21,v22,v23,v24,v25,v26,v27,v28,v29,v30,v31,v32,v33,v34,v35,v36,v37,v38,v39,v40,v41,v42,v43,v44,v45,v46,v47,v48,v49,v50,v51,v52,v53,v54,v55,v56,v57,v58,v59,v60,v61,v62,v63,v64,v65,v66,v67,v68,v69,v70,v71,v72,v73,v74,v75,v76,v77,v78,v79,v80,v81,v82,v83,v84,v85,v86,v87,qF,v89,qG,v91,qH,v93,qI,qJ,qK,qL,qM,qN,qO,qP,qQ,qR,qU,v105,qV,v107,qW,v109,qX,qY,qZ,ru,rC,rD,rE,v117,rF,rG,rH,rJ,rM,rO,v124,rP,rQ,v127,rU,rV,v130,v131,rW,rX,nZ,og,oh,oq,v138,v139,ou,v141,oz,v143,oC,v145,v146,oD,v148,undef,undef],defers:=[]} V:=by
    intro V d E2 KT Gs
    intros
    rename_i zI hBV xH vM hcd hdc hdE htE
    refine aiE _ _ ?_
    clear aiE au4 hM hoc qE wJ Gq q6 q7 w1 w4 w5 Dj
    dsimp only
    have hdk:=auE (qm l j) x b (aN c) hbO HCP.out
    rw[<-HEe.out,<-Wu.out,<-Wv.out,<-hdE,<-htE,auF]at hdk
    rw[<-CX.out]at hdk
    have HDK:=Lib.hid hdk
    clear hdk hdE htE
    have hsh:∀u∈d.acts,jU u:=vM.sizes.short
    obtain⟨nc,hnc⟩:∃nc,c.acts.length=nc:=⟨_,rfl⟩
    obtain⟨nd,hnd⟩:∃nd,d.acts.length=nd:=⟨_,rfl⟩
    rw[hnc]at hcd hdc hcl HDK
    rw[hnd]at hcd hdc
    have hrV:=zI.aiw b hbL
    rw[HCE.out]at hrV
    have k1:V.cell? ⟨a,b*6+1,none⟩=some (.slice c.aA nc c.aC):=by rw[<-hnc];exact hrV 1 _ rfl
    clear hrV vM
    obtain⟨u0,hu0⟩:∃u:Wd w,V=u.w:=⟨⟨V,zI.q⟩,rfl⟩
    rw[hu0]at zI hBV xH k1⊢
    clear hu0
    have N9:=Lib.hid hnd
    clear hnc hnd
    have HB0:=Lib.hid hBV
    have vw:=Lib.hid xH
    clear hBV xH
    go_upto_region 33 with(refine kR 24 41 (.tmp 123) (.tmp 124) a 0 4 ca b 6 rfl rfl rfl rfl Tryz.underlying24 (by kernel_rfl) Tryz.sizeOf41 hb4 ?_)
    clear k1
    go_wp2_with fail
    go_loopw [5,17] (fun d5 n7 wr=>∃(k:Nat) (D2:Option Addr) (xu:Nat) (es2:List ByteArray) (Y:World),d5= .slice D2 es2.length xu/\n7= .int .i64 k/\wr=Y/\nc<=k/\k<=nd/\Hid (es2.length=es.length+(k-nc))/\iH w Y [g10] (some ⟨a,0,none⟩) ca D2 xu E2 KT cs es2 Gs/\Hid (ah Y g10 41 d.cells.toArray)/\Hid (dw (g10::kE (some ⟨a,0,none⟩) D2 E2) Y d)/\Hid (es2=es++((d.acts.drop nc).take (k-nc)).map bY)) (fun _ n7 _=>nd-(intOf n7).toNat)
    case' atStart=>exact⟨nc,D,cd,es,_,rfl,rfl,rfl,Nat.le_refl _,hcd,Lib.hid (by omega),zI,HB0,vw,Lib.hid (by rw[Nat.sub_self];simp)⟩
    case' round=>
     clear zI HB0 vw u0
     obtain⟨k,D2,xu,es2,Y,rfl,rfl,au5,hk0,hk1,Wx,zI,HB0,vw,Wy⟩:=hrel
     subst au5
     have ayK:es2.length<=1000:=by have h:=Wx.out;omega
     have k1:∀y:Wd wr,y.w.cell? ⟨g10,1,none⟩=some (.slice d.aA nd d.aC):=fun y=>by rw[<-N9.out];exact(y.blk HB0.out).cell 1
     by_cases hkl:k<nd
     ·have GR:k<d.acts.length:=by rw[N9.out];exact hkl
      have Vf:(k:Int)<(nd:Int):=by omega
      have hkp:(0:Int)<=(k:Int):=by omega
      have hoY:=vw.out
      obtain⟨b3,o3,hdA,hb3,hc3⟩:=hoY.in.acts (by omega)
      rw[hdA]at k1
      have hr3:=hc3 k GR
      have hsk:=hsh _ (List.getElem_mem GR)
      have hak:=hoY.in.each _ (List.getElem_mem GR)
      have hds:=auH d.acts nc k hk0 GR
      obtain⟨u,hue⟩:∃u,d.acts[k]=u:=⟨_,rfl⟩
      rw[hue]at hr3 hsk hak hds
      have HDS:=Lib.hid hds
      clear hc3 hds hue hdA
      have hLu:∀y:Wd wr,(Instr.loadAt 37 (.pointer (some ⟨b3,o3+k*20,none⟩))).run Tryz.prog y.w= .ok (.agg (au u)) y.w:=Wd.load hb3 hr3 Tryz.underlying37 rfl (by kernel_rfl)
      have nH:=fun y:Wd wr=>Yp u y.w (hT.q (Q.trans zI.q y.q)) (hak.q y.q) hsk
      obtain⟨dg,hdg⟩:∃dg,bY u=dg:=⟨_,rfl⟩
      rw[hdg]at nH
      have HDG:=Lib.hid hdg
      clear hr3 hak hoY hb3 hdg
      have Oa:Hid (iH w wr [g10] (some ⟨a,0,none⟩) ca D2 xu E2 KT cs es2 Gs):=Lib.hid zI
      have hwY:=zI.q.size
      clear zI
      have au6:∀w:World,(Instr.buildSlice 30 1 #[(0, .string dg)]).run Tryz.prog w= .ok (.slice (some ⟨w.heap.size,0,none⟩) 1 1) (w.alloc (.cells #[.string dg] 9)):=Kz dg
      obtain⟨y1,hy1⟩:=Wd.first wr
      rw[hy1]
      clear hy1
      go_wp2_with (first|(refine kR 38 37 (.tmp 138) (.tmp 139) b3 o3 nd d.aC k 20 rfl rfl rfl rfl Tryz.underlying38 (by kernel_rfl) Tryz.sizeOf37 hkl ?_)|(refine aI (.tmp 140) (hLu _) ?_)|(go_at_call 35;refine(nH _).mono ?_;rintro e w' ⟨rfl,hq⟩;obtain⟨y2,rfl⟩:=Wd.next _ hq;clear hq;have yC:=((Oa.out.q' y2.q).early).alloc (.cells #[.string dg] 9);have hnew:dS (y2.w.alloc (.cells #[.string dg] 9)) (some ⟨y2.w.heap.size,0,none⟩) 1 dP [dg]:=dS.one y2.w 9 dg _ rfl;have hyY:=y2.q.size)|(at_builtin;refine afn kZ oZ rfl (.tmp 136) (.tmp 143) 30 9 iS _ 16 rfl Tryz.underlying30 hiS hzS auZ au0 rfl (by decide) (by decide) w.heap.size (.slice D2 es2.length xu) es2.length es2 rfl yC y2.w.heap.size 0 1 1 [dg] rfl hnew rfl (by decide) (by omega) (by simp only[World.size_alloc];omega) ?_))
      intro D9 c9 w9 kU jd eX bW Dk
      have hlen:(es2++[dg]).length=es2.length+1:=by simp
      have hza:(y2.w.alloc (.cells #[.string dg] 9)).heap.size=y2.w.heap.size+1:=by simp
      rw[<-hza]at Dk
      clear hza
      rw[<-hlen]at eX Dk
      have RH:es2.flatMap dP++dP dg=(es2++[dg]).flatMap dP:=by simp
      rw[RH]at eX
      clear RH
      have FM:=(Oa.out.q' (Q.trans y2.q (aO y2.w #[.string dg] 9))).digest bW eX Dk
      have qy:ah w9 g10 41 d.cells.toArray:=ah.Qe (HB0.out.q (Q.trans y2.q (aO y2.w #[.string dg] 9))) yC bW (by decide)
      have hO9:dw (g10::kE (some ⟨a,0,none⟩) D9 E2) w9 d:=auI (vw.out.q (Q.trans y2.q (aO y2.w #[.string dg] 9))) bW Dk
      have HM9:=Lib.hid FM
      have HB9:=Lib.hid qy
      have FD:=Lib.hid hO9
      have RI:=Lib.hid hlen
      have HE9:Hid (es2++[dg]=es++((d.acts.drop nc).take (k+1-nc)).map bY):=Lib.hid (by rw[HDS.out,Wy.out,HDG.out,List.append_assoc])
      have HE8:Hid ((es2++[dg]).length=es.length+(k+1-nc)):=Lib.hid (by rw[hlen,Wx.out];omega)
      clear eX bW Dk FM qy hO9 yC hnew au6 Oa HB0 vw Wy HDS HDG nH hLu hlen Wx k1
      go_wp2_with fail
      exact⟨⟨k+1,D9,c9,es2++[dg],w9,by rw[RI.out],by go_num,rfl,by omega,by omega,HE8,HM9.out,HB9,FD,HE9⟩,by simp only[intOf];omega⟩
     ·obtain rfl:k=nd:=by omega
      have hkn:¬((k:Int)<(k:Int)):=by omega
      have hall:es2=es++(d.acts.drop nc).map bY:=by rw[Wy.out,auG d.acts nc k (by rw[N9.out];exact Nat.le_refl _)]
      have hdk:=HDK.out
      rw[<-hall]at hdk
      have aaI:=Lib.hid hdk
      have aiK:=zI.there b hb4
      have Oa:=Lib.hid zI
      clear hall hdk HDK Wy zI hsh Wx
      have dh:=dX (P:=Tryz.prog) (aF d) HB0.out Tryz.underlying41
      have ava:(Instr.loadAt 41 (.pointer (some ⟨g10,0,none⟩))).run Tryz.prog wr= .ok (.agg (aF d)) wr:=dh ⟨wr,Q.refl _⟩
      have k1r:wr.cell? ⟨g10,1,none⟩=some (.slice d.aA k d.aC):=k1 ⟨wr,Q.refl _⟩
      clear dh k1
      obtain⟨W,fO,hst⟩:=auK (P:=Tryz.prog) wr a (b*6) (aF d) aiK (nJ d)
      have hMF:iH w W [] (some ⟨a,0,none⟩) ca D2 xu E2 KT (cs.set b d) es2 Gs:=by rw[fO];exact(Oa.out.set b hb4 d vw.out).drop
      clear fO aiK Oa HB0 vw
      have HK1:Hid ((cs.set b d).map aN=(qm l (j+1)).cs):=Lib.hid (by rw[aaI.out,List.map_set])
      have HK2:Hid (es2=(qm l (j+1)).earlier):=Lib.hid (by rw[aaI.out])
      have HK3:Hid (Gs=(qm l (j+1)).texts):=Lib.hid (by rw[aaI.out])
      have HQF:=Lib.hid hMF.q
      have HMF:=Lib.hid hMF
      clear hMF
      go_upto_region 36 with(fail)
      go_wp2_with (first|(refine kR 24 41 (.tmp 145) (.tmp 146) a 0 4 ca b 6 rfl rfl rfl rfl Tryz.underlying24 (by kernel_rfl) Tryz.sizeOf41 hb4 ?_)|(refine aI (.tmp 10) ava ?_))
      exact⟨⟨j+1,D2,xu,es2,E2,KT,Gs,cs.set b d,⟨W,HQF.out⟩,rfl,rfl,by go_num,rfl,by omega,HMF.out,HK1,HK2,HK3⟩,by simp only[intOf];omega⟩
   have hk1:kk.1<=9223372036854775807:=HKK.out▸U9 b
   have hk2:kk.2<=9223372036854775807:=HKK.out▸Qc b
   have KU:gX fZ c:=hoc.in
   have hsz:=uI.sizes
   have uY:∀g∈(g10::kE (some ⟨a,0,none⟩) D E),g<fZ.heap.size:=hM.lt
   have ayO:=wJ.lt
   have ayP:=Gq.lt
   have WB:=fun y l=>(aie uI y l).1
   rcases(show(x.wish.do_==1)=true∨((x.wish.do_==1)=false/\(x.wish.do_==15)=true)∨((x.wish.do_==1)=false/\(x.wish.do_==15)=false) by cases(x.wish.do_==1)<;>cases(x.wish.do_==15)<;>simp)with hd1|⟨hd1,RJ⟩|⟨hd1,RJ⟩
   ·have aaK:x.wish.do_=1:=eq_of_beq hd1
    have DC:=auP b (aN c) x es hd1
    rw[HKK.out]at DC
    rw[aaK]at w1
    have fP:=fun(y:World) (hy:Q fZ y)=>Cm x.scope 4 y hxk.scope (by decide)
    obtain⟨sc,hsc⟩:∃sc,x.scope%4=sc:=⟨_,rfl⟩
    have hsc1:0<=sc/\sc<=3:=by omega
    rw[hsc]at fP
    have HSC:=Lib.hid hsc
    clear hsc
    go_upto_region 16 with(fail)
    rename_i K17 aiL
    have aiM:∀(V:World) (g12:Nat) {v13 v14 v15 v16 v17 v19 v20 v21 v22 v23 v24 v25 v26 v27 v28 v29 v30 v31 v32 v33 v34 v35 v36 v37 v38 v39 v40 v41 v42 v43 v44 v45 v46 v47 v48 v49 v50 v51 v52 v53 v54 v55 v56 v57 v58 v59 v60 v61 v62 v63 v64 v65 v66 v67 v68 v69 v70 v71 v72 v73 v74 v75 v76 v77 v78 v79 v80 v81 v82 v83 v84 v85 v86 v87 qF v89 qG v91 qH v93 qI qJ qK qL qM qN qO qP qQ qR qU v105 qV v107 qW v109 qX qY qZ ru rC rD rE v117 rF rG rH rJ rM rO v124 rP rQ v127 rU rV v130 v131 rW rX nZ og oh oq v138 v139 ou v141 oz v143 oC v145 v146 oD v148:Value},Q fZ V->fZ.heap.size<=g12->ah V g12 37 ({aH with kind:=1,time:=x.wish.time,scope:=sc}:ak).cells.toArray->K17 {tmps:= #[.slice (some ⟨b0,o0,none⟩) nl lc,undef, .slice none 0 0, .slice none 0 0, .slice (some ⟨a,0,none⟩) 4 ca, .slice D es.length cd, .slice E ts.length ec, .int .i64 (j:Int), .pointer (some ⟨g8,0,none⟩), .int .i64 (b:Int), .pointer (some ⟨g10,0,none⟩), .pointer (some ⟨g11,0,none⟩), .pointer (some ⟨g12,0,none⟩),v13,v14,v15,v16,v17, .slice (some ⟨a,0,none⟩) 4 ca,v19,v20,v21,v22,v23,v24,v25,v26,v27,v28,v29,v30,v31,v32,v33,v34,v35,v36,v37,v38,v39,v40,v41,v42,v43,v44,v45,v46,v47,v48,v49,v50,v51,v52,v53,v54,v55,v56,v57,v58,v59,v60,v61,v62,v63,v64,v65,v66,v67,v68,v69,v70,v71,v72,v73,v74,v75,v76,v77,v78,v79,v80,v81,v82,v83,v84,v85,v86,v87,qF,v89,qG,v91,qH,v93,qI,qJ,qK,qL,qM,qN,qO,qP,qQ,qR,qU,v105,qV,v107,qW,v109,qX,qY,qZ,ru,rC,rD,rE,v117,rF,rG,rH,rJ,rM,rO,v124,rP,rQ,v127,rU,rV,v130,v131,rW,rX,nZ,og,oh,oq,v138,v139,ou,v141,oz,v143,oC,v145,v146,oD,v148,undef,undef],defers:=[]} V:=by
     intro V g12
     intros
     rename_i aK hge hV
     refine aiL _ _ ?_
     clear aiL fP
     dsimp only
     obtain⟨p0,hp0⟩:∃p0,({aH with kind:=1,time:=x.wish.time,scope:=sc}:ak)=p0:=⟨_,rfl⟩
     have hps:p0.scope=sc:=by rw[<-hp0]
     rw[hp0]at hV
     go_upto_region 17 with(fail)
     rename_i K19 aiN K18 avi
     have aiO:∀(X:World) (p1:ak) {v13 v14 v15 v16 v17 v19 v20 v21 v22 v23 v24 v25 v26 v27 v28 v29 v30 v31 v32 v33 v34 v35 v36 v37 v38 v39 v40 v41 v42 v43 v44 v45 v46 v47 v48 v49 v50 v51 v52 v53 v54 v55 v56 v57 v58 v59 v60 v61 v62 v63 v64 v65 v66 v67 v68 v69 v70 v71 v72 v73 v74 v75 v76 v77 v78 v79 v80 v81 v82 v83 v84 v85 v86 v87 qF v89 qG v91 qH v93 qI qJ qK qL qM qN qO qP qQ qR qU v105 qV v107 qW v109 qX qY qZ ru rC rD rE v117 rF rG rH rJ rM rO v124 rP rQ v127 rU rV v130 v131 rW rX nZ og oh oq v138 v139 ou v141 oz v143 oC v145 v146 oD v148:Value},Q fZ X->ah X g12 37 p1.cells.toArray->p1=(if sc==2 then pG zD p0 else p0)->K19 {tmps:= #[.slice (some ⟨b0,o0,none⟩) nl lc,undef, .slice none 0 0, .slice none 0 0, .slice (some ⟨a,0,none⟩) 4 ca, .slice D es.length cd, .slice E ts.length ec, .int .i64 (j:Int), .pointer (some ⟨g8,0,none⟩), .int .i64 (b:Int), .pointer (some ⟨g10,0,none⟩), .pointer (some ⟨g11,0,none⟩), .pointer (some ⟨g12,0,none⟩),v13,v14,v15,v16,v17, .slice (some ⟨a,0,none⟩) 4 ca,v19,v20,v21,v22,v23,v24,v25,v26,v27,v28,v29,v30,v31,v32,v33,v34,v35,v36,v37,v38,v39,v40,v41,v42,v43,v44,v45,v46,v47,v48,v49,v50,v51,v52,v53,v54,v55,v56,v57,v58,v59,v60,v61,v62,v63,v64,v65,v66,v67,v68,v69,v70,v71,v72,v73,v74,v75,v76,v77,v78,v79,v80,v81,v82,v83,v84,v85,v86,v87,qF,v89,qG,v91,qH,v93,qI,qJ,qK,qL,qM,qN,qO,qP,qQ,qR,qU,v105,qV,v107,qW,v109,qX,qY,qZ,ru,rC,rD,rE,v117,rF,rG,rH,rJ,rM,rO,v124,rP,rQ,v127,rU,rV,v130,v131,rW,rX,nZ,og,oh,oq,v138,v139,ou,v141,oz,v143,oC,v145,v146,oD,v148,undef,undef],defers:=[]} X:=by
      intro X p1
      intros
      rename_i jv hX hp1
      refine aiN _ _ ?_
      clear aiN avi hV aK
      dsimp only
      go_upto_region 19 with(fail)
      rename_i K21 aiP K20 avk
      have aiQ:∀(X:World) (p:ak) {v13 v14 v15 v16 v17 v19 v20 v21 v22 v23 v24 v25 v26 v27 v28 v29 v30 v31 v32 v33 v34 v35 v36 v37 v38 v39 v40 v41 v42 v43 v44 v45 v46 v47 v48 v49 v50 v51 v52 v53 v54 v55 v56 v57 v58 v59 v60 v61 v62 v63 v64 v65 v66 v67 v68 v69 v70 v71 v72 v73 v74 v75 v76 v77 v78 v79 v80 v81 v82 v83 v84 v85 v86 v87 qF v89 qG v91 qH v93 qI qJ qK qL qM qN qO qP qQ qR qU v105 qV v107 qW v109 qX qY qZ ru rC rD rE v117 rF rG rH rJ rM rO v124 rP rQ v127 rU rV v130 v131 rW rX nZ og oh oq v138 v139 ou v141 oz v143 oC v145 v146 oD v148:Value},Q fZ X->ah X g12 37 p.cells.toArray->aP p=gW x->bU X p->K21 {tmps:= #[.slice (some ⟨b0,o0,none⟩) nl lc,undef, .slice none 0 0, .slice none 0 0, .slice (some ⟨a,0,none⟩) 4 ca, .slice D es.length cd, .slice E ts.length ec, .int .i64 (j:Int), .pointer (some ⟨g8,0,none⟩), .int .i64 (b:Int), .pointer (some ⟨g10,0,none⟩), .pointer (some ⟨g11,0,none⟩), .pointer (some ⟨g12,0,none⟩),v13,v14,v15,v16,v17, .slice (some ⟨a,0,none⟩) 4 ca,v19,v20,v21,v22,v23,v24,v25,v26,v27,v28,v29,v30,v31,v32,v33,v34,v35,v36,v37,v38,v39,v40,v41,v42,v43,v44,v45,v46,v47,v48,v49,v50,v51,v52,v53,v54,v55,v56,v57,v58,v59,v60,v61,v62,v63,v64,v65,v66,v67,v68,v69,v70,v71,v72,v73,v74,v75,v76,v77,v78,v79,v80,v81,v82,v83,v84,v85,v86,v87,qF,v89,qG,v91,qH,v93,qI,qJ,qK,qL,qM,qN,qO,qP,qQ,qR,qU,v105,qV,v107,qW,v109,qX,qY,qZ,ru,rC,rD,rE,v117,rF,rG,rH,rJ,rM,rO,v124,rP,rQ,v127,rU,rV,v130,v131,rW,rX,nZ,og,oh,oq,v138,v139,ou,v141,oz,v143,oC,v145,v146,oD,v148,undef,undef],defers:=[]} X:=by
       intro X p
       intros
       rename_i jv hX hpw WC
       refine aiP _ _ ?_
       clear aiP avk hp1
       dsimp only
       have hto:∀d∈p.to,jL d:=fun d hd=>ah1 x d (by have h:=J6 (show aP p=aP (gW x)from hpw);rw[<-h];exact hd)
       have hkp:p.kind=1:=ahy (show aP p=aP (gW x)from hpw)
       have hsp:p.scope=sc:=by rw[<-HSC.out];exact QO (show aP p=aP (gW x)from hpw)
       have hgp:p.group.size<=100000:=by have h:=QS (show aP p=aP (gW x)from hpw);rw[h];show(if x.scope%4==2 then zD else bK).size<=100000;split<;>decide
       have htp:p.to.length<=100000:=by have h2:=J6 (show aP p=aP (gW x)from hpw);rw[h2];exact Nat.le_trans (auT x) (by decide)
       have hpk:=auR kk c p x hpw x.wish.text
       rw[hpk]at DC
       have bf:=fun y:Wd X=>aul b hb4 (g10::kE (some ⟨a,0,none⟩) D E) c p x.wish.text y.w (Dj.q (Q.trans jv y.q)) (hoc.q (Q.trans jv y.q)) (fun g hg2=>Nat.lt_of_lt_of_le (uY g hg2) (Q.trans jv y.q).size) (WC.q y.q) uI (by omega) hto hkp (by rw[hsp];exact hsc1) hgp hxk.text htp
       rw[HKK.out]at bf
       unfold aip at bf
       have hdo:=WB x es
       rw[DC]at hdo
       obtain⟨r,hr⟩:∃r,jf kk c p x.wish.text=r:=⟨_,rfl⟩
       rw[hr]at bf DC hdo
       have EF:=Lib.hid DC
       have HDO:=Lib.hid hdo
       clear hpk DC hr hto hkp hsp hgp htp hdo WB
       have hLk:∀y:Wd X,(Instr.loadAt 66 (.pointer (some ⟨g11,0,none⟩))).run Tryz.prog y.w= .ok (.agg (bH kk)) y.w:=Wd.load (Gq.q jv).lt (ah.range (Gq.q jv)) Tryz.underlying66 rfl (by kernel_rfl)
       have aiT:∀y:Wd X,(Instr.loadAt 41 (.pointer (some ⟨g10,0,none⟩))).run Tryz.prog y.w= .ok (.agg (aF c)) y.w:=Wd.load (qE.q jv).lt (ah.range (qE.q jv)) Tryz.underlying41 rfl (by kernel_rfl)
       have kX:=dX (P:=Tryz.prog) (au p) hX Tryz.underlying37
       have w4X:∀y:Wd X,y.w.cell? ⟨g8,4,none⟩=some (.string x.wish.text):=fun y=>w4 ⟨y.w,Q.trans jv y.q⟩
       obtain⟨v8,vI⟩:=Wd.first X
       rw[vI]
       clear vI
       go_upto_region 22 with(first|(refine aI (.tmp 11) (hLk _) ?_)|(refine aI (.tmp 10) (aiT _) ?_)|(refine aI (.tmp 12) (kX _) ?_)|(go_at_call 30;refine(bf _).mono ?_;rintro e w2 ⟨d,rfl,hdb,hdo,hq2⟩;obtain⟨v9,rfl⟩:=Wd.next _ hq2)|(refine fM (ah.new v9.w 41 fE.cells.toArray) rfl 41 (.tmp 13) (.tmp 85) d.cells rfl rfl rfl (by kernel_rfl) (nJ _) (Nat.le_refl 6) ?_))
       intro Y hY aiU
       rw[bC _ _ (by rfl)]at hY
       have bD:Q v9.w Y:=aiU _ _ (Nat.le_refl _) (aO _ _ _)
       have EG:Q fZ Y:=Q.trans jv (Q.trans v9.q bD)
       replace hdo:=hdo.q bD
       generalize v9.w.heap.size=g13 at*
       clear aiU bD bf hLk aiT kX w4X hX WC hq2
       obtain⟨r1,r2⟩:=r
       dsimp only at hdb⊢
       have w4Y:∀y:Wd Y,y.w.cell? ⟨g8,4,none⟩=some (.string x.wish.text):=fun y=>w4 ⟨y.w,Q.trans EG y.q⟩
       have avn:=dX (P:=Tryz.prog) (aF d) hY Tryz.underlying41
       have HM:=Lib.hid (hM.q' EG)
       have EH:=Lib.hid (hoc.q EG)
       have aaM:=Lib.hid (qE.q EG)
       clear hM hoc qE
       obtain⟨y0,hy0⟩:=Wd.first Y
       rw[hy0]
       clear hy0
       cases r2
       ·have HD1:Hid (aN c=(jg b (aN c) x es).1/\ts=ts++(jg b (aN c) x es).2.toList):=Lib.hid (by rw[EF.out];exact⟨(Ci c).symm,(List.append_nil ts).symm⟩)
        go_wp2_with fail
        exact N8 _ c E ec ts (HM.out.q' y0.q) (aaM.out.q y0.q) (EH.out.q y0.q) uI (Nat.le_refl _) (Nat.le_add_right _ 2) HD1.out.1 HD1.out.2
       ·have hgr:Grew b (aN c) r1:=HDO.out
        obtain⟨vM,KW,hld⟩:=hgr
        rw[<-hdb]at vM KW hld
        rw[ng,ng]at hld
        have hlc:c.acts.length<=d.acts.length:=by have h:=KW.length_le;rw[ng,ng]at h;exact h
        have hdp:0<d.acts.length:=by have h:=vM.pos;rw[ng]at h;exact h
        have hdr:d.acts.length=r1.acts.length:=by rw[<-ng d,hdb]
        have HD1:Hid (aN d=(jg b (aN c) x es).1/\ts++[⟨(b:Int),(d.acts.length:Int)-1,x.wish.text⟩]=ts++(jg b (aN c) x es).2.toList):=Lib.hid (by rw[EF.out];exact⟨hdb,by rw[hdr];rfl⟩)
        have HHO:=Lib.hid vM
        have HDd:=Lib.hid hdo
        obtain⟨nd,hnd⟩:∃nd,d.acts.length=nd:=⟨_,rfl⟩
        rw[hnd]at hld hlc hdp HD1
        have N9:=Lib.hid hnd
        have k1:∀y:Wd Y,y.w.cell? ⟨g13,1,none⟩=some (.slice d.aA nd d.aC):=fun y=>by rw[<-hnd];exact(y.blk hY).cell 1
        clear KW hdr hnd vM hdo hdb HDO
        have hlp:=auS nd hdp (by omega)
        obtain⟨tx,htx⟩:∃tx:jH,(⟨(b:Int),(nd:Int)-1,x.wish.text⟩:jH)=tx:=⟨_,rfl⟩
        have hbu:∀w:World,(Instr.build 29 #[(0, .int .i64 (b:Int)),(1, .int .i64 ((nd:Int)-1)),(2, .string x.wish.text)]).run Tryz.prog w= .ok (.agg #[.int .i64 (b:Int), .int .i64 ((nd:Int)-1), .string x.wish.text]) w:=auB ⟨(b:Int),(nd:Int)-1,x.wish.text⟩
        have hbs:∀w:World,(Instr.buildSlice 25 1 #[(0, .agg #[.int .i64 (b:Int), .int .i64 ((nd:Int)-1), .string x.wish.text])]).run Tryz.prog w= .ok (.slice (some ⟨w.heap.size,0,none⟩) 1 1) (w.alloc (.cells #[.int .i64 (b:Int), .int .i64 ((nd:Int)-1), .string x.wish.text] 29)):=auA ⟨(b:Int),(nd:Int)-1,x.wish.text⟩
        have hnew:dS (y0.w.alloc (.cells #[.int .i64 (b:Int), .int .i64 ((nd:Int)-1), .string x.wish.text] 29)) (some ⟨y0.w.heap.size,0,none⟩) 3 jH.cells [tx]:=by rw[<-htx];exact jW (x:=(⟨(b:Int),(nd:Int)-1,x.wish.text⟩:jH)) (f:=jH.cells) (ah.new y0.w 29 #[.int .i64 (b:Int), .int .i64 ((nd:Int)-1), .string x.wish.text])
        rw[htx]at HD1
        clear htx
        have hown:=(HM.out.q' y0.q).texts.alloc (.cells #[.int .i64 (b:Int), .int .i64 ((nd:Int)-1), .string x.wish.text] 29)
        have hwy:=(HM.out.q' y0.q).q.size
        have hqa:Q Y (y0.w.alloc (.cells #[.int .i64 (b:Int), .int .i64 ((nd:Int)-1), .string x.wish.text] 29)):=Q.trans y0.q (aO _ _ _)
        have hza:(y0.w.alloc (.cells #[.int .i64 (b:Int), .int .i64 ((nd:Int)-1), .string x.wish.text] 29)).heap.size=y0.w.heap.size+1:=by simp
        go_upto_region 24 with(at_builtin;refine afn auC auD rfl (.tmp 88) (.tmp 97) 25 29 iT _ 32 rfl Tryz.underlying25 hiT hzT auV auW rfl (by decide) (by decide) w.heap.size (.slice E ts.length ec) ts.length ts rfl hown y0.w.heap.size 0 1 1 [tx] rfl hnew rfl (by decide) (by omega) (by simp only[World.size_alloc];omega) ?_)
        intro E9 c9 w9 kU jd eX bW Dk
        have hlen:(ts++[tx]).length=ts.length+1:=by simp
        rw[<-hza]at Dk
        have RH:ts.flatMap jH.cells++tx.cells=(ts++[tx]).flatMap jH.cells:=by simp
        rw[<-hlen,RH]at eX
        rw[<-hlen]at Dk
        have FM:=(HM.out.q' hqa).text bW eX Dk
        have qy:ah w9 g10 41 c.cells.toArray:=ah.Qe (aaM.out.q hqa) hown bW (by decide)
        have hY9:ah w9 g13 41 d.cells.toArray:=ah.Qe (hY.q hqa) hown bW (by decide)
        have yu:dw (g10::kE (some ⟨a,0,none⟩) D E9) w9 d:=auJ (HDd.out.q hqa) bW Dk
        have aiW:(Instr.loadAt 41 (.pointer (some ⟨g13,0,none⟩))).run Tryz.prog w9= .ok (.agg (aF d)) w9:=Wd.load (P:=Tryz.prog) (ty:=41) hY9.lt (ah.range hY9) Tryz.underlying41 rfl (by kernel_rfl) ⟨w9,Q.refl _⟩
        have HL:=Lib.hid hlen
        clear hown hnew hbu hbs eX Dk bW hza RH hlen hlp k1 avn w4Y HM EH aaM HDd hqa hY
        go_wp2_with (first|(refine aI (.tmp 13) aiW ?_)|(refine eY (cs:=c.cells) qy rfl 41 (.tmp 10) (.tmp 99) d.cells rfl rfl rfl (by kernel_rfl) (nJ _) (Nat.le_refl 6) ?_))
        intro W8 IZ xG vJ
        rw[bC _ _ (by rfl)]at IZ
        have hs8:w9.heap.size<=W8.heap.size:=(xG 0 w9 (Nat.zero_le _) (Below.refl _ _)).size
        have I4:=FM.far (List.mem_singleton.2 rfl) (xG _ _ (by omega) FM.q) hs8 vJ
        have I5:=yu.far (w':=W8) fun b hb=>vJ b fun e=>hb (e▸List.mem_cons_self ..)
        have RN:=Lib.hid I4
        have RP:=Lib.hid I5
        clear FM I4 I5 qy hY9 yu aiW xG vJ
        go_wp2_with fail
        rw[<-HL.out]
        exact N8 _ d E9 c9 (ts++[tx]) RN.out IZ RP.out HHO.out (by rw[N9.out];exact hlc) (by rw[N9.out];exact hld) HD1.out.1 HD1.out.2
      have hp1s:p1.scope=sc:=by rw[hp1];split<;>exact hps
      obtain⟨v,hv⟩:∃v:Wd fZ,X=v.w:=⟨⟨X,jv⟩,rfl⟩
      rw[hv]at hX⊢
      clear hv jv
      have cS:v.w.cell? ⟨g12,7,none⟩=some (.int .i64 sc):=by rw[<-hp1s];exact hX.cell 7
      have hl1:p1.to=[]/\p1.toA=none/\p1.toC=0/\p1.wraps=[]/\p1.gy=none/\p1.dF=0:=by rw[hp1,<-hp0];split<;>exact⟨rfl,rfl,rfl,rfl,rfl,rfl⟩
      cases hs3:(sc==3)
      ·have hpw:aP p1=gW x:=by rw[hp1,<-hp0];unfold gW;rw[HSC.out,hs3];split<;>rfl
       go_wp2_with fail
       exact aiQ _ p1 v.q hX hpw (aiA hl1 _)
      ·have hpw:∀A n,aP (oL (lK x.mask) A n p1)=gW x:=fun A n=>by rw[hp1,<-hp0];unfold gW;rw[HSC.out,hs3];split<;>rfl
       have uK:=fun y:Wd fZ=>Zm x.mask y.w (Dj.q y.q)
       unfold yR at uK
       have hLn:(lK x.mask).length<=4:=Vq x.mask 4
       obtain⟨L,hL⟩:∃L,lK x.mask=L:=⟨_,rfl⟩
       rw[hL]at uK hLn hpw
       have JU:=hX.lt
       have HPW:=Lib.hid hpw
       clear hpw hp1 hp0
       generalize hnt:L.length=nt at*
       go_upto_region 21 with(first|(refine kR 22 81 (.tmp 71) (.tmp 72) b0 o0 nl lc j 8 rfl rfl rfl rfl Tryz.underlying22 (by kernel_rfl) Tryz.sizeOf81 hlt ?_)|(go_at_call 21;refine(uK _).mono ?_;rintro e w' ⟨TA,tc,rfl,ht1,ht2,pY,hq⟩;replace hX:=hX.q hq;have hs0:=v.q.size;have cF:w'.cell? ⟨g12,9,none⟩=some (.slice p1.toA p1.to.length p1.toC):=hX.cell 9;have fF:w'.frozen? ⟨g12,9,none⟩=false:=hX.frozen 9;obtain⟨v7,rfl⟩:=Wd.next _ hq;clear hq))
       subst hnt
       clear uK
       obtain⟨p,hp⟩:∃p,oL L TA tc p1=p:=⟨_,rfl⟩
       obtain⟨X2,bG,hX2,avq,bJ⟩:=nU (b:=p) hge v7.q hX (show 9+1<=20 by decide) (show splice p1.cells 9 [.slice TA L.length tc]=p.cells from hp▸JA L TA tc p1)
       have hTR:dI v.w.heap.size X2 TA 1 dP L:=pY.far fun b hb=>bJ b (by omega)
       rw[bG]
       clear bG cF fF hX pY bJ
       have hpw:=HPW.out TA tc
       rw[hp]at hpw
       obtain⟨hp1,hp2,hp3,yw,zC,Il⟩:p.to=L/\p.toA=TA/\p.toC=tc/\p.wraps=p1.wraps/\p.gy=p1.gy/\p.dF=p1.dF:=by rw[<-hp];exact⟨rfl,rfl,rfl,rfl,rfl,rfl⟩
       obtain⟨-,-,-,hq1,hq2,hq3⟩:=hl1
       have WC:bU X2 p:=⟨by rw[hp1,hp2];exact gB hTR.rows,by rw[yw,hq1];exact fun h=>absurd h (by decide),by rw[hp1,hp3];exact⟨ht1,ht2⟩,by rw[yw,Il,hq1,hq3];exact⟨Nat.le_refl 0,Nat.zero_le _⟩⟩
       exact aiQ X2 p avq hX2 hpw WC
     obtain⟨v,hv⟩:∃v:Wd fZ,V=v.w:=⟨⟨V,aK⟩,rfl⟩
     rw[hv]at hV⊢
     clear hv aK
     have cS:v.w.cell? ⟨g12,7,none⟩=some (.int .i64 sc):=by rw[<-hps];exact hV.cell 7
     cases hs2:(sc==2)
     ·have he:p0=(if sc==2 then pG zD p0 else p0):=by rw[hs2];rfl
      go_wp2_with fail
      exact aiO _ p0 v.q hV he
     ·have he:pG zD p0=(if sc==2 then pG zD p0 else p0):=by rw[hs2];rfl
      have cF:v.w.cell? ⟨g12,8,none⟩=some (.string p0.group):=hV.cell 8
      have fF:v.w.frozen? ⟨g12,8,none⟩=false:=hV.frozen 8
      obtain⟨X,bG,hX,jv,-⟩:=nU (b:=pG zD p0) (t:= .string ⟨#[102,114,105,101,110,100,115]⟩) hge v.q hV (show 8+1<=20 by decide) (show splice p0.cells 8 [.string ⟨#[102,114,105,101,110,100,115]⟩]=(pG zD p0).cells from rfl)
      clear hV
      go_wp2_with fail
      exact aiO X _ jv hX he
    have hz0:Q fZ v5.w.drew:=v5.q.drew
    have f5:∀z,Q fZ z->z.cell? ⟨g8,5,none⟩=some (.int .i64 x.wish.time):=fun z hz=>w5 ⟨z,hz⟩
    have f6:∀z,Q fZ z->z.cell? ⟨b0,o0+j*8+6,none⟩=some (.int .i64 x.scope):=fun z hz=>q6 ⟨z,hz⟩
    refine uT (fun z=>Q fZ z) (by kernel_rfl) ?_
    refine aS 0 (.pointer (some ⟨g8,5,none⟩)) hz0 ?_
    try simp only[aax]
    refine V7 1 (.int .i64 x.wish.time) rfl hz0 (fun z hz=>oK Tryz.underlying3 (f5 z hz)) ?_
    try simp only[aax]
    refine aS 2 (.slice (some ⟨b0,o0,none⟩) nl lc) hz0 ?_
    try simp only[aax]
    refine aS 3 (.int .i64 (j:Int)) hz0 ?_
    try simp only[aax]
    refine V7 4 (.pointer (some ⟨b0,o0+j*8,none⟩)) rfl hz0 (fun z hz=>BK 22 81 (.tmp 57) (.tmp 58) b0 o0 nl lc j 8 rfl rfl rfl Tryz.underlying22 (by kernel_rfl) Tryz.sizeOf81 hlt) ?_
    try simp only[aax]
    refine aS 5 (.pointer (some ⟨b0,o0+j*8+6,none⟩)) hz0 ?_
    try simp only[aax]
    refine V7 6 (.int .i64 x.scope) rfl hz0 (fun z hz=>oK Tryz.underlying3 (f6 z hz)) ?_
    try simp only[aax]
    refine kL 7 9 (fun K' hK'=> ?_) fun K' hK'=> ?_
    ·skip
     go_simp
     refine(fP _ hz0).mono ?_
     rintro e z71 ⟨rfl,bM⟩
     have WE:=Q.trans hz0 bM
     refine hK' _ _ WE ?_
     clear hK' K'
     try simp only[aax]
     refine V7 8 (.agg (au {aH with kind:=1,time:=x.wish.time,scope:=sc})) rfl WE (fun z hz=>vT 37 _ #[(3, .int .i64 1),(4, .int .i64 x.wish.time),(7, .int .i64 sc)] _ rfl (by simp only[List.map_toArray,List.map_cons,List.map_nil];rfl) (aiz x.wish.time sc z)) ?_
     try simp only[aax]
     refine aW 9 fun K' hK'=> ?_
     refine sG 37 _ rfl (Iy _) ?_
     have aaO:=ah.new z71 37 (au aH)
     have aaP:Q fZ (z71.alloc (.cells (au aH) 37)):=Q.trans WE (aO _ _ _)
     have aaQ:=(WE).size
     obtain⟨avr,aaR⟩:∃g,z71.heap.size=g:=⟨_,rfl⟩
     rw[aaR]at aaO aaQ
     obtain⟨z72,aiX⟩:∃z',z71.alloc (.cells (au aH) 37)=z':=⟨_,rfl⟩
     rw[aiX]at aaO aaP⊢
     refine hK' _ _ aaP ?_
     clear hK' K' aiX
     try simp only[aax]
     rw[aaR]
     clear aaR
     refine aW 10 fun K' hK'=> ?_
     refine oJ aaO 37 (.tmp 12) (.tmp 63) ({aH with kind:=1,time:=x.wish.time,scope:=sc}:ak).cells rfl rfl rfl (by kernel_rfl) (dL _) (Nat.le_refl 20) ?_
     intro V hV iD kD
     rw[bC _ _ (by rfl)]at hV
     have aK:Q fZ V:=iD _ _ aaQ aaP
     refine hK' _ _ aK ?_
     clear hK' K'
     try simp only[aax]
     refine wpAnyH_done (by kernel_rfl) ?_ _
     exact aiM V avr aK aaQ hV
    ·skip
     refine sG 37 _ rfl (Iy _) ?_
     have aaS:=ah.new v5.w.drew 37 (au aH)
     have WG:Q fZ (v5.w.drew.alloc (.cells (au aH) 37)):=Q.trans hz0 (aO _ _ _)
     have aaT:=(hz0).size
     obtain⟨avs,aaU⟩:∃g,v5.w.drew.heap.size=g:=⟨_,rfl⟩
     rw[aaU]at aaS aaT
     obtain⟨z73,aiY⟩:∃z',v5.w.drew.alloc (.cells (au aH) 37)=z':=⟨_,rfl⟩
     rw[aiY]at aaS WG⊢
     refine hK' _ _ WG ?_
     clear hK' K' aiY
     try simp only[aax]
     rw[aaU]
     clear aaU
     refine aW 7 fun K' hK'=> ?_
     go_simp
     refine(fP _ WG).mono ?_
     rintro e z74 ⟨rfl,bM⟩
     have aaV:=Q.trans WG bM
     have avt:=aaS.q bM
     refine hK' _ _ aaV ?_
     clear hK' K'
     try simp only[aax]
     refine V7 8 (.agg (au {aH with kind:=1,time:=x.wish.time,scope:=sc})) rfl aaV (fun z hz=>vT 37 _ #[(3, .int .i64 1),(4, .int .i64 x.wish.time),(7, .int .i64 sc)] _ rfl (by simp only[List.map_toArray,List.map_cons,List.map_nil];rfl) (aiz x.wish.time sc z)) ?_
     try simp only[aax]
     refine aW 10 fun K' hK'=> ?_
     refine oJ avt 37 (.tmp 12) (.tmp 63) ({aH with kind:=1,time:=x.wish.time,scope:=sc}:ak).cells rfl rfl rfl (by kernel_rfl) (dL _) (Nat.le_refl 20) ?_
     intro V hV iD kD
     rw[bC _ _ (by rfl)]at hV
     have aK:Q fZ V:=iD _ _ aaT aaV
     refine hK' _ _ aK ?_
     clear hK' K'
     try simp only[aax]
     refine wpAnyH_done (by kernel_rfl) ?_ _
     exact aiM V avs aK aaT hV
   ·have aaK:¬x.wish.do_=1:=beq_eq_false_iff_ne.1 hd1
    have aiZ:x.wish.do_=15:=eq_of_beq RJ
    have DC:=auO b (aN c) x es hd1 RJ
    unfold KD at DC
    rw[QU,HKK.out]at DC
    rw[aiZ]at w1
    have hDr:=fun y:Wd fZ=>JH c 15 x.wish.time y.w
    obtain⟨a0,ha0⟩:∃a0,iW c 15 x.wish.time=a0:=⟨_,rfl⟩
    have hl0:a0.wraps=[]/\a0.gy=none/\a0.dF=0:=by rw[<-ha0];exact⟨rfl,rfl,rfl⟩
    rw[ha0]at hDr DC
    clear ha0
    obtain⟨P0,hP0⟩:∃P0,oL (lK x.mask) none 0 (pG zD a0)=P0:=⟨_,rfl⟩
    rw[hP0]at DC
    obtain⟨S0,hS0⟩:∃S0,gU kk P0=S0:=⟨_,rfl⟩
    rw[hS0]at DC
    have ai0:=dX (P:=Tryz.prog) (aF c) qE Tryz.underlying41
    go_upto_region 27 with(first|(refine aI (.tmp 10) (ai0 _) ?_)|(go_at_call 31;refine(hDr _).mono ?_;rintro e w' ⟨rfl,hq⟩;obtain⟨v6,rfl⟩:=Wd.next _ hq;clear hq)|(refine fM (ah.new v6.w 37 aH.cells.toArray) rfl 37 (.tmp 15) (.tmp 105) a0.cells rfl rfl rfl (by kernel_rfl) (dL _) (Nat.le_refl 20) ?_))
    intro W hW hbel
    rw[bC _ _ (by rfl)]at hW
    have aJ:Q fZ W:=hbel _ _ v6.q.size (Q.trans v6.q (aO _ _ _))
    have hge:fZ.heap.size<=v6.w.heap.size:=v6.q.size
    generalize v6.w.heap.size=g15 at*
    clear hbel hDr ai0
    obtain⟨v,hv⟩:∃v:Wd fZ,W=v.w:=⟨⟨W,aJ⟩,rfl⟩
    rw[hv]at hW⊢
    clear hv aJ
    have cF:v.w.cell? ⟨g15,8,none⟩=some (.string a0.group):=hW.cell 8
    have fF:v.w.frozen? ⟨g15,8,none⟩=false:=hW.frozen 8
    go_upto_region 28 with(fail)
    obtain⟨V1,bG,hV1,ai1,-⟩:=nU (b:=pG zD a0) (t:= .string ⟨#[102,114,105,101,110,100,115]⟩) hge v.q hW (show 8+1<=20 by decide) (show splice a0.cells 8 [.string ⟨#[102,114,105,101,110,100,115]⟩]=(pG zD a0).cells from rfl)
    rw[bG]
    clear bG cF fF hW
    obtain⟨a1,ha1⟩:∃a1,pG zD a0=a1:=⟨_,rfl⟩
    rw[ha1]at hV1 hP0
    have hl1:a1.wraps=[]/\a1.gy=none/\a1.dF=0:=by rw[<-ha1];exact hl0
    clear ha1 hl0
    obtain⟨v6,hv6⟩:∃v:Wd fZ,V1=v.w:=⟨⟨V1,ai1⟩,rfl⟩
    rw[hv6]at hV1⊢
    clear hv6 ai1
    have uK:=fun y:Wd fZ=>Zm x.mask y.w (Dj.q y.q)
    unfold yR at uK
    have hLn:(lK x.mask).length<=4:=Vq x.mask 4
    obtain⟨L,hL⟩:∃L,lK x.mask=L:=⟨_,rfl⟩
    rw[hL]at uK hLn hP0
    have YZ:=hV1.lt
    generalize hnt:L.length=nt at*
    go_upto_region 29 with(first|(refine kR 22 81 (.tmp 107) (.tmp 108) b0 o0 nl lc j 8 rfl rfl rfl rfl Tryz.underlying22 (by kernel_rfl) Tryz.sizeOf81 hlt ?_)|(go_at_call 21;refine(uK _).mono ?_;rintro e w' ⟨TA,tc,rfl,ht1,ht2,pY,hq⟩;replace hV1:=hV1.q hq;have hs0:=v6.q.size;have cF:w'.cell? ⟨g15,9,none⟩=some (.slice a1.toA a1.to.length a1.toC):=hV1.cell 9;have fF:w'.frozen? ⟨g15,9,none⟩=false:=hV1.frozen 9;obtain⟨v7,rfl⟩:=Wd.next _ hq;clear hq))
    subst hnt
    clear uK
    obtain⟨p,hp⟩:∃p,oL L TA tc a1=p:=⟨_,rfl⟩
    obtain⟨V,bG,hV,aK,bJ⟩:=nU (b:=p) hge v7.q hV1 (show 9+1<=20 by decide) (show splice a1.cells 9 [.slice TA L.length tc]=p.cells from hp▸JA L TA tc a1)
    have hTR:dI v6.w.heap.size V TA 1 dP L:=pY.far fun b hb=>bJ b (by omega)
    rw[bG]
    clear bG cF fF hV1 pY bJ
    have hpP:aP p=aP P0:=by rw[<-hp,<-hP0];rfl
    obtain⟨hp1,hp2,hp3,yw,zC,Il⟩:p.to=L/\p.toA=TA/\p.toC=tc/\p.wraps=a1.wraps/\p.gy=a1.gy/\p.dF=a1.dF:=by rw[<-hp];exact⟨rfl,rfl,rfl,rfl,rfl,rfl⟩
    obtain⟨hq1,hq2,hq3⟩:=hl1
    have qp:bU V p:=⟨by rw[hp1,hp2];exact gB hTR.rows,by rw[yw,hq1];exact fun h=>absurd h (by decide),by rw[hp1,hp3];exact⟨ht1,ht2⟩,by rw[yw,Il,hq1,hq3];exact⟨Nat.le_refl 0,Nat.zero_le _⟩⟩
    have hn1:p.to.length<=1000000:=by rw[hp1];omega
    have hn2:p.wraps.length<=1000000:=by rw[yw,hq1];exact Nat.zero_le _
    have Hg:aP (gU kk p)=aP S0:=hS0▸Qg kk hpP
    have jo:=fun y:Wd V=>JE kk p y.w (Dj.q (Q.trans aK y.q)) hk1 hk2 (qp.q y.q) hn1 hn2
    clear hp1 hp2 hp3 yw zC Il hq1 hq2 hq3 hp hP0 hpP hS0 qp hn1 hn2 hTR
    have kX:=dX (P:=Tryz.prog) (au p) hV Tryz.underlying37
    have hLk:∀y:Wd V,(Instr.loadAt 66 (.pointer (some ⟨g11,0,none⟩))).run Tryz.prog y.w= .ok (.agg (bH kk)) y.w:=Wd.load (Gq.q aK).lt (ah.range (Gq.q aK)) Tryz.underlying66 rfl (by kernel_rfl)
    have ayS:=hV.lt
    obtain⟨v8,vI⟩:=Wd.first V
    rw[vI]
    clear vI
    go_upto_region 30 with(first|(refine aI (.tmp 11) (hLk _) ?_)|(refine aI (.tmp 15) (kX _) ?_)|(go_at_call 32;refine(jo _).mono ?_;rintro e w2 ⟨a2,rfl,hba,⟨hr1,hr2⟩,hI2,hq2⟩;obtain⟨v9,rfl⟩:=Wd.next _ hq2)|(refine eY (v9.blk hV) rfl 37 (.tmp 15) (.tmp 116) a2.cells rfl rfl rfl (by kernel_rfl) (dL _) (Nat.le_refl 20) ?_))
    intro X hX ai3 aaW
    rw[bC _ _ (by rfl)]at hX
    have jv:Q fZ X:=ai3 _ _ hge (Q.trans aK v9.q)
    have aat:=v8.q.size
    have hr1:=hr1.far (w':=X) fun b hb=>aaW b (by omega)
    have hr2:=hr2.far (w':=X) fun b hb=>aaW b (by omega)
    have haX:bU X a2:=⟨gB hr1.rows,lY hr2.rows,hI2.toC,hI2.dF⟩
    have ayT:=aK.size
    have hao:iy (g10::kE (some ⟨a,0,none⟩) D E) X a2:=iy.wE haX hr1 hr2 fun g hg2=>by have:=uY g hg2;omega
    replace hba:=hba.trans Hg
    clear ai3 aaW hr1 hr2 haX hI2 hq2 jo kX hLk hV Hg aK
    have hV:=hX
    clear hX
    have hfb:ig (aN c) S0=ig c a2:=KE c S0 a2 hba.symm
    have kW:=fun y:Wd X=>UD c a2 y.w (Dj.q (Q.trans jv y.q)) (KU.q (Q.trans jv y.q)) (hao.in.q y.q) hsz.short
    have AX:∀y:Wd X,(Instr.loadAt 41 (.pointer (some ⟨g10,0,none⟩))).run Tryz.prog y.w= .ok (.agg (aF c)) y.w:=Wd.load (qE.q jv).lt (ah.range (qE.q jv)) Tryz.underlying41 rfl (by kernel_rfl)
    have KX:=dX (P:=Tryz.prog) (au a2) hV Tryz.underlying37
    rw[hfb]at DC
    have EF:=Lib.hid DC
    clear DC hfb
    obtain⟨v0,hv0⟩:=Wd.first X
    rw[hv0]
    clear hv0
    cases hf:ig c a2
    ·rw[hf]at kW
     have HD1:Hid (aN c=(jg b (aN c) x es).1/\ts=ts++(jg b (aN c) x es).2.toList):=Lib.hid (by rw[EF.out,hf];exact⟨(Ci c).symm,(List.append_nil ts).symm⟩)
     have HM:=Lib.hid hM
     have EH:=Lib.hid hoc
     clear hf hM hoc
     go_wp2_with (first|(refine aI (.tmp 10) (AX _) ?_)|(refine aI (.tmp 15) (KX _) ?_)|(go_at_call 33;refine(kW _).mono ?_;rintro e w' ⟨rfl,hq⟩;obtain⟨v1,rfl⟩:=Wd.next _ hq;clear hq))
     exact N8 _ c E ec ts (HM.out.q' (Q.trans jv v1.q)) (qE.q (Q.trans jv v1.q)) (EH.out.q (Q.trans jv v1.q)) uI (Nat.le_refl _) (Nat.le_add_right _ 2) HD1.out.1 HD1.out.2
    ·rw[hf]at kW
     have hdo:=WB x es
     rw[EF.out,hf]at hdo
     obtain⟨vM,KW,hld⟩:Grew b (aN c) (dK (aN c) S0):=hdo
     have RQ:dK (aN c) S0=dK c a2:=by rw[Nw (aN c) c _ (Ci c)];exact Nv c S0 a2 hba.symm
     have hsa:jU a2:=by
      have hm:aP a2∈(dK c a2).acts:=List.mem_append_right _ (List.mem_singleton.2 rfl)
      rw[RQ]at vM
      have h:=wX (vM.right _ hm)
      have h1:a2.to.length<=64:=h.to
      have h2:a2.wraps.length<=64:=h.wraps
      exact⟨by omega,by omega⟩
     have hLo:=fun y:Wd X=>JQ c a2 y.w (Dj.q (Q.trans jv y.q)) (KU.q (Q.trans jv y.q)) (hao.in.q y.q) hsa (by omega)
     unfold FN at hLo
     have HD1:Hid (dK (aN c) S0=(jg b (aN c) x es).1/\ts=ts++(jg b (aN c) x es).2.toList):=Lib.hid (by rw[EF.out,hf];exact⟨rfl,(List.append_nil ts).symm⟩)
     have HM:=Lib.hid hM
     have EH:=Lib.hid hoc
     have HHD:=Lib.hid (And.intro vM hld)
     clear hf hM hoc KW hld vM
     go_wp2_with (first|(refine aI (.tmp 10) (AX _) ?_)|(refine aI (.tmp 15) (KX _) ?_)|(go_at_call 33;refine(kW _).mono ?_;rintro e w' ⟨rfl,hq⟩;obtain⟨v1,rfl⟩:=Wd.next _ hq;clear hq)|(go_at_call 25;refine(hLo _).mono ?_;rintro e w7 ⟨A7,n7,rfl,IV,IW,hq7⟩;obtain⟨v7,rfl⟩:=Wd.next _ hq7)|(refine eY (cs:=c.cells) (qE.q (Q.trans jv v7.q)) rfl 41 (.tmp 10) (.tmp 122) (dN c a2 A7 n7).cells rfl rfl rfl (by kernel_rfl) (nJ _) (Nat.le_refl 6) ?_))
     intro W8 IZ xG vJ
     rw[bC _ _ (by rfl)]at IZ
     have hs8:v7.w.heap.size<=W8.heap.size:=(xG 0 v7.w (Nat.zero_le _) (Below.refl _ _)).size
     have pF:Q fZ v1.w:=Q.trans jv v1.q
     have Gn:Q fZ v7.w:=Q.trans jv v7.q
     have IX:dw (g10::kE (some ⟨a,0,none⟩) D E) v7.w (dN c a2 A7 n7):=dw.long (EH.out.q pF) (hao.q v1.q) hq7 IV IW (fun g hg2=>Nat.lt_of_lt_of_le (uY g hg2) pF.size)
     have I5:dw (g10::kE (some ⟨a,0,none⟩) D E) W8 (dN c a2 A7 n7):=IX.far fun b hb=>vJ b fun e=>hb (e▸List.mem_cons_self ..)
     have KY:=HM.out.q' Gn
     have I4:iH w W8 [g10] (some ⟨a,0,none⟩) ca D cd E ec cs es ts:=KY.far (List.mem_singleton.2 rfl) (xG _ _ (by have:=HM.out.gl g10 (List.mem_singleton.2 rfl);omega) KY.q) hs8 vJ
     have RS:aN (dN c a2 A7 n7)=dK (aN c) S0:=by rw[Nu];exact RQ.symm
     have aaY:Own b (aN (dN c a2 A7 n7)):=by rw[RS];exact HHD.out.1
     have avu:(dN c a2 A7 n7).acts.length=c.acts.length+1:=by show(c.acts++[a2]).length=_;rw[List.length_append];rfl
     have aaZ:aN (dN c a2 A7 n7)=(jg b (aN c) x es).1:=RS.trans HD1.out.1
     have RN:=Lib.hid I4
     have RP:=Lib.hid I5
     clear IX xG vJ KY I4 I5 hLo kW AX KX IV IW hq7 pF Gn
     generalize dN c a2 A7 n7=d at*
     go_wp2_with fail
     exact N8 _ d E ec ts RN.out IZ RP.out aaY (by omega) (by omega) aaZ HD1.out.2
   ·have aaK:¬x.wish.do_=1:=beq_eq_false_iff_ne.1 hd1
    have aiZ:¬x.wish.do_=15:=beq_eq_false_iff_ne.1 RJ
    have DC:=auN b (aN c) x es hd1 RJ
    rw[auL,HKK.out]at DC
    have hls:=auM c x.wish es
    have hDr:=fun(y:World) (hy:Q fZ y)=>arn c x.wish D cd es y (Dj.q hy) (gB ((hM.early.rows kZ rfl).q hy)) (by omega) hxk.who hxk.what
    obtain⟨p,hp⟩:∃p,mP c x.wish es=p:=⟨_,rfl⟩
    rw[hp]at DC hls hDr
    clear hp
    obtain⟨S0,hS0⟩:∃S0,gU kk p=S0:=⟨_,rfl⟩
    have jo:=fun(y:World) (hy:Q fZ y)=>JE kk p y (Dj.q hy) hk1 hk2 (aiA hls y) (by rw[hls.1];exact Nat.zero_le _) (by rw[hls.2.2.2.1];exact Nat.zero_le _)
    rw[hS0]at DC jo
    unfold L9 at jo
    clear hS0 hls
    go_upto_region 12 with(fail)
    rename_i K13 ai5
    have aa0:∀(V:World) (a2:ak) (g16:Nat) {v12 v13 v14 v15 v17 v19 v20 v21 v22 v23 v24 v25 v26 v27 v28 v29 v30 v31 v32 v33 v34 v35 v36 v37 v38 v39 v40 v41 v42 v43 v44 v45 v46 v47 v48 v49 v50 v51 v52 v53 v54 v55 v56 v57 v58 v59 v60 v61 v62 v63 v64 v65 v66 v67 v68 v69 v70 v71 v72 v73 v74 v75 v76 v77 v78 v79 v80 v81 v82 v83 v84 v85 v86 v87 qF v89 qG v91 qH v93 qI qJ qK qL qM qN qO qP qQ qR qU v105 qV v107 qW v109 qX qY qZ ru rC rD rE v117 rF rG rH rJ rM rO v124 rP rQ v127 rU rV v130 v131 rW rX nZ og oh oq v138 v139 ou v141 oz v143 oC v145 v146 oD v148:Value},Q fZ V->ah V g16 37 a2.cells.toArray->aP a2=aP S0->iy (g10::kE (some ⟨a,0,none⟩) D E) V a2->K13 {tmps:= #[.slice (some ⟨b0,o0,none⟩) nl lc,undef, .slice none 0 0, .slice none 0 0, .slice (some ⟨a,0,none⟩) 4 ca, .slice D es.length cd, .slice E ts.length ec, .int .i64 (j:Int), .pointer (some ⟨g8,0,none⟩), .int .i64 (b:Int), .pointer (some ⟨g10,0,none⟩), .pointer (some ⟨g11,0,none⟩),v12,v13,v14,v15, .pointer (some ⟨g16,0,none⟩),v17, .slice (some ⟨a,0,none⟩) 4 ca,v19,v20,v21,v22,v23,v24,v25,v26,v27,v28,v29,v30,v31,v32,v33,v34,v35,v36,v37,v38,v39,v40,v41,v42,v43,v44,v45,v46,v47,v48,v49,v50,v51,v52,v53,v54,v55,v56,v57,v58,v59,v60,v61,v62,v63,v64,v65,v66,v67,v68,v69,v70,v71,v72,v73,v74,v75,v76,v77,v78,v79,v80,v81,v82,v83,v84,v85,v86,v87,qF,v89,qG,v91,qH,v93,qI,qJ,qK,qL,qM,qN,qO,qP,qQ,qR,qU,v105,qV,v107,qW,v109,qX,qY,qZ,ru,rC,rD,rE,v117,rF,rG,rH,rJ,rM,rO,v124,rP,rQ,v127,rU,rV,v130,v131,rW,rX,nZ,og,oh,oq,v138,v139,ou,v141,oz,v143,oC,v145,v146,oD,v148,undef,undef],defers:=[]} V:=by
     intro V a2 g16
     intros
     rename_i aK hV hba hao
     refine ai5 _ _ ?_
     clear ai5 hDr jo
     dsimp only
     have hfb:ig (aN c) S0=ig c a2:=KE c S0 a2 hba.symm
     have kW:=fun y:Wd V=>UD c a2 y.w (Dj.q (Q.trans aK y.q)) (KU.q (Q.trans aK y.q)) (hao.in.q y.q) hsz.short
     have AX:∀y:Wd V,(Instr.loadAt 41 (.pointer (some ⟨g10,0,none⟩))).run Tryz.prog y.w= .ok (.agg (aF c)) y.w:=Wd.load (qE.q aK).lt (ah.range (qE.q aK)) Tryz.underlying41 rfl (by kernel_rfl)
     have KX:=dX (P:=Tryz.prog) (au a2) hV Tryz.underlying37
     rw[hfb]at DC
     have EF:=Lib.hid DC
     clear DC hfb
     obtain⟨v0,hv0⟩:=Wd.first V
     rw[hv0]
     clear hv0
     cases hf:ig c a2
     ·rw[hf]at kW
      have HD1:Hid (aN c=(jg b (aN c) x es).1/\ts=ts++(jg b (aN c) x es).2.toList):=Lib.hid (by rw[EF.out,hf];exact⟨(Ci c).symm,(List.append_nil ts).symm⟩)
      have HM:=Lib.hid hM
      have EH:=Lib.hid hoc
      clear hf hM hoc
      go_wp2_with (first|(refine aI (.tmp 10) (AX _) ?_)|(refine aI (.tmp 16) (KX _) ?_)|(go_at_call 33;refine(kW _).mono ?_;rintro e w' ⟨rfl,hq⟩;obtain⟨v1,rfl⟩:=Wd.next _ hq;clear hq))
      exact N8 _ c E ec ts (HM.out.q' (Q.trans aK v1.q)) (qE.q (Q.trans aK v1.q)) (EH.out.q (Q.trans aK v1.q)) uI (Nat.le_refl _) (Nat.le_add_right _ 2) HD1.out.1 HD1.out.2
     ·rw[hf]at kW
      have hdo:=WB x es
      rw[EF.out,hf]at hdo
      obtain⟨vM,KW,hld⟩:Grew b (aN c) (dK (aN c) S0):=hdo
      have RQ:dK (aN c) S0=dK c a2:=by rw[Nw (aN c) c _ (Ci c)];exact Nv c S0 a2 hba.symm
      have hsa:jU a2:=by
       have hm:aP a2∈(dK c a2).acts:=List.mem_append_right _ (List.mem_singleton.2 rfl)
       rw[RQ]at vM
       have h:=wX (vM.right _ hm)
       have h1:a2.to.length<=64:=h.to
       have h2:a2.wraps.length<=64:=h.wraps
       exact⟨by omega,by omega⟩
      have hLo:=fun y:Wd V=>JQ c a2 y.w (Dj.q (Q.trans aK y.q)) (KU.q (Q.trans aK y.q)) (hao.in.q y.q) hsa (by omega)
      unfold FN at hLo
      have HD1:Hid (dK (aN c) S0=(jg b (aN c) x es).1/\ts=ts++(jg b (aN c) x es).2.toList):=Lib.hid (by rw[EF.out,hf];exact⟨rfl,(List.append_nil ts).symm⟩)
      have HM:=Lib.hid hM
      have EH:=Lib.hid hoc
      have HHD:=Lib.hid (And.intro vM hld)
      clear hf hM hoc KW hld vM
      go_wp2_with (first|(refine aI (.tmp 10) (AX _) ?_)|(refine aI (.tmp 16) (KX _) ?_)|(go_at_call 33;refine(kW _).mono ?_;rintro e w' ⟨rfl,hq⟩;obtain⟨v1,rfl⟩:=Wd.next _ hq;clear hq)|(go_at_call 25;refine(hLo _).mono ?_;rintro e w7 ⟨A7,n7,rfl,IV,IW,hq7⟩;obtain⟨v7,rfl⟩:=Wd.next _ hq7)|(refine eY (cs:=c.cells) (qE.q (Q.trans aK v7.q)) rfl 41 (.tmp 10) (.tmp 52) (dN c a2 A7 n7).cells rfl rfl rfl (by kernel_rfl) (nJ _) (Nat.le_refl 6) ?_))
      intro W8 IZ xG vJ
      rw[bC _ _ (by rfl)]at IZ
      have hs8:v7.w.heap.size<=W8.heap.size:=(xG 0 v7.w (Nat.zero_le _) (Below.refl _ _)).size
      have pF:Q fZ v1.w:=Q.trans aK v1.q
      have Gn:Q fZ v7.w:=Q.trans aK v7.q
      have IX:dw (g10::kE (some ⟨a,0,none⟩) D E) v7.w (dN c a2 A7 n7):=dw.long (EH.out.q pF) (hao.q v1.q) hq7 IV IW (fun g hg2=>Nat.lt_of_lt_of_le (uY g hg2) pF.size)
      have I5:dw (g10::kE (some ⟨a,0,none⟩) D E) W8 (dN c a2 A7 n7):=IX.far fun b hb=>vJ b fun e=>hb (e▸List.mem_cons_self ..)
      have KY:=HM.out.q' Gn
      have I4:iH w W8 [g10] (some ⟨a,0,none⟩) ca D cd E ec cs es ts:=KY.far (List.mem_singleton.2 rfl) (xG _ _ (by have:=HM.out.gl g10 (List.mem_singleton.2 rfl);omega) KY.q) hs8 vJ
      have RS:aN (dN c a2 A7 n7)=dK (aN c) S0:=by rw[Nu];exact RQ.symm
      have aaY:Own b (aN (dN c a2 A7 n7)):=by rw[RS];exact HHD.out.1
      have avu:(dN c a2 A7 n7).acts.length=c.acts.length+1:=by show(c.acts++[a2]).length=_;rw[List.length_append];rfl
      have aaZ:aN (dN c a2 A7 n7)=(jg b (aN c) x es).1:=RS.trans HD1.out.1
      have RN:=Lib.hid I4
      have RP:=Lib.hid I5
      clear IX xG vJ KY I4 I5 hLo kW AX KX IV IW hq7 pF Gn
      generalize dN c a2 A7 n7=d at*
      go_wp2_with fail
      exact N8 _ d E ec ts RN.out IZ RP.out aaY (by omega) (by omega) aaZ HD1.out.2
    have hz0:Q fZ v5.w.drew:=v5.q.drew
    have fK:∀z,Q fZ z->(Instr.loadAt 66 (.pointer (some ⟨g11,0,none⟩))).run Tryz.prog z= .ok (.agg (bH kk)) z:=fun z hz=>Wd.load (P:=Tryz.prog) (ty:=66) (Gq.q hz).lt (ah.range (Gq.q hz)) Tryz.underlying66 rfl (by kernel_rfl) ⟨z,Q.refl _⟩
    have fC:∀z,Q fZ z->(Instr.loadAt 41 (.pointer (some ⟨g10,0,none⟩))).run Tryz.prog z= .ok (.agg (aF c)) z:=fun z hz=>Wd.load (P:=Tryz.prog) (ty:=41) (qE.q hz).lt (ah.range (qE.q hz)) Tryz.underlying41 rfl (by kernel_rfl) ⟨z,Q.refl _⟩
    have fW:∀z,Q fZ z->(Instr.loadAt 79 (.pointer (some ⟨g8,0,none⟩))).run Tryz.prog z= .ok (.agg (ND x.wish)) z:=fun z hz=>Wd.load (cs:=x.wish.cells) (P:=Tryz.prog) (ty:=79) (wJ.q hz).lt (ah.range (wJ.q hz)) Tryz.underlying79 rfl (by kernel_rfl) ⟨z,Q.refl _⟩
    refine uT (fun z=>Q fZ z) (by kernel_rfl) ?_
    refine V7 0 (.agg (bH kk)) rfl hz0 (fun z hz=>oV (fK z hz)) ?_
    try simp only[aax]
    refine V7 1 (.agg (aF c)) rfl hz0 (fun z hz=>oV (fC z hz)) ?_
    try simp only[aax]
    refine V7 2 (.agg (ND x.wish)) rfl hz0 (fun z hz=>oV (fW z hz)) ?_
    try simp only[aax]
    refine aS 3 (.slice D es.length cd) hz0 ?_
    try simp only[aax]
    refine kL 4 6 (fun K' hK'=> ?_) fun K' hK'=> ?_
    ·skip
     go_simp
     refine(hDr _ hz0).mono ?_
     rintro e z1 ⟨rfl,bM⟩
     have hz1:=Q.trans hz0 bM
     refine hK' _ _ hz1 ?_
     clear hK' K'
     try simp only[aax]
     refine kL 5 6 (fun K' hK'=> ?_) fun K' hK'=> ?_
     ·skip
      go_simp
      refine(jo _ hz1).mono ?_
      rintro e z2 ⟨a2,rfl,hbg,⟨RU,RV⟩,vK,hqg⟩
      have hz2:=Q.trans hz1 hqg
      have hsg:=(hz1).size
      refine hK' _ _ hz2 ?_
      clear hK' K'
      try simp only[aax]
      refine aW 6 fun K' hK'=> ?_
      refine sG 37 _ rfl (Iy _) ?_
      have hb3:=ah.new z2 37 (au aH)
      have hz3:Q fZ (z2.alloc (.cells (au aH) 37)):=Q.trans hz2 (aO _ _ _)
      have hs3:=(hz2).size
      have Rt:=aO z2 (au aH) 37
      obtain⟨Ru,Gp⟩:∃g,z2.heap.size=g:=⟨_,rfl⟩
      have aaw:z2.heap.size<=Ru:=Nat.le_of_eq Gp
      rw[Gp]at hb3 hs3
      obtain⟨z3,Rw⟩:∃z',z2.alloc (.cells (au aH) 37)=z':=⟨_,rfl⟩
      rw[Rw]at hb3 hz3 Rt⊢
      refine hK' _ _ hz3 ?_
      clear hK' K' Rw
      try simp only[aax]
      rw[Gp]
      clear Gp
      refine aW 7 fun K' hK'=> ?_
      refine oJ hb3 37 (.tmp 16) (.tmp 46) a2.cells rfl rfl rfl (by kernel_rfl) (dL _) (Nat.le_refl 20) ?_
      intro V hV iD kD
      rw[bC _ _ (by rfl)]at hV
      have aK:Q fZ V:=iD _ _ hs3 hz3
      refine hK' _ _ aK ?_
      clear hK' K'
      try simp only[aax]
      refine wpAnyH_done (by kernel_rfl) ?_ _
      have Rx:=iD _ _ aaw Rt
      have hr1:=RU.q Rx
      have hr2:=RV.q Rx
      have ql:bU V a2:=⟨gB hr1.rows,lY hr2.rows,vK.toC,vK.dF⟩
      have xH:iy (g10::kE (some ⟨a,0,none⟩) D E) V a2:=iy.wE ql hr1 hr2 fun g hg2=>by have:=uY g hg2;omega
      exact aa0 V a2 Ru aK hV hbg xH
     ·skip
      refine sG 37 _ rfl (Iy _) ?_
      have hb4:=ah.new z1 37 (au aH)
      have lG:Q fZ (z1.alloc (.cells (au aH) 37)):=Q.trans hz1 (aO _ _ _)
      have hs4:=(hz1).size
      obtain⟨gb4,KP⟩:∃g,z1.heap.size=g:=⟨_,rfl⟩
      rw[KP]at hb4 hs4
      obtain⟨z4,Ry⟩:∃z',z1.alloc (.cells (au aH) 37)=z':=⟨_,rfl⟩
      rw[Ry]at hb4 lG⊢
      refine hK' _ _ lG ?_
      clear hK' K' Ry
      try simp only[aax]
      rw[KP]
      clear KP
      refine aW 5 fun K' hK'=> ?_
      go_simp
      refine(jo _ lG).mono ?_
      rintro e z5 ⟨a2,rfl,hbg,⟨RU,RV⟩,vK,hqg⟩
      have sU:=Q.trans lG hqg
      have hsg:=(lG).size
      have hb5:=hb4.q hqg
      have hlg:=hb4.lt
      refine hK' _ _ sU ?_
      clear hK' K'
      try simp only[aax]
      refine aW 7 fun K' hK'=> ?_
      refine oJ hb5 37 (.tmp 16) (.tmp 46) a2.cells rfl rfl rfl (by kernel_rfl) (dL _) (Nat.le_refl 20) ?_
      intro V hV iD kD
      rw[bC _ _ (by rfl)]at hV
      have aK:Q fZ V:=iD _ _ hs4 sU
      refine hK' _ _ aK ?_
      clear hK' K'
      try simp only[aax]
      refine wpAnyH_done (by kernel_rfl) ?_ _
      have hr1:=RU.far (w':=V) fun b hb=>kD b (by omega)
      have hr2:=RV.far (w':=V) fun b hb=>kD b (by omega)
      have ql:bU V a2:=⟨gB hr1.rows,lY hr2.rows,vK.toC,vK.dF⟩
      have xH:iy (g10::kE (some ⟨a,0,none⟩) D E) V a2:=iy.wE ql hr1 hr2 fun g hg2=>by have:=uY g hg2;omega
      exact aa0 V a2 gb4 aK hV hbg xH
    ·skip
     refine sG 37 _ rfl (Iy _) ?_
     have hb6:=ah.new v5.w.drew 37 (au aH)
     have lg:Q fZ (v5.w.drew.alloc (.cells (au aH) 37)):=Q.trans hz0 (aO _ _ _)
     have hs6:=(hz0).size
     obtain⟨gb6,KQ⟩:∃g,v5.w.drew.heap.size=g:=⟨_,rfl⟩
     rw[KQ]at hb6 hs6
     obtain⟨z6,RD⟩:∃z',v5.w.drew.alloc (.cells (au aH) 37)=z':=⟨_,rfl⟩
     rw[RD]at hb6 lg⊢
     refine hK' _ _ lg ?_
     clear hK' K' RD
     try simp only[aax]
     rw[KQ]
     clear KQ
     refine aW 4 fun K' hK'=> ?_
     go_simp
     refine(hDr _ lg).mono ?_
     rintro e z7 ⟨rfl,bM⟩
     have tu:=Q.trans lg bM
     have hb7:=hb6.q bM
     refine hK' _ _ tu ?_
     clear hK' K'
     try simp only[aax]
     refine aW 5 fun K' hK'=> ?_
     go_simp
     refine(jo _ tu).mono ?_
     rintro e z8 ⟨a2,rfl,hbg,⟨RU,RV⟩,vK,hqg⟩
     have qx:=Q.trans tu hqg
     have hsg:=(tu).size
     have hb8:=hb7.q hqg
     have hlg:=hb7.lt
     refine hK' _ _ qx ?_
     clear hK' K'
     try simp only[aax]
     refine aW 7 fun K' hK'=> ?_
     refine oJ hb8 37 (.tmp 16) (.tmp 46) a2.cells rfl rfl rfl (by kernel_rfl) (dL _) (Nat.le_refl 20) ?_
     intro V hV iD kD
     rw[bC _ _ (by rfl)]at hV
     have aK:Q fZ V:=iD _ _ hs6 qx
     refine hK' _ _ aK ?_
     clear hK' K'
     try simp only[aax]
     refine wpAnyH_done (by kernel_rfl) ?_ _
     have hr1:=RU.far (w':=V) fun b hb=>kD b (by omega)
     have hr2:=RV.far (w':=V) fun b hb=>kD b (by omega)
     have ql:bU V a2:=⟨gB hr1.rows,lY hr2.rows,vK.toC,vK.dF⟩
     have xH:iy (g10::kE (some ⟨a,0,none⟩) D E) V a2:=iy.wE ql hr1 hr2 fun g hg2=>by have:=uY g hg2;omega
     exact aa0 V a2 gb6 aK hV hbg xH
  ·obtain rfl:j=nl:=by omega
   have uO:¬((j:Int)<(j:Int)):=by omega
   have hts:ts=(vG l).texts:=by rw[HLK.out];exact Wv.out
   have hcE:cs.map aN=(vG l).cs:=by rw[HLK.out];exact Wu.out
   have HCE:=Lib.hid hcE
   clear hcE Wu HEe Wv
   subst hts
   have HM:=Lib.hid hM
   clear hM
   go_wp2_with fail
   exact bodyPost_ret (results_tmp2 rfl _ _ _) rfl ⟨A,ca,D,cd,E,ec,cs,es,rfl,HM.out,HCE.out⟩
end Rel
end Go.Proofs.YtbemmjnjoabadaaGreatDoor
