/- part 42 -/
import Derived.ArgAppend
import Derived.Test.YtbemmjnjoabadaaGreatDoorK38
import Derived.Test.YtbemmjnjoabadaaGreatDoorK40
import Derived.Test.YtbemmjnjoabadaaGreatDoorK41
set_option linter.unusedVariables false
set_option linter.unusedSimpArgs false
set_option maxHeartbeats 8000000
set_option maxRecDepth 100000
namespace Go.Proofs.YtbemmjnjoabadaaGreatDoor
namespace Rel
open Go.RowKit aQ Mem _root_.Go.Proofs.YtbemmjnjoabadaaGreatDoor.Code aY Sign _root_.Go.Proofs.YtbemmjnjoabadaaGreatDoor.Item _root_.Go.Proofs.YtbemmjnjoabadaaGreatDoor.Known _root_.Go.Proofs.YtbemmjnjoabadaaGreatDoor.bP
theorem awy(key:ByteArray)(b:bV.BN):(bV.nR key b).1.size<=b.2.1.size:=by
 unfold bV.nR
 split
 ·show(bV.wz key b.1 b.2.1).size<=_
  rw[bV.UN]
  exact Nat.le_refl _
 ·exact Nat.zero_le _
theorem awz(x:Int)(v:bQ):∀d∈nK x v,d.size<=v.d.size:=by
 intro d hd
 unfold nK at hd
 split at hd
 ·rename_i h
  rw[List.mem_singleton.1 hd]
  unfold bV.BP at h⊢
  split
  ·exact awy _ _
  ·exact Nat.zero_le _
 ·cases hd
theorem awC{i:Nat}{c:ay}(h:Own i (aN c))(x:Int):Zl c [x]:=by
 have hw:∀v:bQ,oH v=true->(1<=v.to/\v.to<=2305843009213693950)/\(1<=v.lV/\v.lV<=2305843009213693950)/\v.n.size=32/\v.d.size<=500:=fun v hv=>by
  unfold oH wP eU Bj tN at hv
  simp only[Bool.and_eq_true,decide_eq_true_eq]at hv
  exact⟨hv.1,hv.2.1,hv.2.2.1,hv.2.2.2.2⟩
 constructor
 ·intro a ha
  have s:=wX (h.aar a ha)
  have h1:=s.scope
  have h2:=s.epoch
  have h3:=s.group
  have h4:=s.body
  refine⟨⟨by omega,by omega,by omega,fun v hv=> ?_⟩,by omega⟩
  have h5:=hw v (s.each v hv)
  exact⟨⟨by omega,by omega⟩,⟨by omega,by omega⟩,by omega⟩
 ·intro a ha k d hd
  have s:=wX (h.aar a ha)
  unfold jk Kr at hd
  rw[List.flatMap_cons,List.flatMap_nil,List.append_nil]at hd
  rcases List.mem_append.1 hd with hd|hd
  ·unfold vk at hd
   split at hd
   ·rw[List.mem_singleton.1 hd,show(jY _ _ _ _).size=32 from yJ _]
    decide
   ·cases hd
  ·obtain⟨v,hv,hd⟩:=List.mem_flatMap.1 hd
   have h6:=awz x v d hd
   have h5:=hw v (s.each v hv)
   omega
structure Lc(l:List iG)(w w':World)(A E:Option Addr)(cs:List ay):Prop where
 q:Q w w'
 n4:cs.length=4
 chains:JL w' A cs
 texts:dS w' E 3 jH.cells (vG l).texts
 bare:cs.map aN=(vG l).cs
theorem Lc.mono{l:List iG}{w w1 w2:World}{A E:Option Addr}{cs:List ay}(h:Lc l w w1 A E cs)(hq:Q w1 w2):Lc l w w2 A E cs:=⟨Q.trans h.q hq,h.n4,h.chains.q hq,h.texts.q hq,h.bare⟩
theorem awD{l:List iG}{w w':World}{A D E:Option Addr}{ca cd ec:Nat}{cs:List ay}{es:List ByteArray}(h:iH w w' [] A ca D cd E ec cs es (vG l).texts)(hb:cs.map aN=(vG l).cs):Lc l w w' A E cs:=
 ⟨h.q,h.n4,⟨h.rows.rows (fun _=>rfl) h.n4.symm,fun c hc=>(h.off c hc).in⟩,h.texts.rows (fun _=>rfl) rfl,hb⟩
theorem Lc.own{l:List iG}{w w':World}{A E:Option Addr}{cs:List ay}(h:Lc l w w' A E cs)(i:Nat)(hi:i<4):Own i (aN (cs[i]'(by rw[h.n4];exact hi)))/\(cs[i]'(by rw[h.n4];exact hi)).acts.length<=1+2*l.length:=by
 have hl:i<cs.length:=by rw[h.n4];exact hi
 obtain⟨c,h1,h2,h3⟩:=(aij l).own i hi
 rw[<-h.bare,List.getElem?_map,List.getElem?_eq_getElem hl]at h1
 have h1:aN cs[i]=c:=by injection h1
 rw[<-h1]at h2 h3
 rw[ng]at h3
 exact⟨h2,h3⟩
theorem aw8(w:World):dS (w.alloc (.cells (pJ.flatMap iG.cells).toArray 81)) (some ⟨w.heap.size,0,none⟩) 8 iG.cells pJ:=fun _=>by
 have hb:=ah.new w 81 (pJ.flatMap iG.cells).toArray
 refine⟨w.heap.size,0,rfl,hb.lt,fun j hj i v hv=> ?_⟩
 have hr:=ah.range hb
 have hj:j<3:=hj
 have hi:i<8:=by
  have h2:(pJ[j]).cells.length=8:=rfl
  rcases Nat.lt_or_ge i 8 with h|h
  ·exact h
  ·rw[List.getElem?_eq_none (by omega)]at hv
   cases hv
 have h3:(pJ.flatMap iG.cells)[0+j*8+i]?=some v:=by
  rcases(by omega:j=0∨j=1∨j=2)with rfl|rfl|rfl
  all_goals
   rcases(by omega:i=0∨i=1∨i=2∨i=3∨i=4∨i=5∨i=6∨i=7)with rfl|rfl|rfl|rfl|rfl|rfl|rfl|rfl
   all_goals exact hv
 exact(hb.cell (0+j*8+i)).trans (by simpa using h3)
theorem aw9:∀x∈pJ,aix x:=by
 intro x hx
 have h:x=EI 1∨x=wL∨x=EI 2:=by simpa[pJ]using hx
 rcases h with rfl|rfl|rfl
 ·exact⟨⟨by decide,by decide⟩,⟨by decide,by decide⟩,⟨by decide,by decide⟩,⟨by decide,by decide⟩,by decide⟩
 ·exact⟨⟨by decide,by decide⟩,⟨by decide,by decide⟩,⟨by decide,by decide⟩,⟨by decide,by decide⟩,by decide⟩
 ·exact⟨⟨by decide,by decide⟩,⟨by decide,by decide⟩,⟨by decide,by decide⟩,⟨by decide,by decide⟩,by decide⟩
theorem axa(c:ay)(x:jH)(r:Nat):xB (aN c) x r=xB c x r:=by
 unfold xB
 rw[ZP,asW]
theorem axb{α:Type}:∀l:List α,l.length=4->∃a b c d,l=[a,b,c,d]
 |[a,b,c,d],_=>⟨a,b,c,d,rfl⟩
theorem abh(i:Nat):I64 (aG i).1:=by
 have h:=NT i
 exact⟨by omega,by omega⟩
theorem axc(k:Int×Int)(c:ay)(F:List ByteArray)(ps:List Int)(t time:Int):AY k (aN c) F ps t time=AY k c F ps t time:=by
 have hs:nN k (aN c)=nN k c:=by
  unfold nN
  rw[ng]
  rfl
 have ha:tC k (aN c) F ps t time=tC k c F ps t time:=by
  unfold tC keyS
  rw[hs,QU]
 unfold AY
 rw[ha]
theorem axd{i:Nat}{c:ay}(h:Own i (aN c)):eP c c.acts.length=some ⟨0,(aG i).2,0⟩:=by
 rw[<-QT]
 exact h.key _ (Nat.le_of_eq (ng c).symm)
theorem Sz(w:World):(Instr.alloc 37 true (.tuple #[])).run Tryz.prog w= .ok (.pointer (some ⟨w.heap.size,0,none⟩)) (w.alloc (.cells (au aH) 37)):=by kernel_rfl
theorem ajV(w:World):(Instr.alloc 41 true (.tuple #[])).run Tryz.prog w= .ok (.pointer (some ⟨w.heap.size,0,none⟩)) (w.alloc (.cells (aF fE) 41)):=by kernel_rfl
theorem axe{a s:ak}(h:aP a=aP s)(hr:bT s=true):jU a:=by
 have h1:=wX hr
 have h4:=h1.to
 have h5:=h1.wraps
 exact Ns h ⟨by omega,by omega⟩
theorem ajW{w0 w w':World}(hq:Q w0 w)(hg:w.grownBy w' none):Q w0 w':=Below.grown hq hg hq.size fun k hk=>by cases hk
theorem axf(l:List Int):l.flatMap Ap=l.map fun x=>Value.int .i64 x:=by
 induction l with
 |nil=>rfl
 |cons x l ih=>rw[List.flatMap_cons,List.map_cons,ih];rfl
theorem adI{w:World}{base n c:Nat}{e:TypeId}{A:Option Addr}{l:List Int}(h:aV w base e 1 (.slice A n c) n (l.map fun x=>Value.int .i64 x))(hn:n=l.length):Ints w A l:=
 bP.yQ (aV.rows (f:=Ap) (k:=1) Y6 (base:=base) (e:=e) (c:=c) (by rw[axf];exact h) hn)
theorem ajX(qs:List Int){c:ay}{a s:ak}{A:Option Addr}{n:Nat}(hb:aP a=aP s){r:Bool}(h:ug qs (aN (dN c a A n)) (c.acts.length:Nat)=r):ug qs (dN c a A n) (c.acts.length:Nat)=r:=by rw[<-asX];exact h
theorem ajY{c:ay}{a s:ak}{A:Option Addr}{n:Nat}(hb:aP a=aP s):(aN (dN c a A n)).acts[c.acts.length]?=some (aP s):=by
 show((c.acts++[a]).map aP)[c.acts.length]?=_
 rw[List.getElem?_map,List.getElem?_append_right (Nat.le_refl _),Nat.sub_self,<-hb]
 rfl
theorem ajZ{w:World}{g:Nat}{t:TypeId}{cs:List Value}(h:ah w g t cs.toArray):∀b,some (⟨g,0,none⟩:Addr)=some b->∀j u,cs[j]?=some u->w.cell? (b.add j)=some u:=by
 intro b e j u hu
 injection e with e
 subst e
 rw[Addr.add_lit]
 exact ah.range h j u hu
theorem axg(ps:List Int)(cs:List ay):xJ ps (cs.map aN)=xJ ps cs:=by
 have h1:∀c n,xI ps (aN c) n=xI ps c n:=fun c n=>by
  unfold xI
  simp only[ZP]
  rfl
 unfold xJ
 rw[List.flatMap_map]
 congr 1
 funext c
 rw[h1,ng]
theorem ay3(w:World)(hT:Tab w):Calls Tryz.prog 7 #[] w fun e w'=>e= .returned (.bool true)/\Q w w':=by
 have hmx:maxLen=9223372036854775807:=by decide
 obtain⟨i0,hi,jq,hz1,hz2⟩:=info_parts Vd
 obtain⟨C,hC⟩:=av6
 have hq0:=aO w (pJ.flatMap iG.cells).toArray 81
 have hL0:=auU (some ⟨w.heap.size,0,none⟩) 3 pJ _ (hT.q hq0) (aw8 w) (by decide) aw9
 unfold aiy at hL0
 rw[hC.texts]at hL0
 have hc4:(vG pJ).cs.length=4:=by rw[hC.cs];rfl
 have hL:Calls Tryz.prog 8 #[.slice (some ⟨w.heap.size,0,none⟩) 3 3] (w.alloc (.cells #[.int .i64 0, .int .i64 8, .int .i64 1, .int .i64 0, .string ⟨#[]⟩, .int .i64 0, .int .i64 0, .int .i64 0, .int .i64 0, .int .i64 1, .int .i64 0, .int .i64 0, .string ⟨#[104,101,108,108,111]⟩, .int .i64 0, .int .i64 1, .int .i64 0, .int .i64 0, .int .i64 8, .int .i64 2, .int .i64 0, .string ⟨#[]⟩, .int .i64 0, .int .i64 0, .int .i64 0] 81)) _:=hL0
 clear hL0
 go_enter Tryz.func7,Tryz.ntmps7
 go_upto_region 5 with(first|(go_at_call 8;refine hL.mono ?_;rintro e w1 ⟨CA,ca,D,cd,E,ec,cs,es,rfl,hM,hB⟩;clear hL))
 rw[<-hC.texts]at hM
 have Oe:=awD hM hB
 have hSt:Lc pJ w w1 CA E cs:=⟨Q.trans hq0 Oe.q,Oe.n4,Oe.chains,Oe.texts,Oe.bare⟩
 clear hM hB Oe hq0
 obtain⟨c,c1,c2,c3,rfl⟩:=axb cs hSt.n4
 have hbc:aN c=C:=by
  have h:=hSt.bare
  rw[hC.cs]at h
  injection h
 have hO:Own 0 (aN c):=(hSt.own 0 (by omega)).1
 obtain⟨ba,oa,rfl,hba,hca⟩:=hSt.chains.rows (Nat.zero_lt_succ 3)
 obtain⟨be,oe,rfl,hbe,hce⟩:=hSt.texts (by rw[hC.texts];exact Nat.one_pos)
 have hTx:=hce 0 (by rw[hC.texts];exact Nat.one_pos)
 rw[hC.texts]at hce
 have t0:∀y:Wd w1,y.w.cell? ⟨be,oe,none⟩=some (.int .i64 0):=fun y=>(y.q.cell (p:=⟨be,oe,none⟩) hbe).trans (by simpa using hce 0 Nat.one_pos 0 _ rfl)
 have t1:∀y:Wd w1,y.w.cell? ⟨be,oe+1,none⟩=some (.int .i64 3):=fun y=>(y.q.cell (p:=⟨be,oe+1,none⟩) hbe).trans (by simpa using hce 0 Nat.one_pos 1 _ rfl)
 have t2:∀y:Wd w1,y.w.cell? ⟨be,oe+2,none⟩=some (.string ⟨#[104,101,108,108,111]⟩):=fun y=>(y.q.cell (p:=⟨be,oe+2,none⟩) hbe).trans (by simpa[helloT]using hce 0 Nat.one_pos 2 _ rfl)
 have iw:=fun(r:Nat) (hr:r<4) (y:Wd w1)=>ar1 (some ⟨ba,oa,none⟩) ca [c,c1,c2,c3] ⟨0,3,helloT⟩ 0 r y.w (hT.q (Q.trans hSt.q y.q)) (hSt.chains.q y.q) rfl (by simp) (by simp) (by omega) (awC hO _) (abh r)
 have hRe:=fun(r:Nat) (hr:r<4)=>ajz hC r hr
 rw[<-hbc]at hRe
 simp only[axa]at hRe
 have hR1:=iw 1 (by omega)
 have hR2:=iw 2 (by omega)
 have hR0:=iw 0 (by omega)
 obtain⟨f1,f2,f3,f4⟩:=hRe 1 (by omega)
 obtain⟨g1,g2,-,-⟩:=hRe 2 (by omega)
 obtain⟨k1,k2,-,-⟩:=hRe 0 (by omega)
 replace f3:=f3 rfl
 simp only[List.getElem_cons_zero]at hR1 hR2 hR0
 rw[f1,f2,f3]at hR1
 rw[g1,g2]at hR2
 rw[k1,k2]at hR0
 generalize (xB c ⟨0,3,helloT⟩ 2).2.2=v2 at hR2
 generalize (xB c ⟨0,3,helloT⟩ 0).2.2=v0 at hR0
 have hRN:=fun y:Wd w1=>aei c none 0 [] 3 y.w ((hSt.chains.each c (List.mem_cons_self ..)).q y.q) (fun h=>absurd h (by decide)) (fun x hx=>by cases hx) (Nat.zero_le _)
 rw[ZP]at f4
 rw[show iZ []=[]from rfl,f4]at hRN
 clear f1 f2 f3 f4 g1 g2 k1 k2 iw hRe hTx hce
 have hcl:c.acts.length=5:=by rw[<-ng,hbc];exact hC.len
 have tH:=(ajs 14).2
 have hF:∀d∈lK 14,jL d:=aah 14
 obtain⟨hn1,hn2,hn3⟩:=awx
 have hpl:=VX (lK 14) hF
 have hpb:=VY (lK 14) hF
 obtain⟨s,hsR,hsI⟩:=awh hO (by omega) (by rw[ng];omega) (lK 14) 2 5 tH hF (by decide+kernel) (by rw[hn3];decide+kernel)
 rw[axc]at hsR
 have hky:=axd hO
 have hrk:=vH 0
 have hq1:=U9 0
 have hq2:=Qc 0
 have hpz:c.prev.size<=100000:=by have h:c.prev.size=32:=hO.prev;omega
 have WX:=fun(qs:List Int) (d:ay) (j:Nat) (hd:d.acts[j]?=some (aP s))=>awi qs hsI d j hd
 have hsr:=hsI.right
 have axh:=awv hC
 have hI1:=abh 1
 have xE:=abh 3
 have hK0:∀y:Wd w1,Calls Tryz.prog 23 #[.int .i64 0] y.w fun e w'=>e= .returned (.agg (bH (aG 0)))/\Q y.w w':=fun y=>Ib 0 y.w (hT.q (Q.trans hSt.q y.q)) (by omega)
 have hK1:∀y:Wd w1,Calls Tryz.prog 23 #[.int .i64 1] y.w fun e w'=>e= .returned (.agg (bH (aG 1)))/\Q y.w w':=fun y=>Ib 1 y.w (hT.q (Q.trans hSt.q y.q)) (by omega)
 have hK3:∀y:Wd w1,Calls Tryz.prog 23 #[.int .i64 3] y.w fun e w'=>e= .returned (.agg (bH (aG 3)))/\Q y.w w':=fun y=>Ib 3 y.w (hT.q (Q.trans hSt.q y.q)) (by omega)
 clear hsI hO hF
 generalize aG 0=kk at*
 generalize aG 1=ka at*
 generalize aG 3=kb at*
 have aj0:∀y:Wd w1,Calls Tryz.prog 12 #[.slice (some ⟨ba,oa,none⟩) 4 ca, .agg #[.int .i64 0, .int .i64 3, .string ⟨#[104,101,108,108,111]⟩], .int .i64 1] y.w fun e w'=>e= .returned (.tuple #[.bool true, .bool true, .bool true])/\Q y.w w':=hR1
 have aj1:∀y:Wd w1,Calls Tryz.prog 12 #[.slice (some ⟨ba,oa,none⟩) 4 ca, .agg #[.int .i64 0, .int .i64 3, .string ⟨#[104,101,108,108,111]⟩], .int .i64 2] y.w fun e w'=>e= .returned (.tuple #[.bool false, .bool false, .bool v2])/\Q y.w w':=hR2
 have aj2:∀y:Wd w1,Calls Tryz.prog 12 #[.slice (some ⟨ba,oa,none⟩) 4 ca, .agg #[.int .i64 0, .int .i64 3, .string ⟨#[104,101,108,108,111]⟩], .int .i64 0] y.w fun e w'=>e= .returned (.tuple #[.bool true, .bool true, .bool v0])/\Q y.w w':=hR0
 clear hR1 hR2 hR0
 obtain⟨v,hv⟩:=Wd.first w1
 rw[hv]
 clear hv
 go_upto_region 9 with(first|(go_at_call 12;(first|with_reducible refine(aj0 _).mono ?_|with_reducible refine(aj1 _).mono ?_|with_reducible refine(aj2 _).mono ?_);rintro e w' ⟨rfl,hq⟩;obtain⟨v1,rfl⟩:=Wd.next _ hq;clear hq)|(go_at_call 23;refine(hK0 _).mono ?_;rintro e w' ⟨rfl,hq⟩;obtain⟨v5,rfl⟩:=Wd.next _ hq;clear hq)|(refine fM (cs:=[.int .i64 0, .int .i64 0]) (ah.new v5.w 66 #[.int .i64 0, .int .i64 0]) rfl 66 (.tmp 13) (.tmp 67) [.int .i64 kk.1, .int .i64 kk.2] rfl rfl rfl (by kernel_rfl) (by simp[Value.oneCell']) (Nat.le_refl 2) ?_))
 intro W13 SB aj6
 rw[bC _ _ (by rfl)]at SB
 have wH:Q w1 W13:=aj6 _ _ v5.q.size (Q.trans v5.q (aO _ _ _))
 generalize v5.w.heap.size=g13 at*
 clear aj6 aj0 aj1 aj2 hK0
 go_upto_region 9 with(fail)
 obtain⟨W,fO⟩:∃W,W13=W:=⟨_,rfl⟩
 rw[fO]at SB wH⊢
 clear fO
 obtain⟨F,hFe⟩:∃F,lK 14=F:=⟨_,rfl⟩
 have uK:=fun(y:World) (hy:Q W y)=>Zm 14 y (hT.q (Q.trans hSt.q (Q.trans wH hy)))
 rw[hFe]at uK tH hn1 hn2 hn3 hpl hpb hsR WX
 unfold yR at uK
 have uJ:=fun(GA:Option Addr) (gc:Nat) (y:World) (hy:Q W y) (hS:Strs y GA F)=>afL GA gc F y (hT.q (Q.trans hSt.q (Q.trans wH hy))) hS (by omega)
 unfold Ve at uJ
 have KU:=hSt.chains.each c (List.mem_cons_self ..)
 have Gu:=fun(FA:Option Addr) (fc:Nat) (PA:Option Addr) (pc:Nat) (y:World) (hy:Q W y) (hS:Strs y FA F) (hP:Ints y PA (dZ F))=>XG kk c FA fc F PA pc (dZ F) 2 5 y (hT.q (Q.trans hSt.q (Q.trans wH hy))) (KU.q (Q.trans wH hy)) (by omega) hS tH hP hpl (by omega) hpb hq1 hq2 hpz hky hrk
 rw[hsR]at Gu
 unfold Eb at Gu
 dsimp only at Gu
 have Gh:∀y:Wd w1,(Instr.loadAt 41 (.pointer (some ⟨ba,oa+0*6,none⟩))).run Tryz.prog y.w= .ok (.agg (aF c)) y.w:=Wd.load (P:=Tryz.prog) (ty:=41) hba (hca 0 (Nat.zero_lt_succ 3)) Tryz.underlying41 rfl (by kernel_rfl)
 have fC:∀z,Q W z->(Instr.loadAt 41 (.pointer (some ⟨ba,oa+0*6,none⟩))).run Tryz.prog z= .ok (.agg (aF c)) z:=fun z hz=>Gh ⟨z,Q.trans wH hz⟩
 have fK:∀z,Q W z->(Instr.loadAt 66 (.pointer (some ⟨g13,0,none⟩))).run Tryz.prog z= .ok (.agg (bH kk)) z:=fun z hz=>Wd.load (P:=Tryz.prog) (ty:=66) SB.lt (ah.range (cs:=[.int .i64 kk.1, .int .i64 kk.2]) SB) Tryz.underlying66 rfl (by kernel_rfl) ⟨z,hz⟩
 generalize dZ F=ps at*
 have HN1:=Lib.hid hn1
 have HN2:=Lib.hid hn2
 clear hn1 hn2 hn3 hFe hsR hpb hpl tH hky hrk hpz
 rename_i K9 hK9
 have uH:∀(V:World) (a2:ak) (gb:Nat) {v0 v1 v9 v12 v13 v16 v17 v18 v19 v20 v21 v22 v23 v24 v25 v26 v27 v28 v29 v30 v31 v32 v33 v34 v35 v36 v37 v38 v39 v40 v41 v42 v43 v44 v45 v46 v47 v48 v49 v50 v51 v52 v53 v54 v55 v56 v57 v58 v59 v60 v61 v62 v63 v64 v65 v66 v67 v68 v69 v70 v71 v72 v73 v74 v75 v76 v77 v78 v79 v80 v81 v82 v83 v84 v85 v86 v87 qF v89 qG v91 qH v93 qI qJ qK qL qM qN qO qP qQ qR qU v105 qV v107 qW v109 qX qY qZ ru rC rD rE v117 rF rG rH rJ rM rO v124 rP rQ v127 rU rV v130 v131 rW rX nZ og oh oq v138 v139 ou v141 oz v143 oC v145 v146 oD v148 I7 I8 I9:Value},Q W V->ah V gb 37 a2.cells.toArray->aP a2=aP s->bU V a2->K9 {tmps:= #[v0,v1, .slice (some ⟨ba,oa,none⟩) 4 ca, .slice (some ⟨be,oe,none⟩) 1 ec, .bool true, .bool true, .bool true, .bool false, .bool false,v9, .bool true, .bool true,v12,v13, .pointer (some ⟨gb,0,none⟩), .int .i64 0,v16,v17,v18,v19,v20,v21,v22,v23,v24,v25,v26,v27,v28,v29,v30,v31,v32,v33,v34,v35,v36,v37,v38,v39,v40,v41,v42,v43,v44,v45,v46,v47,v48,v49,v50,v51,v52,v53,v54,v55,v56,v57,v58,v59,v60,v61,v62,v63,v64,v65,v66,v67,v68,v69,v70,v71,v72,v73,v74,v75,v76,v77,v78,v79,v80,v81,v82,v83,v84,v85,v86,v87,qF,v89,qG,v91,qH,v93,qI,qJ,qK,qL,qM,qN,qO,qP,qQ,qR,qU,v105,qV,v107,qW,v109,qX,qY,qZ,ru,rC,rD,rE,v117,rF,rG,rH,rJ,rM,rO,v124,rP,rQ,v127,rU,rV,v130,v131,rW,rX,nZ,og,oh,oq,v138,v139,ou,v141,oz,v143,oC,v145,v146,oD,v148,I7,I8,I9],defers:=[]} V:=by
  intro V a2 gb
  intros
  rename_i aK hBg hb2 hA2
  refine hK9 _ _ ?_
  clear hK9 uK uJ Gu fK fC
  dsimp only
  have hq10:Q w1 V:=Q.trans wH aK
  obtain⟨W,rfl⟩:∃X,X=V:=⟨V,rfl⟩
  clear wH SB aK
  have fC:∀z,Q W z->(Instr.loadAt 41 (.pointer (some ⟨ba,oa+0*6,none⟩))).run Tryz.prog z= .ok (.agg (aF c)) z:=fun z hz=>Gh ⟨z,Q.trans hq10 hz⟩
  have fA:∀z,Q W z->(Instr.loadAt 37 (.pointer (some ⟨gb,0,none⟩))).run Tryz.prog z= .ok (.agg (au a2)) z:=fun z hz=>Wd.load (P:=Tryz.prog) (ty:=37) hBg.lt (ah.range hBg) Tryz.underlying37 rfl (by kernel_rfl) ⟨z,hz⟩
  have hsh:=axe hb2 hsr
  have WY:gX W c:=KU.q hq10
  have hLo:=fun(y:World) (hy:Q W y)=>JQ c a2 y (hT.q (Q.trans hSt.q (Q.trans hq10 hy))) (WY.q hy) (hA2.q hy) hsh (by omega)
  unfold FN at hLo
  go_upto_region 10 with(fail)
  rename_i K10 hK10
  have aj8:∀(V:World) (gd:Nat) (LA:Option Addr) (ln:Nat) {v0 v1 v9 v12 v13 v14 v17 v18 v19 v20 v21 v22 v23 v24 v25 v26 v27 v28 v29 v30 v31 v32 v33 v34 v35 v36 v37 v38 v39 v40 v41 v42 v43 v44 v45 v46 v47 v48 v49 v50 v51 v52 v53 v54 v55 v56 v57 v58 v59 v60 v61 v62 v63 v64 v65 v66 v67 v68 v69 v70 v71 v72 v73 v74 v75 v76 v77 v78 v79 v80 v81 v82 v83 v84 v85 v86 v87 qF v89 qG v91 qH v93 qI qJ qK qL qM qN qO qP qQ qR qU v105 qV v107 qW v109 qX qY qZ ru rC rD rE v117 rF rG rH rJ rM rO v124 rP rQ v127 rU rV v130 v131 rW rX nZ og oh oq v138 v139 ou v141 oz v143 oC v145 v146 oD v148 I7 I8 I9:Value},Q W V->ah V gd 41 (dN c a2 LA ln).cells.toArray->gX V (dN c a2 LA ln)->K10 {tmps:= #[v0,v1, .slice (some ⟨ba,oa,none⟩) 4 ca, .slice (some ⟨be,oe,none⟩) 1 ec, .bool true, .bool true, .bool true, .bool false, .bool false,v9, .bool true, .bool true,v12,v13,v14, .int .i64 0, .pointer (some ⟨gd,0,none⟩),v17,v18,v19,v20,v21,v22,v23,v24,v25,v26,v27,v28,v29,v30,v31,v32,v33,v34,v35,v36,v37,v38,v39,v40,v41,v42,v43,v44,v45,v46,v47,v48,v49,v50,v51,v52,v53,v54,v55,v56,v57,v58,v59,v60,v61,v62,v63,v64,v65,v66,v67,v68,v69,v70,v71,v72,v73,v74,v75,v76,v77,v78,v79,v80,v81,v82,v83,v84,v85,v86,v87,qF,v89,qG,v91,qH,v93,qI,qJ,qK,qL,qM,qN,qO,qP,qQ,qR,qU,v105,qV,v107,qW,v109,qX,qY,qZ,ru,rC,rD,rE,v117,rF,rG,rH,rJ,rM,rO,v124,rP,rQ,v127,rU,rV,v130,v131,rW,rX,nZ,og,oh,oq,v138,v139,ou,v141,oz,v143,oC,v145,v146,oD,v148,I7,I8,I9],defers:=[]} V:=by
   intro V gd LA ln
   intros
   rename_i aK hBd hId
   refine hK10 _ _ ?_
   clear hK10 hLo fC fA
   dsimp only
   have hq11:Q w1 V:=Q.trans hq10 aK
   have e1:=WX (iZ [ka.1]) _ _ (ajY (c:=c) (A:=LA) (n:=ln) hb2)
   have e2:=WX (iZ [ka.1,kb.1]) _ _ (ajY (c:=c) (A:=LA) (n:=ln) hb2)
   rw[HN1.out]at e1
   rw[HN2.out]at e2
   replace e1:=ajX _ hb2 e1
   replace e2:=ajX _ hb2 e2
   rw[hcl]at e1 e2
   have hdl:(dN c a2 LA ln).acts.length=6:=by show(c.acts++[a2]).length=6;rw[List.length_append,hcl];rfl
   generalize dN c a2 LA ln=d at*
   obtain⟨W,rfl⟩:∃X,X=V:=⟨V,rfl⟩
   clear WY aK hA2 hb2 hBg hsh hcl WX
   have d1:∀y:Wd W,y.w.cell? ⟨gd,1,none⟩=some (.slice d.aA 6 d.aC):=fun y=>by rw[<-hdl];exact(y.blk hBd).cell 1
   have hKa:∀y:Wd W,Calls Tryz.prog 23 #[.int .i64 1] y.w fun e w'=>e= .returned (.agg #[.int .i64 ka.1, .int .i64 ka.2])/\Q y.w w':=fun y=>hK1 ⟨y.w,Q.trans hq11 y.q⟩
   have hKb:∀y:Wd W,Calls Tryz.prog 23 #[.int .i64 3] y.w fun e w'=>e= .returned (.agg #[.int .i64 kb.1, .int .i64 kb.2])/\Q y.w w':=fun y=>hK3 ⟨y.w,Q.trans hq11 y.q⟩
   have hfa:=fun w=>NC 0 ka.1 ka.1 ka.2 w (.inl ⟨rfl,rfl⟩)
   have hfb:=fun w=>NC 0 kb.1 kb.1 kb.2 w (.inl ⟨rfl,rfl⟩)
   obtain⟨v,hv⟩:=Wd.first W
   rw[hv]
   clear hv
   go_upto_region 13 with(first|(go_at_call 23;refine(hKa _).mono ?_;rintro e w' ⟨rfl,hq⟩;obtain⟨v1,rfl⟩:=Wd.next _ hq;clear hq))
   have aj9:Ints (v1.w.alloc (.cells #[.int .i64 ka.1] 3)) (some ⟨v1.w.heap.size,0,none⟩) [ka.1]:=bP.yQ (dS.one v1.w 3 ka.1 _ rfl)
   have akb:=ah.new v1.w 3 #[.int .i64 ka.1]
   have yc:Q W (v1.w.alloc (.cells #[.int .i64 ka.1] 3)):=Q.trans v1.q (aO _ _ _)
   generalize v1.w.heap.size=gs at*
   generalize v1.w.alloc (.cells #[.int .i64 ka.1] 3)=W18 at*
   have akd:∀y:Wd W18,Calls Tryz.prog 23 #[.int .i64 3] y.w fun e w'=>e= .returned (.agg #[.int .i64 kb.1, .int .i64 kb.2])/\Q y.w w':=fun y=>hKb ⟨y.w,Q.trans yc y.q⟩
   obtain⟨v2,hv2⟩:=Wd.first W18
   rw[hv2]
   clear hv2 hKa hKb hfa
   go_upto_region 14 with(first|(go_at_call 23;refine(akd _).mono ?_;rintro e w' ⟨rfl,hq⟩;obtain⟨v3,rfl⟩:=Wd.next _ hq;clear hq)|(at_builtin;refine wpList_append_grows _ rfl (.tmp 91) (.tmp 94) 49 rfl 3 i0 _ 1 8 Tryz.underlying49 hi jq hz1 hz2 rfl (by decide) (some ⟨gs,0,none⟩) 1 1 [.int .i64 ka.1] rfl (fun h=>by cases h) rfl (ajZ ((v3.blk akb).q (aO _ _ _))) ⟨v3.w.heap.size,0,none⟩ 1 1 [.int .i64 kb.1] rfl rfl (ajZ (ah.new v3.w 3 #[.int .i64 kb.1]) _ rfl) (by simp[Value.oneCell']) (by decide) (by decide) (by decide) ?_))
   intro v9 w9 SC bW
   have SC:=aV.of SC
   obtain⟨A9,c9,rfl,-,-⟩:=SC.shape
   have qy:Ints w9 A9 [ka.1,kb.1]:=adI SC rfl
   have bD:Q W w9:=ajW (Q.trans yc (Q.trans v3.q (aO _ _ _))) bW
   have hA9:Ints w9 (some ⟨gs,0,none⟩) [ka.1]:=aj9.q (ajW (Q.trans v3.q (aO _ _ _)) bW)
   clear SC bW aj9 akb yc akd hfb
   have dD:Q w1 w9:=Q.trans hq11 bD
   have abl:gX w9 d:=hId.q bD
   have abm:ah w9 gd 41 d.cells.toArray:=hBd.q bD
   have ake:=hSt.mono dD
   have hx1:∀x∈[ka.1],I64 x:=fun x hx=>by rw[List.mem_singleton.1 hx];exact hI1
   have hx2:∀x∈[ka.1,kb.1],I64 x:=fun x hx=>by rcases List.mem_cons.1 hx with rfl|hx;exact hI1;rw[List.mem_singleton.1 hx];exact xE
   have hsp:xJ (iZ [ka.1]) [c,c1,c2,c3]=[⟨C.id,3⟩]:=by rw[<-axg,hSt.bare];exact axh
   have hlen:∀x∈[c,c1,c2,c3],x.acts.length<=100:=fun x hx=>by
    obtain⟨i,hi,e⟩:=List.getElem_of_mem hx
    have h:=(hSt.own i (by simpa using hi)).2
    rw[e]at h
    have h2:pJ.length=3:=rfl
    omega
   have hAl:=fun(y:World) (hy:Q w9 y)=>aw1 (some ⟨ba,oa,none⟩) (some ⟨gs,0,none⟩) ca 1 [c,c1,c2,c3] [ka.1] y (ake.chains.q hy) (hA9.q hy) hx1 (by simp) (by simp) hlen (by rw[hsp];exact List.pairwise_singleton ..)
   rw[hsp]at hAl
   have axk:∀y:World,Q w9 y->Calls Tryz.prog 17 #[.slice (some ⟨ba,oa,none⟩) 4 ca, .slice (some ⟨gs,0,none⟩) 1 1] y fun e w'=>∃(X:Option Addr) (k:Nat),e= .returned (.slice X 1 k)/\Q y w':=fun y hy=>(hAl y hy).mono fun e w' ⟨X,k,h1,_,_,_,h5⟩=>⟨X,k,h1,h5⟩
   have hc1:=e1
   have hc2:=e2
   have fR1:∀y:World,Q w9 y->Calls Tryz.prog 19 #[.agg (aF d), .slice (some ⟨gs,0,none⟩) 1 1, .int .i64 5] y fun e w'=>e= .returned (.bool false)/\Q y w':=fun y hy=>by
    have h:=ajU d (some ⟨gs,0,none⟩) 1 [ka.1] 5 y (abl.q hy) (hA9.q hy) hx1 (show 1<=maxLen by decide)
    rw[show ug (iZ [ka.1]) d 5=false from hc1]at h
    exact h
   have fR2:∀y:World,Q w9 y->Calls Tryz.prog 19 #[.agg (aF d), .slice A9 2 c9, .int .i64 5] y fun e w'=>e= .returned (.bool true)/\Q y w':=fun y hy=>by
    have h:=ajU d A9 c9 [ka.1,kb.1] 5 y (abl.q hy) (qy.q hy) hx2 (show 2<=maxLen by decide)
    rw[show ug (iZ [ka.1,kb.1]) d 5=true from hc2]at h
    exact h
   have fN:∀y:World,Q w9 y->Calls Tryz.prog 13 #[.agg (aF c), .slice none 0 0, .int .i64 3] y fun e w'=>e= .returned (.bool false)/\Q y w':=fun y hy=>hRN ⟨y,Q.trans dD hy⟩
   have fC:∀z,Q w9 z->(Instr.loadAt 41 (.pointer (some ⟨ba,oa+0*6,none⟩))).run Tryz.prog z= .ok (.agg (aF c)) z:=fun z hz=>Gh ⟨z,Q.trans dD hz⟩
   have fD:∀z,Q w9 z->(Instr.loadAt 41 (.pointer (some ⟨gd,0,none⟩))).run Tryz.prog z= .ok (.agg (aF d)) z:=fun z hz=>Wd.load (P:=Tryz.prog) (ty:=41) abm.lt (ah.range abm) Tryz.underlying41 rfl (by kernel_rfl) ⟨z,hz⟩
   have fT:∀z,Q w9 z->z.cell? ⟨be,oe+0*3+1,none⟩=some (.int .i64 3):=fun z hz=>by rw[show oe+0*3+1=oe+1 by omega];exact t1 ⟨z,Q.trans dD hz⟩
   clear hAl e1 e2 hc1 hc2 hlen hx1 hx2 hsp abl abm hA9 qy ake hRN t0 t1 t2 d1 hBd hId
   go_upto_region 14 with(fail)
   refine uT (fun z=>Q w9 z) (by kernel_rfl) ?_
   have hz0:Q w9 w9.drew:=(Q.refl _).drew
   refine aS 0 (.bool true) hz0 ?_
   try simp only[aax]
   refine aS 1 (.bool true) hz0 ?_
   try simp only[aax]
   refine oQ 2 (.bool true) hz0 ?_
   try simp only[aax]
   refine aS 3 (.bool true) hz0 ?_
   try simp only[aax]
   refine aS 4 (.bool true) hz0 ?_
   try simp only[aax]
   refine oQ 5 (.bool true) hz0 ?_
   try simp only[aax]
   refine aS 6 (.bool true) hz0 ?_
   try simp only[aax]
   refine aS 7 (.bool true) hz0 ?_
   try simp only[aax]
   refine oQ 8 (.bool false) hz0 ?_
   try simp only[aax]
   refine oQ 9 (.bool true) hz0 ?_
   try simp only[aax]
   refine aS 10 (.bool true) hz0 ?_
   try simp only[aax]
   refine aS 11 (.bool true) hz0 ?_
   try simp only[aax]
   refine oQ 12 (.bool false) hz0 ?_
   try simp only[aax]
   refine oQ 13 (.bool true) hz0 ?_
   try simp only[aax]
   refine aS 14 (.bool true) hz0 ?_
   try simp only[aax]
   refine aS 15 (.bool true) hz0 ?_
   try simp only[aax]
   refine oQ 16 (.bool true) hz0 ?_
   try simp only[aax]
   refine aS 17 (.bool true) hz0 ?_
   try simp only[aax]
   refine aS 18 (.bool true) hz0 ?_
   try simp only[aax]
   refine oQ 19 (.bool true) hz0 ?_
   try simp only[aax]
   refine aS 20 (.bool true) hz0 ?_
   try simp only[aax]
   refine aS 21 (.bool true) hz0 ?_
   try simp only[aax]
   refine oQ 22 (.slice (some ⟨ba,oa,none⟩) 4 ca) hz0 ?_
   try simp only[aax]
   refine Le 23 (.pointer (some ⟨ba,oa+0*6,none⟩)) rfl hz0 (fun z hz=>BK 24 41 (.tmp 118) (.const (.int .i64 0)) ba oa 4 ca 0 6 rfl rfl rfl Tryz.underlying24 (by kernel_rfl) Tryz.sizeOf41 (by decide)) ?_
   try simp only[aax]
   refine Le 24 (.agg (aF c)) rfl hz0 (fun z hz=>oV (fC z hz)) ?_
   try simp only[aax]
   refine oQ 25 (.slice (some ⟨be,oe,none⟩) 1 ec) hz0 ?_
   try simp only[aax]
   refine Le 26 (.pointer (some ⟨be,oe+0*3,none⟩)) rfl hz0 (fun z hz=>BK 25 29 (.tmp 121) (.const (.int .i64 0)) be oe 1 ec 0 3 rfl rfl rfl Tryz.underlying25 (by kernel_rfl) Tryz.sizeOf29 (by decide)) ?_
   try simp only[aax]
   refine oQ 27 (.pointer (some ⟨be,oe+0*3+1,none⟩)) hz0 ?_
   try simp only[aax]
   refine Le 28 (.int .i64 3) rfl hz0 (fun z hz=>oK Tryz.underlying3 (fT z hz)) ?_
   try simp only[aax]
   refine WW 29 fun K' hK'=> ?_
   go_simp
   refine(fN _ hz0).mono ?_
   rintro e y1 ⟨rfl,hq⟩
   have hy1:=Q.trans hz0 hq
   refine hK' _ _ hy1 ?_
   clear hK' K' hq
   try simp only[aax]
   refine oQ 30 (.bool true) hy1 ?_
   try simp only[aax]
   refine aS 31 (.bool true) hy1 ?_
   try simp only[aax]
   refine aS 32 (.bool true) hy1 ?_
   try simp only[aax]
   refine oQ 33 (.int .i64 0) hy1 ?_
   try simp only[aax]
   refine oQ 34 (.bool true) hy1 ?_
   try simp only[aax]
   refine aS 35 (.bool true) hy1 ?_
   try simp only[aax]
   refine aS 36 (.bool true) hy1 ?_
   try simp only[aax]
   refine Le 37 (.agg (aF d)) rfl hy1 (fun z hz=>oV (fD z hz)) ?_
   try simp only[aax]
   refine oQ 38 (.slice (some ⟨gs,0,none⟩) 1 1) hy1 ?_
   try simp only[aax]
   refine oQ 39 (.int .i64 5) hy1 ?_
   try simp only[aax]
   refine WW 40 fun K' hK'=> ?_
   go_simp
   refine(fR1 _ hy1).mono ?_
   rintro e y2 ⟨rfl,hq⟩
   have hy2:=Q.trans hy1 hq
   refine hK' _ _ hy2 ?_
   clear hK' K' hq
   try simp only[aax]
   refine oQ 41 (.bool true) hy2 ?_
   try simp only[aax]
   refine aS 42 (.bool true) hy2 ?_
   try simp only[aax]
   refine aS 43 (.bool true) hy2 ?_
   try simp only[aax]
   refine Le 44 (.agg (aF d)) rfl hy2 (fun z hz=>oV (fD z hz)) ?_
   try simp only[aax]
   refine oQ 45 (.slice A9 2 c9) hy2 ?_
   try simp only[aax]
   refine oQ 46 (.int .i64 5) hy2 ?_
   try simp only[aax]
   refine WW 47 fun K' hK'=> ?_
   go_simp
   refine(fR2 _ hy2).mono ?_
   rintro e y3 ⟨rfl,hq⟩
   have hy3:=Q.trans hy2 hq
   refine hK' _ _ hy3 ?_
   clear hK' K' hq
   try simp only[aax]
   refine aS 48 (.bool true) hy3 ?_
   try simp only[aax]
   refine aS 49 (.bool true) hy3 ?_
   try simp only[aax]
   refine oQ 50 (.slice (some ⟨ba,oa,none⟩) 4 ca) hy3 ?_
   try simp only[aax]
   refine oQ 51 (.slice (some ⟨gs,0,none⟩) 1 1) hy3 ?_
   try simp only[aax]
   refine WW 52 fun K' hK'=> ?_
   go_simp
   refine(axk _ hy3).mono ?_
   rintro e y4 ⟨X,k,rfl,hq⟩
   have hy4:=Q.trans hy3 hq
   refine hK' _ _ hy4 ?_
   clear hK' K' hq
   try simp only[aax]
   refine Le 53 (.int .i64 ((1:Nat):Int)) rfl hy4 (fun z hz=>aw7 (.tmp 148) 54 58 _ _ _ rfl rfl Tryz.underlying54) ?_
   try simp only[aax]
   refine oQ 54 (.bool true) hy4 ?_
   try simp only[aax]
   refine aS 55 (.bool true) hy4 ?_
   try simp only[aax]
   refine aS 56 (.bool true) hy4 ?_
   try simp only[aax]
   refine wpAnyH_done (by kernel_rfl) ?_ _
   go_wp2_with fail
   go_ret
   exact⟨rfl,Q.trans hSt.q (Q.trans dD hy4)⟩
  have hz0:Q W W.drew:=(Q.refl _).drew
  refine uT (fun z=>Q W z) (by kernel_rfl) ?_
  refine aS 0 (.slice (some ⟨ba,oa,none⟩) 4 ca) hz0 ?_
  try simp only[aax]
  refine V7 1 (.pointer (some ⟨ba,oa+0*6,none⟩)) rfl hz0 (fun z hz=>BK 24 41 (.tmp 79) (.const (.int .i64 0)) ba oa 4 ca 0 6 rfl rfl rfl Tryz.underlying24 (by kernel_rfl) Tryz.sizeOf41 (by decide)) ?_
  try simp only[aax]
  refine V7 2 (.agg (aF c)) rfl hz0 (fun z hz=>oV (fC z hz)) ?_
  try simp only[aax]
  refine V7 3 (.agg (au a2)) rfl hz0 (fun z hz=>oV (fA z hz)) ?_
  try simp only[aax]
  refine kL 4 5 (fun K' hK'=> ?_) fun K' hK'=> ?_
  ·skip
   go_simp
   refine(hLo _ hz0).mono ?_
   rintro e z1 ⟨LA,ln,rfl,⟨-,-,haC,-,-⟩,iw,hq⟩
   have hz1:=Q.trans hz0 hq
   have Vo:=(hz0).size
   refine hK' _ _ hz1 ?_
   clear hK' K' hq
   try simp only[aax]
   refine aW 5 fun K' hK'=> ?_
   refine sG 41 _ rfl (ajV _) ?_
   have hb2:=ah.new z1 41 (aF fE)
   have abo:=aO z1 (aF fE) 41
   have hz2:Q W (z1.alloc (.cells (aF fE) 41)):=Q.trans hz1 abo
   have hs2:=(hz1).size
   have hl2:=hb2.lt
   refine hK' _ _ hz2 ?_
   clear hK' K'
   try simp only[aax]
   obtain⟨gb,hgb⟩:∃g,z1.heap.size=g:=⟨_,rfl⟩
   have hge:=Nat.le_of_eq hgb
   rw[hgb]at hb2 hs2 hl2⊢
   clear hgb
   obtain⟨z2,hzz⟩:∃z',z1.alloc (.cells (aF fE) 41)=z':=⟨_,rfl⟩
   rw[hzz]at hb2 hz2 hl2 abo⊢
   clear hzz
   refine aW 6 fun K' hK'=> ?_
   refine oJ hb2 41 (.tmp 16) (.tmp 83) (dN c a2 LA ln).cells rfl rfl rfl (by kernel_rfl) (nJ _) (Nat.le_refl 6) ?_
   intro V hV iD kD
   rw[bC _ _ (by rfl)]at hV
   have aK:Q W V:=iD _ _ hs2 hz2
   refine hK' _ _ aK ?_
   clear hK' K'
   try simp only[aax]
   refine wpAnyH_done (by kernel_rfl) ?_ _
   replace iw:=iw.q (iD _ _ hge abo)
   have hcV:=WY.q aK
   have abp:gX V (dN c a2 LA ln):=⟨iw.rows,fun a ha=>(by rcases List.mem_append.1 ha with ha|ha;exact hcV.each a ha;rw[List.mem_singleton.1 ha];exact hA2.q aK),haC,hcV.keys,hcV.kC⟩
   exact aj8 V gb LA ln aK hV abp
  ·skip
   refine sG 41 _ rfl (ajV _) ?_
   have hb3:=ah.new W.drew 41 (aF fE)
   have akf:=aO W.drew (aF fE) 41
   have hz3:Q W (W.drew.alloc (.cells (aF fE) 41)):=Q.trans hz0 akf
   have hs3:=(hz0).size
   have hl3:=hb3.lt
   refine hK' _ _ hz3 ?_
   clear hK' K'
   try simp only[aax]
   obtain⟨gb,hgb⟩:∃g,W.drew.heap.size=g:=⟨_,rfl⟩
   have hge:=Nat.le_of_eq hgb
   rw[hgb]at hb3 hs3 hl3⊢
   clear hgb
   obtain⟨z3,hzz⟩:∃z',W.drew.alloc (.cells (aF fE) 41)=z':=⟨_,rfl⟩
   rw[hzz]at hb3 hz3 hl3 akf⊢
   clear hzz
   refine aW 4 fun K' hK'=> ?_
   go_simp
   refine(hLo _ hz3).mono ?_
   rintro e z4 ⟨LA,ln,rfl,⟨-,-,haC,-,-⟩,iw,hq⟩
   have lG:=Q.trans hz3 hq
   have Vo:=(hz3).size
   have ay4:=hb3.lt
   have hb4:=hb3.q hq
   refine hK' _ _ lG ?_
   clear hK' K' hq
   try simp only[aax]
   refine aW 6 fun K' hK'=> ?_
   refine oJ hb4 41 (.tmp 16) (.tmp 83) (dN c a2 LA ln).cells rfl rfl rfl (by kernel_rfl) (nJ _) (Nat.le_refl 6) ?_
   intro V hV iD kD
   rw[bC _ _ (by rfl)]at hV
   have aK:Q W V:=iD _ _ hs3 lG
   refine hK' _ _ aK ?_
   clear hK' K'
   try simp only[aax]
   refine wpAnyH_done (by kernel_rfl) ?_ _
   replace iw:=iw.far (w':=V) fun b hb=>kD b (by omega)
   have hcV:=WY.q aK
   have abp:gX V (dN c a2 LA ln):=⟨iw.rows,fun a ha=>(by rcases List.mem_append.1 ha with ha|ha;exact hcV.each a ha;rw[List.mem_singleton.1 ha];exact hA2.q aK),haC,hcV.keys,hcV.kC⟩
   exact aj8 V gb LA ln aK hV abp
 have hz0:Q W W.drew:=(Q.refl _).drew
 refine uT (fun z=>Q W z) (by kernel_rfl) ?_
 refine V7 0 (.agg (bH kk)) rfl hz0 (fun z hz=>oV (fK z hz)) ?_
 try simp only[aax]
 refine aS 1 (.slice (some ⟨ba,oa,none⟩) 4 ca) hz0 ?_
 try simp only[aax]
 refine V7 2 (.pointer (some ⟨ba,oa+0*6,none⟩)) rfl hz0 (fun z hz=>BK 24 41 (.tmp 70) (.const (.int .i64 0)) ba oa 4 ca 0 6 rfl rfl rfl Tryz.underlying24 (by kernel_rfl) Tryz.sizeOf41 (by decide)) ?_
 try simp only[aax]
 refine V7 3 (.agg (aF c)) rfl hz0 (fun z hz=>oV (fC z hz)) ?_
 try simp only[aax]
 refine kL 4 11 (fun K' hK'=> ?_) fun K' hK'=> ?_
 ·skip
  go_simp
  refine(uK _ hz0).mono ?_
  rintro e z1 ⟨FA,fc,rfl,hf1,hf2,hF,hq⟩
  have hz1:=Q.trans hz0 hq
  have Vo:=(hz0).size
  refine hK' _ _ hz1 ?_
  clear hK' K' hq
  try simp only[aax]
  refine kL 5 11 (fun K' hK'=> ?_) fun K' hK'=> ?_
  ·skip
   go_simp
   refine(uK _ hz1).mono ?_
   rintro e z2 ⟨GA,gc,rfl,hg1,hg2,hG,hq⟩
   have hz2:=Q.trans hz1 hq
   have hsz5:=(hz1).size
   replace hF:=hF.q hq
   refine hK' _ _ hz2 ?_
   clear hK' K' hq
   try simp only[aax]
   refine kL 6 11 (fun K' hK'=> ?_) fun K' hK'=> ?_
   ·skip
    go_simp
    refine(uJ GA gc _ hz2 (gB hG.rows)).mono ?_
    rintro e z3 ⟨PA,pc,rfl,hp1,hp2,hP,hq⟩
    have hz3:=Q.trans hz2 hq
    have abq:=(hz2).size
    replace hF:=hF.q hq
    replace hG:=hG.q hq
    refine hK' _ _ hz3 ?_
    clear hK' K' hq
    try simp only[aax]
    refine kL 7 11 (fun K' hK'=> ?_) fun K' hK'=> ?_
    ·skip
     go_simp
     refine(Gu FA fc PA pc _ hz3 (gB hF.rows) (bP.yQ hP.rows)).mono ?_
     rintro e z4 ⟨a2,rfl,hb2,⟨r1,r2⟩,hI2,hq⟩
     have lG:=Q.trans hz3 hq
     have WZ:=(hz3).size
     replace hF:=hF.q hq
     replace hP:=hP.q hq
     refine hK' _ _ lG ?_
     clear hK' K' hq
     try simp only[aax]
     refine aS 8 (.tuple #[.agg (au a2), .int .i64 0]) lG ?_
     try simp only[aax]
     refine aS 9 (.agg (au a2)) lG ?_
     try simp only[aax]
     refine aS 10 (.int .i64 0) lG ?_
     try simp only[aax]
     refine aW 11 fun K' hK'=> ?_
     refine sG 37 _ rfl (Sz _) ?_
     have hb5:=ah.new z4 37 (au aH)
     have Xa:=aO z4 (au aH) 37
     have sU:Q W (z4.alloc (.cells (au aH) 37)):=Q.trans lG Xa
     have hs5:=(lG).size
     have hl5:=hb5.lt
     refine hK' _ _ sU ?_
     clear hK' K'
     try simp only[aax]
     obtain⟨gb,hgb⟩:∃g,z4.heap.size=g:=⟨_,rfl⟩
     have hge:=Nat.le_of_eq hgb
     rw[hgb]at hb5 hs5 hl5⊢
     clear hgb
     obtain⟨z5,hzz⟩:∃z',z4.alloc (.cells (au aH) 37)=z':=⟨_,rfl⟩
     rw[hzz]at hb5 sU hl5 Xa⊢
     clear hzz
     refine aW 12 fun K' hK'=> ?_
     refine oJ hb5 37 (.tmp 14) (.tmp 77) a2.cells rfl rfl rfl (by kernel_rfl) (dL _) (Nat.le_refl 20) ?_
     intro V hV iD kD
     rw[bC _ _ (by rfl)]at hV
     have aK:Q W V:=iD _ _ hs5 sU
     refine hK' _ _ aK ?_
     clear hK' K'
     try simp only[aax]
     refine aS 13 (.int .i64 0) aK ?_
     try simp only[aax]
     refine wpAnyH_done (by kernel_rfl) ?_ _
     replace r1:=r1.q (iD _ _ hge Xa)
     replace r2:=r2.q (iD _ _ hge Xa)
     exact uH V a2 gb aK hV hb2 ⟨gB r1.rows,lY r2.rows,hI2.toC,hI2.dF⟩
    ·skip
     refine sG 37 _ rfl (Sz _) ?_
     have hb6:=ah.new z3 37 (au aH)
     have Xb:=aO z3 (au aH) 37
     have lg:Q W (z3.alloc (.cells (au aH) 37)):=Q.trans hz3 Xb
     have hs6:=(hz3).size
     have Rz:=hb6.lt
     replace hF:=hF.q Xb
     replace hP:=hP.q Xb
     refine hK' _ _ lg ?_
     clear hK' K'
     try simp only[aax]
     obtain⟨gb,hgb⟩:∃g,z3.heap.size=g:=⟨_,rfl⟩
     have hge:=Nat.le_of_eq hgb
     rw[hgb]at hb6 hs6 Rz⊢
     clear hgb
     obtain⟨z6,hzz⟩:∃z',z3.alloc (.cells (au aH) 37)=z':=⟨_,rfl⟩
     rw[hzz]at hb6 lg Rz Xb hF hP⊢
     clear hzz
     refine aW 7 fun K' hK'=> ?_
     go_simp
     refine(Gu FA fc PA pc _ lg (gB hF.rows) (bP.yQ hP.rows)).mono ?_
     rintro e z7 ⟨a2,rfl,hb2,⟨r1,r2⟩,hI2,hq⟩
     have tu:=Q.trans lg hq
     have WZ:=(lg).size
     replace hF:=hF.q hq
     replace hP:=hP.q hq
     have ay5:=hb6.lt
     have hb7:=hb6.q hq
     refine hK' _ _ tu ?_
     clear hK' K' hq
     try simp only[aax]
     refine aS 8 (.tuple #[.agg (au a2), .int .i64 0]) tu ?_
     try simp only[aax]
     refine aS 9 (.agg (au a2)) tu ?_
     try simp only[aax]
     refine aS 10 (.int .i64 0) tu ?_
     try simp only[aax]
     refine aW 12 fun K' hK'=> ?_
     refine oJ hb7 37 (.tmp 14) (.tmp 77) a2.cells rfl rfl rfl (by kernel_rfl) (dL _) (Nat.le_refl 20) ?_
     intro V hV iD kD
     rw[bC _ _ (by rfl)]at hV
     have aK:Q W V:=iD _ _ hs6 tu
     refine hK' _ _ aK ?_
     clear hK' K'
     try simp only[aax]
     refine aS 13 (.int .i64 0) aK ?_
     try simp only[aax]
     refine wpAnyH_done (by kernel_rfl) ?_ _
     replace r1:=r1.far (w':=V) fun b hb=>kD b (by omega)
     replace r2:=r2.far (w':=V) fun b hb=>kD b (by omega)
     exact uH V a2 gb aK hV hb2 ⟨gB r1.rows,lY r2.rows,hI2.toC,hI2.dF⟩
   ·skip
    refine sG 37 _ rfl (Sz _) ?_
    have hb8:=ah.new z2 37 (au aH)
    have Xc:=aO z2 (au aH) 37
    have qx:Q W (z2.alloc (.cells (au aH) 37)):=Q.trans hz2 Xc
    have hs8:=(hz2).size
    have ZY:=hb8.lt
    replace hF:=hF.q Xc
    replace hG:=hG.q Xc
    refine hK' _ _ qx ?_
    clear hK' K'
    try simp only[aax]
    obtain⟨gb,hgb⟩:∃g,z2.heap.size=g:=⟨_,rfl⟩
    have hge:=Nat.le_of_eq hgb
    rw[hgb]at hb8 hs8 ZY⊢
    clear hgb
    obtain⟨z8,hzz⟩:∃z',z2.alloc (.cells (au aH) 37)=z':=⟨_,rfl⟩
    rw[hzz]at hb8 qx ZY Xc hF hG⊢
    clear hzz
    refine aW 6 fun K' hK'=> ?_
    go_simp
    refine(uJ GA gc _ qx (gB hG.rows)).mono ?_
    rintro e z9 ⟨PA,pc,rfl,hp1,hp2,hP,hq⟩
    have zh:=Q.trans qx hq
    have abq:=(qx).size
    replace hF:=hF.q hq
    replace hG:=hG.q hq
    have ay6:=hb8.lt
    have iO:=hb8.q hq
    refine hK' _ _ zh ?_
    clear hK' K' hq
    try simp only[aax]
    refine aW 7 fun K' hK'=> ?_
    go_simp
    refine(Gu FA fc PA pc _ zh (gB hF.rows) (bP.yQ hP.rows)).mono ?_
    rintro e z10 ⟨a2,rfl,hb2,⟨r1,r2⟩,hI2,hq⟩
    have Au:=Q.trans zh hq
    have WZ:=(zh).size
    replace hF:=hF.q hq
    replace hP:=hP.q hq
    have ay7:=iO.lt
    have abf:=iO.q hq
    refine hK' _ _ Au ?_
    clear hK' K' hq
    try simp only[aax]
    refine aS 8 (.tuple #[.agg (au a2), .int .i64 0]) Au ?_
    try simp only[aax]
    refine aS 9 (.agg (au a2)) Au ?_
    try simp only[aax]
    refine aS 10 (.int .i64 0) Au ?_
    try simp only[aax]
    refine aW 12 fun K' hK'=> ?_
    refine oJ abf 37 (.tmp 14) (.tmp 77) a2.cells rfl rfl rfl (by kernel_rfl) (dL _) (Nat.le_refl 20) ?_
    intro V hV iD kD
    rw[bC _ _ (by rfl)]at hV
    have aK:Q W V:=iD _ _ hs8 Au
    refine hK' _ _ aK ?_
    clear hK' K'
    try simp only[aax]
    refine aS 13 (.int .i64 0) aK ?_
    try simp only[aax]
    refine wpAnyH_done (by kernel_rfl) ?_ _
    replace r1:=r1.far (w':=V) fun b hb=>kD b (by omega)
    replace r2:=r2.far (w':=V) fun b hb=>kD b (by omega)
    exact uH V a2 gb aK hV hb2 ⟨gB r1.rows,lY r2.rows,hI2.toC,hI2.dF⟩
  ·skip
   refine sG 37 _ rfl (Sz _) ?_
   have Ld:=ah.new z1 37 (au aH)
   have abr:=aO z1 (au aH) 37
   have zy:Q W (z1.alloc (.cells (au aH) 37)):=Q.trans hz1 abr
   have hs11:=(hz1).size
   have akg:=Ld.lt
   replace hF:=hF.q abr
   refine hK' _ _ zy ?_
   clear hK' K'
   try simp only[aax]
   obtain⟨gb,hgb⟩:∃g,z1.heap.size=g:=⟨_,rfl⟩
   have hge:=Nat.le_of_eq hgb
   rw[hgb]at Ld hs11 akg⊢
   clear hgb
   obtain⟨z11,hzz⟩:∃z',z1.alloc (.cells (au aH) 37)=z':=⟨_,rfl⟩
   rw[hzz]at Ld zy akg abr hF⊢
   clear hzz
   refine aW 5 fun K' hK'=> ?_
   go_simp
   refine(uK _ zy).mono ?_
   rintro e z12 ⟨GA,gc,rfl,hg1,hg2,hG,hq⟩
   have Ja:=Q.trans zy hq
   have hsz5:=(zy).size
   replace hF:=hF.q hq
   have ay8:=Ld.lt
   have WU:=Ld.q hq
   refine hK' _ _ Ja ?_
   clear hK' K' hq
   try simp only[aax]
   refine aW 6 fun K' hK'=> ?_
   go_simp
   refine(uJ GA gc _ Ja (gB hG.rows)).mono ?_
   rintro e z13 ⟨PA,pc,rfl,hp1,hp2,hP,hq⟩
   have EJ:=Q.trans Ja hq
   have abq:=(Ja).size
   replace hF:=hF.q hq
   replace hG:=hG.q hq
   have ay9:=WU.lt
   have WV:=WU.q hq
   refine hK' _ _ EJ ?_
   clear hK' K' hq
   try simp only[aax]
   refine aW 7 fun K' hK'=> ?_
   go_simp
   refine(Gu FA fc PA pc _ EJ (gB hF.rows) (bP.yQ hP.rows)).mono ?_
   rintro e xq ⟨a2,rfl,hb2,⟨r1,r2⟩,hI2,hq⟩
   have D6:=Q.trans EJ hq
   have WZ:=(EJ).size
   replace hF:=hF.q hq
   replace hP:=hP.q hq
   have aza:=WV.lt
   have axo:=WV.q hq
   refine hK' _ _ D6 ?_
   clear hK' K' hq
   try simp only[aax]
   refine aS 8 (.tuple #[.agg (au a2), .int .i64 0]) D6 ?_
   try simp only[aax]
   refine aS 9 (.agg (au a2)) D6 ?_
   try simp only[aax]
   refine aS 10 (.int .i64 0) D6 ?_
   try simp only[aax]
   refine aW 12 fun K' hK'=> ?_
   refine oJ axo 37 (.tmp 14) (.tmp 77) a2.cells rfl rfl rfl (by kernel_rfl) (dL _) (Nat.le_refl 20) ?_
   intro V hV iD kD
   rw[bC _ _ (by rfl)]at hV
   have aK:Q W V:=iD _ _ hs11 D6
   refine hK' _ _ aK ?_
   clear hK' K'
   try simp only[aax]
   refine aS 13 (.int .i64 0) aK ?_
   try simp only[aax]
   refine wpAnyH_done (by kernel_rfl) ?_ _
   replace r1:=r1.far (w':=V) fun b hb=>kD b (by omega)
   replace r2:=r2.far (w':=V) fun b hb=>kD b (by omega)
   exact uH V a2 gb aK hV hb2 ⟨gB r1.rows,lY r2.rows,hI2.toC,hI2.dF⟩
 ·skip
  refine sG 37 _ rfl (Sz _) ?_
  have SE:=ah.new W.drew 37 (au aH)
  have akh:=aO W.drew (au aH) 37
  have Ij:Q W (W.drew.alloc (.cells (au aH) 37)):=Q.trans hz0 akh
  have aki:=(hz0).size
  have akj:=SE.lt
  refine hK' _ _ Ij ?_
  clear hK' K'
  try simp only[aax]
  obtain⟨gb,hgb⟩:∃g,W.drew.heap.size=g:=⟨_,rfl⟩
  have hge:=Nat.le_of_eq hgb
  rw[hgb]at SE aki akj⊢
  clear hgb
  obtain⟨qg,hzz⟩:∃z',W.drew.alloc (.cells (au aH) 37)=z':=⟨_,rfl⟩
  rw[hzz]at SE Ij akj akh⊢
  clear hzz
  refine aW 4 fun K' hK'=> ?_
  go_simp
  refine(uK _ Ij).mono ?_
  rintro e Aj ⟨FA,fc,rfl,hf1,hf2,hF,hq⟩
  have JW:=Q.trans Ij hq
  have Vo:=(Ij).size
  have azb:=SE.lt
  have hb16:=SE.q hq
  refine hK' _ _ JW ?_
  clear hK' K' hq
  try simp only[aax]
  refine aW 5 fun K' hK'=> ?_
  go_simp
  refine(uK _ JW).mono ?_
  rintro e z17 ⟨GA,gc,rfl,hg1,hg2,hG,hq⟩
  have KC:=Q.trans JW hq
  have hsz5:=(JW).size
  replace hF:=hF.q hq
  have azc:=hb16.lt
  have akk:=hb16.q hq
  refine hK' _ _ KC ?_
  clear hK' K' hq
  try simp only[aax]
  refine aW 6 fun K' hK'=> ?_
  go_simp
  refine(uJ GA gc _ KC (gB hG.rows)).mono ?_
  rintro e JX ⟨PA,pc,rfl,hp1,hp2,hP,hq⟩
  have JY:=Q.trans KC hq
  have abq:=(KC).size
  replace hF:=hF.q hq
  replace hG:=hG.q hq
  have azd:=akk.lt
  have akl:=akk.q hq
  refine hK' _ _ JY ?_
  clear hK' K' hq
  try simp only[aax]
  refine aW 7 fun K' hK'=> ?_
  go_simp
  refine(Gu FA fc PA pc _ JY (gB hF.rows) (bP.yQ hP.rows)).mono ?_
  rintro e Nh ⟨a2,rfl,hb2,⟨r1,r2⟩,hI2,hq⟩
  have SG:=Q.trans JY hq
  have WZ:=(JY).size
  replace hF:=hF.q hq
  replace hP:=hP.q hq
  have aze:=akl.lt
  have axp:=akl.q hq
  refine hK' _ _ SG ?_
  clear hK' K' hq
  try simp only[aax]
  refine aS 8 (.tuple #[.agg (au a2), .int .i64 0]) SG ?_
  try simp only[aax]
  refine aS 9 (.agg (au a2)) SG ?_
  try simp only[aax]
  refine aS 10 (.int .i64 0) SG ?_
  try simp only[aax]
  refine aW 12 fun K' hK'=> ?_
  refine oJ axp 37 (.tmp 14) (.tmp 77) a2.cells rfl rfl rfl (by kernel_rfl) (dL _) (Nat.le_refl 20) ?_
  intro V hV iD kD
  rw[bC _ _ (by rfl)]at hV
  have aK:Q W V:=iD _ _ aki SG
  refine hK' _ _ aK ?_
  clear hK' K'
  try simp only[aax]
  refine aS 13 (.int .i64 0) aK ?_
  try simp only[aax]
  refine wpAnyH_done (by kernel_rfl) ?_ _
  replace r1:=r1.far (w':=V) fun b hb=>kD b (by omega)
  replace r2:=r2.far (w':=V) fun b hb=>kD b (by omega)
  exact uH V a2 gb aK hV hb2 ⟨gB r1.rows,lY r2.rows,hI2.toC,hI2.dF⟩
end Rel
end Go.Proofs.YtbemmjnjoabadaaGreatDoor
