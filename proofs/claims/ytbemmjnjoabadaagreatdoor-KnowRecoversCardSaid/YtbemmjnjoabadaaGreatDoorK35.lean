/- part 35 -/
import Derived.Test.YtbemmjnjoabadaaGreatDoorK27
import Derived.Test.YtbemmjnjoabadaaGreatDoorK31
set_option linter.unusedVariables false
set_option linter.unusedSimpArgs false
set_option maxHeartbeats 8000000
set_option maxRecDepth 100000
namespace Go.Proofs.YtbemmjnjoabadaaGreatDoor
namespace Rel
open Go.RowKit aQ Mem _root_.Go.Proofs.YtbemmjnjoabadaaGreatDoor.Code aY Sign _root_.Go.Proofs.YtbemmjnjoabadaaGreatDoor.Item _root_.Go.Proofs.YtbemmjnjoabadaaGreatDoor.Known _root_.Go.Proofs.YtbemmjnjoabadaaGreatDoor.bP
theorem as8(k:Int×Int)(c:ay)(scope:Int)(group:ByteArray)(A:Option Addr)(cc:Nat)(to:List ByteArray)(B:Option Addr)(d:Nat)(ps:List Int)(time:Int)(w:World)(hT:Tab w)(hI:gX w c)(hs:∀a∈c.acts,jU a)(hz:∀a∈c.acts,a.target.size<=maxLen)(hn:c.acts.length<=100000)(hto:Strs w A to)(htl:to.length<=100000)(htz:∀a∈c.acts,a.to.length<=100000)
 (hP:Ints w B ps) (hk1:k.1<=9223372036854775807) (hk2:k.2<=9223372036854775807) (hgz:group.size<=100000) (hE0: -1<=l9 c c.acts.length scope group) (hE1:l9 c c.acts.length scope group<=1000000)
 (hsc:1<=scope/\scope<=3) (hpl:ps.length=(iM c c.acts.length scope group to).length) (hpr:∀p∈ps,1<=p/\p<=2305843009213693950) (hml:(iM c c.acts.length scope group to).length<=64) (how:Am k c=true):
 Calls Tryz.prog 77 #[.agg (bH k), .agg (aF c), .int .i64 scope, .string group, .slice A to.length cc, .slice B ps.length d, .int .i64 time] w (Eb (zn k c scope group (iM c c.acts.length scope group to) ps time) w):=by
 have hmx:maxLen=9223372036854775807:=by decide
 obtain⟨i0,hi,hz0,hz1,hz2⟩:=info_parts X4
 obtain⟨w1,y1,hy1,hq1,hbk1⟩:=boxedB w 66 [.int .i64 k.1, .int .i64 k.2]
 have hy1:w.alloc (.cells (bH k) 66)=y1.w:=hy1
 obtain⟨w2,y2,hy2,hq2,hbk2⟩:=boxedB y1.w 41 c.cells
 have hy2:y1.w.alloc (.cells (aF c) 41)=y2.w:=hy2
 obtain⟨w3,y3,hy3,hq3,lJ⟩:=boxedB y2.w 37 aH.cells
 have hy3:y2.w.alloc (.cells #[.string ⟨#[]⟩, .int .i64 0, .string ⟨#[]⟩, .int .i64 0, .int .i64 0, .string ⟨#[]⟩, .string ⟨#[]⟩, .int .i64 0, .string ⟨#[]⟩, .slice none 0 0, .string ⟨#[]⟩, .string ⟨#[]⟩, .string ⟨#[]⟩, .string ⟨#[]⟩, .int .i64 0, .slice none 0 0, .int .i64 0, .int .i64 0, .int .i64 0, .int .i64 0] 37)=y3.w:=hy3
 have dR:Q w w3:=Q.trans (Q.trans (Q.trans hq1 y1.q) (Q.trans hq2 y2.q)) hq3
 have hB1:ah w3 w.heap.size 66 (bH k):=hbk1.q (Q.trans y1.q (Q.trans hq2 (Q.trans y2.q hq3)))
 have hB2:ah w3 y1.w.heap.size 41 c.cells.toArray:=hbk2.q (Q.trans y2.q hq3)
 have hwg:w.heap.size<=y2.w.heap.size:=(Q.trans (Q.trans hq1 y1.q) (Q.trans hq2 y2.q)).size
 have Gh:=dX (P:=Tryz.prog) (aF c) hB2 Tryz.underlying41
 have c1:=aB (.slice c.aA c.acts.length c.aC) hB2 1
 have hMe:=fun y:Wd w3=>YI c c.acts.length scope group A cc to y.w (hT.q (Q.trans dR y.q)) (hI.q (Q.trans dR y.q)) hs hz hn (hto.q (Q.trans dR y.q)) htl htz
 unfold yR at hMe
 obtain⟨nl,hnl⟩:∃nl,ps.length=nl:=⟨_,rfl⟩
 obtain⟨na,hna⟩:∃na,c.acts.length=na:=⟨_,rfl⟩
 generalize hL:iM c c.acts.length scope group to=L at*
 rw[hnl]at hpl⊢
 rw[hna]at c1 hMe
 rw[<-hpl]at hMe
 have MQ:=Lib.hid hpl
 have ahN:nl<=64:=by omega
 clear hpl
 have Gi:=Lib.hid hnl
 obtain⟨hsc1,hsc2⟩:=hsc
 have hNE:=arj c scope group hE1
 have QZ:=Lib.hid (show zl c scope group=if(bZ c c.acts.length scope group).2 then l9 c c.acts.length scope group+1 else 0 from rfl)
 have HQ:=Lib.hid dR
 generalize Hz:y1.w.heap.size=g8 at*
 generalize Zn:y2.w.heap.size=g14 at*
 clear hbk1 hbk2 hq1 hq2 hq3
 have xE:=hI.q dR
 have EC:=hT.q dR
 have hP3:=hP.q dR
 clear hT hI hto hP
 go_enter Tryz.func77,Tryz.ntmps77
 go_upto_region 5 with(first|(refine aI (.tmp 8) (Gh _) ?_)|(go_at_call 9;refine(hMe _).mono ?_;rintro e wm ⟨LA,lc,rfl,hl1,hl2,hRL,hqm⟩;clear hMe))
 have Gj:Q w3 wm:=Q.trans y3.q hqm
 have hRM:dI w3.heap.size wm LA 1 dP L:=hRL.low y3.q.size
 have hD1:ah wm w.heap.size 66 (bH k):=hB1.q Gj
 have hD2:ah wm g8 41 c.cells.toArray:=hB2.q Gj
 have hD3:ah wm g14 37 aH.cells.toArray:=lJ.q Gj
 have ZW:Q w wm:=Q.trans HQ.out Gj
 have ayv:w.heap.size<=w3.heap.size:=HQ.out.size
 have ZX:=xE.q Gj
 have hTm:=EC.q Gj
 have Iq:=hP3.q Gj
 have ayw:=lJ.lt
 have ZY:=hB2.lt
 have hl7:=hB1.lt
 have hms:=Gj.size
 clear hqm hRL Gj hB1 hB2 lJ HQ xE EC hP3 c1 Gh
 generalize w3.heap.size=s3 at*
 obtain⟨v0,hv0⟩:=Wd.first wm
 rw[hv0]
 clear hv0
 have hLk:=dX (P:=Tryz.prog) (bH k) hD1 Tryz.underlying66
 have cZ:=dX (P:=Tryz.prog) (aF c) hD2 Tryz.underlying41
 have uI:=fun y:Wd wm=>Y4 k c y.w (ZX.q y.q)
 rw[how]at uI
 have hDr:=fun y:Wd wm=>JH c 16 time y.w
 go_wp2_with fail
 go_loopw [54] (fun i wr=>∃(j:Nat) (z:Wd wm),i= .int .i64 j/\wr=z.w/\j<=nl) (fun i _=>nl-(intOf i).toNat)
 case atStart=>exact⟨0,v0,rfl,rfl,Nat.zero_le _⟩
 case round=>
  obtain⟨j,z,rfl,rfl,hj⟩:=hrel
  by_cases hlt:j<nl
  ·have dM:j<ps.length:=by rw[Gi.out];exact hlt
   have pX:(j:Int)<(nl:Int):=by omega
   have hpos:(0:Int)<=(j:Int):=by omega
   obtain⟨b,o,rfl,hb0,hcs⟩:=Iq (by omega)
   have hcx:∀y:Wd wm,y.w.cell? ⟨b,o+j,none⟩=some (.int .i64 ps[j]):=fun y=>(y.q.cell (p:=⟨b,o+j,none⟩) hb0).trans (hcs j dM)
   obtain⟨hp1,hp2⟩:=hpr _ (List.getElem_mem dM)
   clear hcs
   generalize ps[j]=p at*
   go_wp2_with fail
   exact⟨⟨j+1,z,by go_num,rfl,by omega⟩,by simp only[intOf];omega⟩
  ·obtain rfl:j=nl:=by omega
   have uO:¬((j:Int)<(j:Int)):=by omega
   have ayy:(j:Int)<=64:=by omega
   go_upto_region 15 with(first|(refine aI (.tmp 7) (hLk _) ?_)|(refine aI (.tmp 8) (cZ _) ?_)|(go_at_call 123;refine(uI _).mono ?_;rintro e w' ⟨rfl,hq⟩;obtain⟨v1,rfl⟩:=Wd.next _ hq;clear hq))
   obtain⟨a0,ha0⟩:∃a0,iW c 16 time=a0:=⟨_,rfl⟩
   rw[ha0]at hDr
   have HPR:=Lib.hid hpr
   clear uI hpr
   go_upto_region 16 with(first|(refine aI (.tmp 8) (cZ _) ?_)|(go_at_call 31;refine(hDr _).mono ?_;rintro e w5 ⟨rfl,hq5⟩;obtain⟨v5,rfl⟩:=Wd.next _ hq5;clear hq5)|(refine fM (ah.new v5.w 37 aH.cells.toArray) rfl 37 (.tmp 20) (.tmp 77) a0.cells rfl rfl rfl (by kernel_rfl) (dL _) (Nat.le_refl 20) ?_))
   intro W hW hbel
   rw[bC _ _ (by rfl)]at hW
   have aJ:Q wm W:=hbel _ _ v5.q.size (Q.trans v5.q (aO _ _ _))
   have hge:wm.heap.size<=v5.w.heap.size:=v5.q.size
   generalize v5.w.heap.size=g20 at*
   clear hbel hDr
   have cF:=aB (.int .i64 a0.scope) hW 7
   have fF:=bI hW 7
   obtain⟨v,hv⟩:=Wd.first W
   rw[hv]
   clear hv
   go_upto_region 17 with(fail)
   obtain⟨a1,ha1⟩:∃b,Ea scope a0=b:=⟨_,rfl⟩
   obtain⟨V,bG,hV,aK,-⟩:=nU (b:=a1) hge (Q.trans aJ v.q) (v.blk hW) (show 7+1<=20 by decide) (show splice a0.cells 7 [.int .i64 scope]=a1.cells from ha1▸Y8 scope a0)
   rw[bG]
   clear bG cF fF aJ hW
   obtain⟨W,rfl⟩:∃W,W=V:=⟨V,rfl⟩
   have hW:=hV
   have aJ:=aK
   clear hV aK
   have cF:=aB (.string a1.group) hW 8
   have fF:=bI hW 8
   obtain⟨v,hv⟩:=Wd.first W
   rw[hv]
   clear hv
   go_upto_region 18 with(fail)
   obtain⟨a2,ha2⟩:∃b,pG group a1=b:=⟨_,rfl⟩
   obtain⟨V,bG,hV,aK,-⟩:=nU (b:=a2) hge (Q.trans aJ v.q) (v.blk hW) (show 8+1<=20 by decide) (show splice a1.cells 8 [.string group]=a2.cells from ha2▸Y9 group a1)
   rw[bG]
   clear bG cF fF aJ hW
   obtain⟨W,rfl⟩:∃W,W=V:=⟨V,rfl⟩
   have hW:=hV
   have aJ:=aK
   clear hV aK
   have cF:=aB (.slice a2.toA a2.to.length a2.toC) hW 9
   have fF:=bI hW 9
   obtain⟨v,hv⟩:=Wd.first W
   rw[hv]
   clear hv
   go_upto_region 19 with(fail)
   obtain⟨a3,kV⟩:∃b,oL L LA lc a2=b:=⟨_,rfl⟩
   obtain⟨V,bG,hV,aK,-⟩:=nU (b:=a3) hge (Q.trans aJ v.q) (v.blk hW) (show 9+1<=20 by decide) (show splice a2.cells 9 [.slice LA j lc]=a3.cells from kV▸(show splice a2.cells 9 [.slice LA j lc]=(oL L LA lc a2).cells by rw[MQ.out];rfl))
   rw[bG]
   clear bG cF fF aJ hW
   obtain⟨W,rfl⟩:∃W,W=V:=⟨V,rfl⟩
   have hW:=hV
   have aJ:=aK
   clear hV aK
   have wu:=fun y:Wd wm=>YM c c.acts.length scope group y.w (ZX.q y.q) htz
   unfold ML at wu
   rw[hna]at wu hE0 hE1 QZ
   have h40:∀b,mD b a3=mD b a3:=fun _=>rfl
   have h30:mD 0 a3=a3:=by rw[<-kV,<-ha2,<-ha1,<-ha0];rfl
   have h3w:∀b,iF [] none 0 (mD b a3)=mD b a3:=fun b=>by rw[<-kV,<-ha2,<-ha1,<-ha0];rfl
   have Q5:Hid (∀b ws A n,aP (iF ws A n (mD b a3))=iF ws none 0 (mD b (oL L none 0 (pG group (Ea scope (iW c 16 time)))))):=Lib.hid (fun b ws A n=>by rw[<-kV,<-ha2,<-ha1,<-ha0];rfl)
   have Q7:Hid (∀b ws A n,(iF ws A n (mD b a3)).toA=LA/\(iF ws A n (mD b a3)).to=L/\(iF ws A n (mD b a3)).toC=lc):=Lib.hid (fun b ws A n=>by rw[<-kV];exact⟨rfl,rfl,rfl⟩)
   clear ha0 ha1 ha2 kV h40
   generalize l9 c (na:Int) scope group=E at*
   generalize vZ c (na:Int) scope group=EL at*
   generalize bZ c (na:Int) scope group=gk at*
   obtain⟨gi,ok⟩:=gk
   dsimp only at wu QZ
   generalize hnx:zl c scope group=NE at*
   have ahR:=Lib.hid hnx
   clear hnx
   have tq:=hLk
   cases ok
   case' false=>
    have hne:NE=0:=by rw[QZ.out];rfl
    rw[<-h30]at hW
    rw[<-hne]at hW
    obtain⟨v,hv⟩:∃v:Wd wm,W=v.w:=⟨⟨W,aJ⟩,rfl⟩
    rw[hv]at hW⊢
    clear hv aJ
    go_upto_region 22 with(first|(refine aI (.tmp 8) (cZ _) ?_)|(go_at_call 121;refine(wu _).mono ?_;rintro e w' ⟨A1,k1,rfl,hlE,hmE,hS1,hq⟩;replace hW:=hW.q hq;obtain⟨v1,rfl⟩:=Wd.next _ hq;clear hq hS1))
    obtain⟨W,KH⟩:∃W,v1.w=W:=⟨_,rfl⟩
    have aJ:Q wm W:=KH▸v1.q
    rw[KH]at hW⊢
    clear KH wu
   case' true=>
    have hne:NE=E+1:=by rw[QZ.out];rfl
    obtain⟨v,hv⟩:∃v:Wd wm,W=v.w:=⟨⟨W,aJ⟩,rfl⟩
    rw[hv]at hW⊢
    clear hv aJ
    go_upto_region 20 with(first|(refine aI (.tmp 8) (cZ _) ?_)|(go_at_call 121;refine(wu _).mono ?_;rintro e w' ⟨A1,k1,rfl,hlE,hmE,hS1,hq⟩;replace hW:=hW.q hq;obtain⟨v1,rfl⟩:=Wd.next _ hq;clear hq hS1))
    obtain⟨W,KH⟩:∃W,v1.w=W:=⟨_,rfl⟩
    have aJ:Q wm W:=KH▸v1.q
    rw[KH]at hW⊢
    clear KH wu
    have cF:=aB (.int .i64 a3.epoch) hW 14
    have fF:=bI hW 14
    obtain⟨v,hv⟩:=Wd.first W
    rw[hv]
    clear hv
    have e1:E+1<=9223372036854775807:=by omega
    have e2: -9223372036854775808<=E+1:=by omega
    go_upto_region 22 with(fail)
    obtain⟨V,bG,hV,aK,-⟩:=nU (b:=mD NE a3) hge (Q.trans aJ v.q) (v.blk hW) (show 14+1<=20 by decide) (show splice a3.cells 14 [.int .i64 (E+1)]=(mD NE a3).cells from hne▸afM (E+1) a3)
    rw[bG]
    clear bG cF fF aJ hW e1 e2
    obtain⟨W,rfl⟩:∃W,W=V:=⟨V,rfl⟩
    have hW:=hV
    have aJ:=aK
    clear hV aK
   all_goals
    clear hne h30 QZ hE0 hE1
    have zq:=fun y:Wd wm=>Y3 k scope group NE y.w (hTm.q y.q) hk1 (by omega) (by omega) (by omega)
    have hss:(jY k.1 scope group NE).size=32:=yJ _
    obtain⟨s,hse⟩:∃s,jY k.1 scope group NE=s:=⟨_,rfl⟩
    rw[hse]at zq hss
    have VJ:=Lib.hid hse
    have Z4:=h3w NE
    obtain⟨a4,qo⟩:∃a4,mD NE a3=a4:=⟨_,rfl⟩
    have cE:=aB (.int .i64 NE) hW 14
    have Z5:=Lib.hid (Q5.out NE)
    have Z7:=Lib.hid (Q7.out NE)
    rw[qo]at hW Z4 Z5 Z7
    clear qo h3w Q5 Q7 hse
    obtain⟨v,hv⟩:∃v:Wd W,W=v.w:=Wd.first W
    have Q8:∀y:Wd W,(Instr.loadAt 66 (.pointer (some ⟨w.heap.size,0,none⟩))).run Tryz.prog y.w= .ok (.agg (bH k)) y.w:=fun y=>hLk ⟨y.w,Q.trans aJ y.q⟩
    have ahS:∀y:Wd W,Calls Tryz.prog 95 #[.agg (bH k), .int .i64 scope, .string group, .int .i64 NE] y.w fun e w'=>e= .returned (.string s)/\Q y.w w':=fun y=>zq ⟨y.w,Q.trans aJ y.q⟩
    rw[hv]
    clear hv zq tq
    go_upto_region 23 with(first|(refine aI (.tmp 7) (Q8 _) ?_)|(go_at_call 95;refine(ahS _).mono ?_;rintro e w' ⟨rfl,hq⟩;obtain⟨v1,rfl⟩:=Wd.next _ hq;clear hq))
    obtain⟨z0,hz0⟩:∃z:Wd wm,v1.w=z.w:=⟨⟨v1.w,Q.trans aJ v1.q⟩,rfl⟩
    replace hW:=v1.blk hW
    rw[hz0]at hW⊢
    clear hz0 Q8 ahS cE aJ
    have hgl:=hW.lt
    have HW0:=Lib.hid hW
    clear hW
    go_wp2_with fail
    go_loopw [105] (fun ix wr=>∃(i:Nat) (WA:Option Addr) (wc:Nat) (z:Wd wm),ix= .int .i64 i/\wr=z.w/\i<=j/\i<=wc/\wc<=maxLen/\Hid (ah z.w g20 37 (iF (jr s ps i) WA wc a4).cells.toArray)/\Hid (aV z.w wm.heap.size 115 5 (.slice WA i wc) i ((jr s ps i).flatMap bQ.cells))) (fun ix _=>j-(intOf ix).toNat)
    case' atStart=>
     exact⟨0,none,0,z0,rfl,rfl,Nat.zero_le _,Nat.zero_le _,Nat.zero_le _,Lib.hid (by show ah z0.w g20 _ (iF [] none 0 a4).cells.toArray;rw[Z4];exact HW0.out),Lib.hid (aV.nil_ _ _ _ _)⟩
    case' round=>
     clear HW0
     obtain⟨i,WA,wc,z,rfl,rfl,hij,hwi,hwm,lM,HOW⟩:=hrel
     by_cases hlt2:i<j
     ·have dM:i<ps.length:=by rw[Gi.out];exact hlt2
      have pX:(i:Int)<(j:Int):=by omega
      have atb:(0:Int)<=(i:Int):=by omega
      obtain⟨b,o,rfl,hb0,hcs⟩:=Iq (by omega)
      have hcx:∀y:Wd wm,y.w.cell? ⟨b,o+i,none⟩=some (.int .i64 ps[i]):=fun y=>(y.q.cell (p:=⟨b,o+i,none⟩) hb0).trans (hcs i dM)
      obtain⟨hp1,hp2⟩:=HPR.out _ (List.getElem_mem dM)
      have hgd:ps.getD i 0=ps[i]:=by rw[List.getD_eq_getElem?_getD,List.getElem?_eq_getElem dM];rfl
      clear hcs
      have hstp:=ari s ps i
      unfold FT at hstp
      rw[hgd]at hstp
      have CX:=Lib.hid hstp
      clear hgd hstp
      generalize ps[i]=p at*
      have hsd:(J8 s i).size<=1000:=by
       have h1:=Cj J7
       have h2:=Cj s
       have h3:=iI (i:Int)
       have h4:J7.size=5:=rfl
       unfold J8
       rw[jG,jG]
       omega
      have Q9:(aZ J7).size+(aZ s).size<=9223372036854775807:=by
       unfold J8 at hsd
       rw[jG,jG]at hsd
       omega
      have ahT:(aZ J7++aZ s).size+(aU (i:Int)).size<=9223372036854775807:=by
       unfold J8 at hsd
       rw[jG]at hsd
       omega
      have hT1:=fun y:Wd wm=>kY J7 y.w (by decide)
      have hT2:=fun y:Wd wm=>kY s y.w (by omega)
      have hN:=fun y:Wd wm=>kM (i:Int) y.w (by omega)
      have iU:=fun y:Wd wm=>bV.afl p (J8 s i) s y.w (hTm.q y.q) (by unfold bV.xZ;simp;omega) (by omega) (by omega) (by omega)
      unfold bV.YT at iU
      unfold J8 at iU CX
      unfold J7 at hT1 iU Q9 ahT CX
      generalize hV:bV.wZ p _ s=V at iU
      rw[hV]at CX
      clear hV hsd
      go_upto_region 27 with(first|(go_at_call 59;(first|(with_reducible refine(hT1 _).mono ?_)|(with_reducible refine(hT2 _).mono ?_));rintro e w' ⟨rfl,hq⟩;replace lM:=Lib.hid (lM.out.q hq);replace HOW:=Lib.hid (HOW.out.q hq);obtain⟨z1,rfl⟩:=Wd.next _ hq;clear hq)|(go_at_call 60;refine(hN _).mono ?_;rintro e w' ⟨rfl,hq⟩;replace lM:=Lib.hid (lM.out.q hq);replace HOW:=Lib.hid (HOW.out.q hq);obtain⟨z1,rfl⟩:=Wd.next _ hq;clear hq)|(go_at_call 64;refine(iU _).mono ?_;rintro e w' ⟨rfl,hq⟩;replace lM:=Lib.hid (lM.out.q hq);replace HOW:=Lib.hid (HOW.out.q hq);obtain⟨z2,rfl⟩:=Wd.next _ hq;clear hq)|(refine fM (ah.new z2.w 115 o7.cells.toArray) rfl 115 (.tmp 27) (.tmp 121) (je V).cells rfl rfl rfl (by kernel_rfl) (DT _) (Nat.le_refl 5) ?_))
      intro W hW hbel
      rw[bC _ _ (by rfl)]at hW
      have jc:Q z2.w W:=hbel _ _ (Nat.le_refl _) (aO _ _ _)
      replace lM:=Lib.hid (lM.out.q jc)
      replace HOW:=Lib.hid (HOW.out.q jc)
      obtain⟨z3,rfl⟩:=Wd.next z2 jc
      generalize z2.w.heap.size=g27 at*
      clear hbel jc hT1 hT2 hN iU Q9 ahT hcx
      have hLw:(Instr.loadAt 115 (.pointer (some ⟨g27,0,none⟩))).run Tryz.prog z3.w= .ok (.agg (je V).cells.toArray) z3.w:=Wd.load (P:=Tryz.prog) (w0:=z3.w) hW.lt (ah.range hW) Tryz.underlying115 rfl (by kernel_rfl) ⟨z3.w,Q.refl _⟩
      have cF:z3.w.cell? ⟨g20,15,none⟩=some (.slice WA i wc):=by
       have h:=Vg lM.out
       rwa[J9]at h
      have hnew:dS (z3.w.alloc (.cells (je V).cells.toArray 115)) (some ⟨z3.w.heap.size,0,none⟩) 5 bQ.cells [je V]:=jW (ah.new z3.w 115 (je V).cells.toArray)
      have yC:=HOW.out.alloc (.cells (je V).cells.toArray 115)
      have atd:=z3.q.size
      clear hW
      go_upto_region 29 with(fail)
      go_wp2_with (first|(refine aI (.tmp 27) hLw ?_)|(refine Uk 33 1 _ #[(0, .agg (je V).cells.toArray)] _ rfl rfl (by simp only[List.map_toArray,List.map_cons,List.map_nil];rfl) (afN _ _) ?_)|(at_builtin;refine Jw LV X3 rfl (.tmp 127) (.tmp 129) 33 115 i0 _ 64 rfl Tryz.underlying33 hi hz0 hz1 hz2 rfl (by decide) (by decide) wm.heap.size (.slice WA i wc) i _ rfl yC (some ⟨z3.w.heap.size,0,none⟩) 1 1 [je V] rfl hnew rfl (by omega) (by simp only[World.size_alloc];omega) ?_))
      intro A9 c9 w9 kU jd eX bW
      have bD:Q wm w9:=fB (Q.trans z3.q (aO _ _ _)) (Nat.le_refl _) yC bW
      have qy:=ah.Qe (lM.out.q (aO z3.w (je V).cells.toArray 115)) yC bW (by decide)
      have Z8:w9.cell? ⟨g20,15,none⟩=some (.slice WA i wc):=by
       have h:=Vg qy
       rwa[J9]at h
      have Z9:w9.frozen? ⟨g20,15,none⟩=false:=qy.frozen 15
      have hsp:splice (iF (jr s ps i) WA wc a4).cells 15 [.slice A9 (i+1) c9]=(iF (jr s ps (i+1)) A9 c9 a4).cells:=by
       have h:=O4 (jr s ps (i+1)) A9 c9 (iF (jr s ps i) WA wc a4)
       rw[J9]at h
       exact h
      obtain⟨V2,bG,hV2,nM,bJ⟩:=nU (b:=iF (jr s ps (i+1)) A9 c9 a4) hge bD qy (show 15+1<=20 by decide) hsp
      have Rf:(jr s ps i).flatMap bQ.cells++(je V).cells=(jr s ps (i+1)).flatMap bQ.cells:=by rw[CX.out,List.flatMap_append];simp
      rw[Rf]at eX
      have ku:aV V2 wm.heap.size 115 5 (.slice A9 (i+1) c9) (i+1) ((jr s ps (i+1)).flatMap bQ.cells):=eX.keep fun k hk=>bJ k (Za eX qy (by decide) k hk)
      have HB2:=Lib.hid hV2
      have D8:=Lib.hid ku
      clear ku hV2 eX qy hsp bW hnew yC cF lM HOW hLw Rf bJ
      go_upto_region 30 with(fail)
      clear bG Z8 Z9
      go_wp2_with fail
      exact⟨⟨i+1,A9,c9,⟨V2,nM⟩,by go_num,rfl,by omega,kU,jd,HB2,D8⟩,by simp only[intOf];omega⟩
     ·obtain rfl:i=j:=by omega
      have hii:¬((i:Int)<(i:Int)):=by omega
      obtain⟨hA1,hA2,hA3⟩:=Z7.out (jr s ps i) WA wc
      have Gl:=Z5.out (jr s ps i) WA wc
      have qp:bU z.w (iF (jr s ps i) WA wc a4):=⟨by rw[hA1,hA2];exact gB ((hRM.q z.q).rows),lY (HOW.out.rows LV (show i=(jr s ps i).length from(J9 s ps i).symm)),by rw[hA2,hA3,<-MQ.out];exact⟨hl1,hl2⟩,by show(jr s ps i).length<=wc/\wc<=maxLen;rw[J9];exact⟨hwi,hwm⟩⟩
      have CW:(iF (jr s ps i) WA wc a4).to.length<=1000000:=by rw[hA2,<-MQ.out];omega
      have hsh2:(iF (jr s ps i) WA wc a4).wraps.length<=1000000:=by show(jr s ps i).length<=_;rw[J9];omega
      obtain⟨G,qA⟩:∃G,iF (jr s ps i) none 0 (mD NE (oL L none 0 (pG group (Ea scope (iW c 16 time)))))=G:=⟨_,rfl⟩
      have iK:wG k c scope group L ps time=G:=by unfold wG;rw[ahR.out,VJ.out,Gi.out];exact qA
      have KI:aP G=G:=by rw[<-qA];rfl
      rw[qA]at Gl
      have HR:=Lib.hid (show zn k c scope group L ps time=if bT G then(gU k G,0)else(aH,1) by unfold zn;rw[iK])
      have KJ:=lM.out
      generalize iF (jr s ps i) WA wc a4=p at*
      have hrg:bT p=bT G:=JB (Gl.trans KI.symm)
      have zF:=Lib.hid (Qg k (Gl.trans KI.symm))
      rw[<-hrg]at HR
      have gJ:=fun y:Wd z.w=>EY p y.w (qp.q y.q)
      have jo:=fun y:Wd z.w=>JE k p y.w (hTm.q (Q.trans z.q y.q)) hk1 hk2 (qp.q y.q) CW hsh2
      have kX:=Wd.load (P:=Tryz.prog) KJ.lt (ah.range KJ) (ty:=37) Tryz.underlying37 rfl (by kernel_rfl)
      have tq:∀y:Wd z.w,(Instr.loadAt 66 (.pointer (some ⟨w.heap.size,0,none⟩))).run Tryz.prog y.w= .ok (.agg (bH k)) y.w:=fun y=>hLk ⟨y.w,Q.trans z.q y.q⟩
      have KN:ah z.w g14 37 aH.cells.toArray:=hD3.q z.q
      have hqz:Q w z.w:=Q.trans ZW z.q
      have D6:g14<z.w.heap.size:=KN.lt
      have uj:=Lib.hid hqz
      clear lM HOW VJ ahR iK qA Gl KI qp CW hsh2 hA1 hA2 hA3 Z7 Z5 KJ hRM hqz Z4 Iq HPR
      obtain⟨v0,hv0⟩:=Wd.first z.w
      rw[hv0]
      clear hv0
      cases hr:bT p
      ·rw[hr]at gJ HR
       have HF:Hid (zn k c scope group L ps time=(aH,1)):=Lib.hid (by rw[HR.out];rfl)
       clear jo HR zF hrg hr
       go_wp2_with (first|(refine aI (.tmp 20) (kX _) ?_)|(go_at_call 66;refine(gJ _).mono ?_;rintro e w' ⟨rfl,hq⟩;obtain⟨v1,rfl⟩:=Wd.next _ hq;clear hq)|(refine fM (v1.blk KN) rfl 37 (.tmp 14) (.tmp 136) aH.cells rfl rfl rfl (by kernel_rfl) (dL _) (Nat.le_refl 20) ?_))
       intro W hW hbel
       rw[bC _ _ (by rfl)]at hW
       have aJ:Q w W:=hbel _ _ hwg (Q.trans uj.out v1.q)
       clear hbel kX gJ tq
       go_wp2_with fail
       refine bodyPost_ret (nG rfl _ _ g14 37 (au aH) (0,0) _ _ rfl rfl hW Tryz.underlying37 rfl (by kernel_rfl)) rfl ?_
       rw[HF.out]
       exact⟨aH,rfl,rfl,⟨fun h=>absurd h (by decide),fun h=>absurd h (by decide)⟩,BI W,aJ⟩
      ·rw[hr]at gJ HR
       have HF:Hid (zn k c scope group L ps time=(gU k G,0)):=Lib.hid (by rw[HR.out];rfl)
       clear HR hrg hr
       go_wp2_with (first|(refine aI (.tmp 20) (kX _) ?_)|(refine aI (.tmp 7) (tq _) ?_)|(go_at_call 66;refine(gJ _).mono ?_;rintro e w' ⟨rfl,hq⟩;obtain⟨v1,rfl⟩:=Wd.next _ hq;clear hq)|(go_at_call 32;refine(jo _).mono ?_;rintro e w2 ⟨a2,rfl,hb2,⟨hr1,hr2⟩,hI2,hq2⟩;obtain⟨v2,rfl⟩:=Wd.next _ hq2)|(refine eY (v2.blk KN) rfl 37 (.tmp 14) (.tmp 139) a2.cells rfl rfl rfl (by kernel_rfl) (dL _) (Nat.le_refl 20) ?_))
       intro W hW hbel bJ
       rw[bC _ _ (by rfl)]at hW
       have aJ:Q w W:=hbel _ _ hwg (Q.trans uj.out v2.q)
       have hz1:=v1.q.size
       have hR1:dI v1.w.heap.size W a2.toA 1 dP a2.to:=hr1.far fun b hb=>bJ b (by omega)
       have hR2:dI v1.w.heap.size W a2.gy 5 bQ.cells a2.wraps:=hr2.far fun b hb=>bJ b (by omega)
       have xE:bU W a2:=⟨gB hR1.rows,lY hR2.rows,hI2.toC,hI2.dF⟩
       have hws:w.heap.size<=v1.w.heap.size:=by omega
       clear hbel bJ kX gJ tq jo hq2 hr1 hr2 hI2
       go_wp2_with fail
       refine bodyPost_ret (nG rfl _ _ g14 37 a2.cells.toArray (0,0) _ _ rfl rfl hW Tryz.underlying37 rfl (by kernel_rfl)) rfl ?_
       rw[HF.out]
       exact⟨a2,rfl,hb2.trans zF.out,⟨hR1.low hws,hR2.low hws⟩,xE,aJ⟩
theorem NS(i:Nat):aG i=(kN (wF i),dW 37 (kN (wF i))):=by
 have h:=Oq (lU (Bh (wF i)))
 have h2:aG i=Sign.keyOf (kN (wF i)):=rfl
 have h3:kN (wF i)=EN (lU (Bh (wF i))):=rfl
 rw[h2]
 unfold Sign.keyOf
 rw[if_neg (by rw[h3];omega)]
theorem aac(s:ByteArray):kN s=EN (lU (Bh s)):=by unfold kN;rfl
theorem NT(i:Nat):1<=(aG i).1/\(aG i).1<=2305843009213693949:=by
 have h:=Oq (lU (Bh (wF i)))
 rw[<-aac]at h
 rw[NS]
 exact h
theorem Rh(i:Nat):dW 37 (aG i).1=(aG i).2:=by rw[NS]
theorem ate(k:Int×Int)(h:1<=k.1/\k.1<=2305843009213693949)(h2:dW 37 k.1=k.2):Sign.keyOf k.1=k:=by
 unfold Sign.keyOf
 rw[if_neg (by omega),h2]
theorem atf(k:Int×Int)(h:1<=k.1)(h2:Sign.keyOf k.1=k):iP k=true:=by
 unfold iP
 rw[h2]
 simp[h]
theorem ahU(i:Nat):Sign.keyOf (aG i).1=aG i:=ate _ (NT i) (Rh i)
theorem atg(i:Nat):bV.um (aG i).1=true:=by
 have h:=NT i
 unfold bV.um
 simp[h.1,h.2]
theorem aad(i:Nat):xW (aG i).1=true:=by
 have h:=NT i
 unfold xW
 simp[h.1,h.2]
theorem vH(i:Nat):iP (aG i)=true:=atf _ (NT i).1 (ahU i)
theorem ath(i:Nat):bV.xZ (aG i).2=true:=by
 have h:=NT i
 rw[<-Rh]
 exact bV.UO _ (by omega) (by omega)
theorem ati(i:Nat):1<=(aG i).2/\(aG i).2<=2305843009213693950:=by
 have h:=ath i
 unfold bV.xZ at h
 simpa using h
theorem ahV(i:Nat):iZ [(aG i).1]=[(aG i).2]:=by
 unfold iZ
 rw[List.filter_cons_of_pos (aad i)]
 simp[Rh]
theorem atj:kN (wF 0)=75649259359050845:=by decide+kernel
theorem aae:(aG 0).2=635858698746329093:=by
 rw[NS,atj]
 decide+kernel
theorem VL:dn 0=⟨#[54,100,51,52,53,98,52,101,53,101,102,54,97,101,49,48]⟩:=by
 unfold dn
 rw[aae]
 decide+kernel
theorem atl:kN (wF 1)=823285488871545904:=by decide+kernel
theorem VN:(aG 1).2=1142868023010079171:=by
 rw[NS,atl]
 decide+kernel
theorem id_1:dn 1=⟨#[97,98,99,97,98,51,54,51,51,52,57,52,50,100,102,55]⟩:=by
 unfold dn
 rw[VN]
 decide+kernel
theorem atm:kN (wF 2)=396046176107505149:=by decide+kernel
theorem VO:(aG 2).2=1552640034848769387:=by
 rw[NS,atm]
 decide+kernel
theorem VP:dn 2=⟨#[50,102,54,98,100,56,57,100,99,56,56,100,56,53,100,99]⟩:=by
 unfold dn
 rw[VO]
 decide+kernel
theorem atn:kN (wF 3)=142765244967754923:=by decide+kernel
theorem VQ:(aG 3).2=1027464471063305804:=by
 rw[NS,atn]
 decide+kernel
theorem VR:dn 3=⟨#[53,52,54,49,48,51,102,53,102,52,56,97,49,97,54,55]⟩:=by
 unfold dn
 rw[VQ]
 decide+kernel
theorem VT(k:Nat)(hk:k<4):jO (dn k)=true:=by
 rcases(by omega:k=0∨k=1∨k=2∨k=3)with rfl|rfl|rfl|rfl
 ·rw[VL];decide+kernel
 ·rw[id_1];decide+kernel
 ·rw[VP];decide+kernel
 ·rw[VR];decide+kernel
theorem ahW(i:Nat)(hi:i<4)(j:Nat)(hj:j<4)(h:(aG i).2=(aG j).2):i=j:=by
 rcases(by omega:i=0∨i=1∨i=2∨i=3)with rfl|rfl|rfl|rfl<;>rcases(by omega:j=0∨j=1∨j=2∨j=3)with rfl|rfl|rfl|rfl
 all_goals first|rfl|(simp only[aae,VN,VO,VQ]at h;exact absurd h (by decide))
theorem Ri(i:Nat)(hi:i<4)(j:Nat)(hj:j<4)(h:dn i=dn j):i=j:=by
 rcases(by omega:i=0∨i=1∨i=2∨i=3)with rfl|rfl|rfl|rfl<;>rcases(by omega:j=0∨j=1∨j=2∨j=3)with rfl|rfl|rfl|rfl
 all_goals first|rfl|(simp only[VL,id_1,VP,VR]at h;exact absurd h (by decide+kernel))
def jL(d:ByteArray):Prop:=∃k,k<4/\d=dn k
theorem VU(i j:Nat)(hi:i<4)(hj:j<4):isId (dn i) j=decide (j=i):=by
 unfold isId
 by_cases h:j=i
 ·subst h;simp
 ·rw[decide_eq_false h,beq_eq_false_iff_ne]
  intro e
  have e2:dn j=dn i:=by
   have h3:∀x:ByteArray,x.data.toList=x.toList:=fun x=>(ByteArray.toList_eq x).symm
   exact ByteArray.ext (Array.toList_inj.1 (by rw[h3,h3,e]))
  exact h (Ri j hj i hi e2)
theorem ahX(k:Nat)(hk:k<4):Aq (dn k) 4=[(aG k).2]:=by
 have h0:=VU k 0 hk (by omega)
 have h1:=VU k 1 hk (by omega)
 have h2:=VU k 2 hk (by omega)
 have h3:=VU k 3 hk (by omega)
 rcases(by omega:k=0∨k=1∨k=2∨k=3)with rfl|rfl|rfl|rfl
 all_goals
  simp only[afK,h0,h1,h2,h3]
  rfl
theorem VW(L:List ByteArray)(h:∀d∈L,jL d):∃ks:List Nat,(∀k∈ks,k<4)/\L=ks.map dn/\dZ L=ks.map fun k=>(aG k).2:=by
 induction L with
 |nil=>exact⟨[],by simp,rfl,rfl⟩
 |cons d L ih=>
  obtain⟨ks,h1,h2,h3⟩:=ih fun x hx=>h x (List.mem_cons_of_mem _ hx)
  obtain⟨k,hk,hd⟩:=h d (List.mem_cons_self ..)
  refine⟨k::ks,?_,?_,?_⟩
  ·intro x hx
   rcases List.mem_cons.1 hx with rfl|hx
   ·exact hk
   ·exact h1 x hx
  ·rw[List.map_cons,<-h2,hd]
  ·show Aq d 4++dZ L=_
   rw[h3,hd,ahX k hk]
   rfl
theorem VX(L:List ByteArray)(h:∀d∈L,jL d):(dZ L).length=L.length:=by
 obtain⟨ks,h1,h2,h3⟩:=VW L h
 rw[h3,h2,List.length_map,List.length_map]
theorem VY(L:List ByteArray)(h:∀d∈L,jL d):∀p∈dZ L,1<=p/\p<=2305843009213693950:=by
 obtain⟨ks,h1,h2,h3⟩:=VW L h
 intro p hp
 rw[h3]at hp
 obtain⟨k,_,rfl⟩:=List.mem_map.1 hp
 exact ati k
theorem ato(L:List ByteArray)(h:∀d∈L,jL d)(r:Nat)(hr:r<4):(aG r).2∈dZ L↔dn r∈L:=by
 obtain⟨ks,h1,h2,h3⟩:=VW L h
 rw[h3,h2,List.mem_map,List.mem_map]
 constructor
 ·rintro⟨k,hk,e⟩
  exact⟨k,hk,by rw[ahW k (h1 k hk) r hr e]⟩
 ·rintro⟨k,hk,e⟩
  exact⟨k,hk,by rw[Ri k (h1 k hk) r hr e]⟩
end Rel
end Go.Proofs.YtbemmjnjoabadaaGreatDoor
