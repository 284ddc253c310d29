/- part 34 -/
import Derived.Test.YtbemmjnjoabadaaGreatDoorK33
set_option linter.unusedVariables false
set_option linter.unusedSimpArgs false
set_option maxHeartbeats 8000000
set_option maxRecDepth 100000
namespace Go.Proofs.YtbemmjnjoabadaaGreatDoor
namespace Rel
open Go.RowKit aQ Mem _root_.Go.Proofs.YtbemmjnjoabadaaGreatDoor.Code aY Sign _root_.Go.Proofs.YtbemmjnjoabadaaGreatDoor.Item _root_.Go.Proofs.YtbemmjnjoabadaaGreatDoor.Known _root_.Go.Proofs.YtbemmjnjoabadaaGreatDoor.bP
theorem ZV(k:Int×Int)(c:ay)(a:ak)(text:ByteArray)(w:World)(hT:Tab w)(hI:gX w c)(hA:bU w a)(hs:∀a∈c.acts,jU a)(hz:∀a∈c.acts,a.target.size<=maxLen)(hn:c.acts.length<=100000)(htl:a.to.length<=100000)(htz:∀a∈c.acts,a.to.length<=100000)
 (hk1:k.1<=9223372036854775807) (hk2:k.2<=9223372036854775807) (hgz:a.group.size<=100000) (hpz:c.prev.size<=1000) (hxz:text.size<=140737488351232) (hE1:(mF k c a).1<=1000000) (hkd:nT a.kind=true) (hsc:0<=a.scope/\a.scope<=3) (how:Am k c=true):
 Calls Tryz.prog 78 #[.agg (bH k), .agg (aF c), .agg (au a), .string text] w (Eb (jK k c a text) w):=by
 have hmx:maxLen=9223372036854775807:=by decide
 obtain⟨w1,y1,hy1,hq1,hbk1⟩:=boxedB w 66 [.int .i64 k.1, .int .i64 k.2]
 have hy1:w.alloc (.cells (bH k) 66)=y1.w:=hy1
 obtain⟨w2,y2,hy2,hq2,hbk2⟩:=boxedB y1.w 41 c.cells
 have hy2:y1.w.alloc (.cells (aF c) 41)=y2.w:=hy2
 obtain⟨w3,y3,hy3,hq3,lJ⟩:=boxedB y2.w 37 a.cells
 have hy3:y2.w.alloc (.cells (au a) 37)=y3.w:=hy3
 obtain⟨w4,y4,hy4,hq4,yB⟩:=boxedB y3.w 37 aH.cells
 have hy4:y3.w.alloc (.cells #[.string ⟨#[]⟩, .int .i64 0, .string ⟨#[]⟩, .int .i64 0, .int .i64 0, .string ⟨#[]⟩, .string ⟨#[]⟩, .int .i64 0, .string ⟨#[]⟩, .slice none 0 0, .string ⟨#[]⟩, .string ⟨#[]⟩, .string ⟨#[]⟩, .string ⟨#[]⟩, .int .i64 0, .slice none 0 0, .int .i64 0, .int .i64 0, .int .i64 0, .int .i64 0] 37)=y4.w:=hy4
 have CV:Q w3 w4:=Q.trans y3.q hq4
 have lq:Q w2 w4:=Q.trans y2.q (Q.trans hq3 CV)
 have dR:Q w w4:=Q.trans (Q.trans hq1 (Q.trans y1.q hq2)) lq
 have hB1:ah w4 w.heap.size 66 (bH k):=hbk1.q (Q.trans y1.q (Q.trans hq2 lq))
 have hB2:ah w4 y1.w.heap.size 41 c.cells.toArray:=hbk2.q lq
 have hB3:ah w4 y2.w.heap.size 37 a.cells.toArray:=lJ.q CV
 have hwg:w.heap.size<=y3.w.heap.size:=(Q.trans (Q.trans (Q.trans hq1 (Q.trans y1.q hq2)) (Q.trans y2.q hq3)) y3.q).size
 have hLk:=dX (P:=Tryz.prog) (bH k) hB1 Tryz.underlying66
 have cZ:=dX (P:=Tryz.prog) (aF c) hB2 Tryz.underlying41
 have hLa:=dX (P:=Tryz.prog) (au a) hB3 Tryz.underlying37
 have e3:=aB (.int .i64 a.kind) hB3 3
 have e4:=aB (.int .i64 a.time) hB3 4
 have e5:=aB (.string a.object) hB3 5
 have e7:=aB (.int .i64 a.scope) hB3 7
 have e8:=aB (.string a.group) hB3 8
 have e9:=aB (.slice a.toA a.to.length a.toC) hB3 9
 have c1:=aB (.slice c.aA c.acts.length c.aC) hB2 1
 have c3:=aB (.string c.prev) hB2 3
 have hwt:=fun y:Wd w4=>Qw a.kind y.w
 rw[hkd]at hwt
 have uI:=fun y:Wd w4=>Y4 k c y.w (hI.q (Q.trans dR y.q))
 rw[how]at uI
 have hDr:=fun y:Wd w4=>JH c a.kind a.time y.w
 have xY:=fun y:Wd w4=>LW a.toA a.toC a.to y.w (Jz (hA.to.q (Q.trans dR y.q))) (by omega)
 have zu:=hI.q dR
 have sZ:=hT.q dR
 have Ez:=hA.q dR
 have HQ:=Lib.hid dR
 have ahL:=yB.lt
 have as3:y1.w.heap.size<w4.heap.size:=hB2.lt
 generalize hg5:y1.w.heap.size=g5 at*
 generalize MJ:y2.w.heap.size=g6 at*
 generalize Hz:y3.w.heap.size=g8 at*
 obtain⟨hsc1,hsc2⟩:=hsc
 have as4:¬a.scope<0:=by omega
 have as5:¬(3:Int)<a.scope:=by omega
 obtain⟨a0,ha0⟩:∃a0,iW c a.kind a.time=a0:=⟨_,rfl⟩
 rw[ha0]at hDr
 clear hbk1 hbk2 lJ hq1 hq2 hq3 hq4 CV lq dR hB1 hB2 hB3 hT hI hA
 go_enter Tryz.func78,Tryz.ntmps78
 go_upto_region 3 with((go_at_call 44;refine(hwt _).mono ?_;rintro e w' ⟨rfl,hq⟩;obtain⟨v1,rfl⟩:=Wd.next _ hq;clear hq))
 go_upto_region 5 with(first|(refine aI (.tmp 4) (hLk _) ?_)|(refine aI (.tmp 5) (cZ _) ?_)|(go_at_call 123;refine(uI _).mono ?_;rintro e w' ⟨rfl,hq⟩;obtain⟨v2,rfl⟩:=Wd.next _ hq;clear hq))
 clear hwt uI
 go_upto_region 6 with(first|(refine aI (.tmp 5) (cZ _) ?_)|(go_at_call 31;refine(hDr _).mono ?_;rintro e w5 ⟨rfl,hq5⟩;obtain⟨v5,rfl⟩:=Wd.next _ hq5;clear hq5)|(refine fM (ah.new v5.w 37 aH.cells.toArray) rfl 37 (.tmp 10) (.tmp 40) a0.cells rfl rfl rfl (by kernel_rfl) (dL _) (Nat.le_refl 20) ?_))
 intro W hW hbel
 rw[bC _ _ (by rfl)]at hW
 have aJ:Q w4 W:=hbel _ _ v5.q.size (Q.trans v5.q (aO _ _ _))
 have hge:w4.heap.size<=v5.w.heap.size:=v5.q.size
 generalize v5.w.heap.size=g10 at*
 clear hbel hDr
 obtain⟨v,hv⟩:∃v:Wd w4,W=v.w:=⟨⟨W,aJ⟩,rfl⟩
 rw[hv]at hW⊢
 clear hv aJ
 have cF:v.w.cell? ⟨g10,5,none⟩=some (.string a0.object):=hW.cell 5
 have fF:v.w.frozen? ⟨g10,5,none⟩=false:=hW.frozen 5
 go_upto_region 7 with(fail)
 obtain⟨a1,ha1⟩:∃b,bP.setObj a0 a.object=b:=⟨_,rfl⟩
 obtain⟨V,bG,hV,aK,bJ⟩:=nU (b:=a1) hge v.q hW (show 5+1<=20 by decide) (show splice a0.cells 5 [.string a.object]=a1.cells from ha1▸Ec a0 a.object)
 clear bJ
 rw[bG]
 clear bG cF fF hW
 obtain⟨W,rfl⟩:∃W,W=V:=⟨V,rfl⟩
 have hW:=hV
 have aJ:=aK
 clear hV aK
 obtain⟨v,hv⟩:∃v:Wd w4,W=v.w:=⟨⟨W,aJ⟩,rfl⟩
 rw[hv]at hW⊢
 clear hv aJ
 have cF:v.w.cell? ⟨g10,7,none⟩=some (.int .i64 a1.scope):=hW.cell 7
 have fF:v.w.frozen? ⟨g10,7,none⟩=false:=hW.frozen 7
 go_upto_region 8 with(fail)
 obtain⟨a2,ha2⟩:∃b,Ea a.scope a1=b:=⟨_,rfl⟩
 obtain⟨V,bG,hV,aK,bJ⟩:=nU (b:=a2) hge v.q hW (show 7+1<=20 by decide) (show splice a1.cells 7 [.int .i64 a.scope]=a2.cells from ha2▸Y8 a.scope a1)
 clear bJ
 rw[bG]
 clear bG cF fF hW
 obtain⟨W,rfl⟩:∃W,W=V:=⟨V,rfl⟩
 have hW:=hV
 have aJ:=aK
 clear hV aK
 obtain⟨v,hv⟩:∃v:Wd w4,W=v.w:=⟨⟨W,aJ⟩,rfl⟩
 rw[hv]at hW⊢
 clear hv aJ
 have cF:v.w.cell? ⟨g10,8,none⟩=some (.string a2.group):=hW.cell 8
 have fF:v.w.frozen? ⟨g10,8,none⟩=false:=hW.frozen 8
 go_upto_region 9 with(fail)
 obtain⟨a3,kV⟩:∃b,pG a.group a2=b:=⟨_,rfl⟩
 obtain⟨V,bG,hV,aK,bJ⟩:=nU (b:=a3) hge v.q hW (show 8+1<=20 by decide) (show splice a2.cells 8 [.string a.group]=a3.cells from kV▸Y9 a.group a2)
 clear bJ
 rw[bG]
 clear bG cF fF hW
 obtain⟨W,rfl⟩:∃W,W=V:=⟨V,rfl⟩
 have hW:=hV
 have aJ:=aK
 clear hV aK
 obtain⟨v0,hv⟩:∃v:Wd w4,W=v.w:=⟨⟨W,aJ⟩,rfl⟩
 rw[hv]at hW⊢
 clear hv aJ
 have KF:=hW.lt
 generalize hnt:a.to.length=nt at*
 go_upto_region 10 with(go_at_call 63;refine(xY _).mono ?_;rintro e w' ⟨TA,tc,rfl,ht1,ht2,pY,hq⟩;replace hW:=hW.q hq;have hs0:=v0.q.size;have cF:w'.cell? ⟨g10,9,none⟩=some (.slice a3.toA a3.to.length a3.toC):=hW.cell 9;have fF:w'.frozen? ⟨g10,9,none⟩=false:=hW.frozen 9;obtain⟨v,rfl⟩:=Wd.next _ hq;clear hq)
 subst hnt
 clear xY
 have hgs:g10<v0.w.heap.size:=KF
 clear KF
 generalize v0.w.heap.size=s0 at*
 obtain⟨a4,qo⟩:∃b,oL a.to TA tc a3=b:=⟨_,rfl⟩
 obtain⟨V,bG,hV,aK,bJ⟩:=nU (b:=a4) hge v.q hW (show 9+1<=20 by decide) (show splice a3.cells 9 [.slice TA a.to.length tc]=a4.cells from qo▸JA a.to TA tc a3)
 have hTR:dI s0 V TA 1 dP a.to:=pY.far fun b hb=>bJ b (by omega)
 rw[bG]
 clear bG cF fF hW pY bJ
 obtain⟨W,rfl⟩:∃W,W=V:=⟨V,rfl⟩
 have hW:=hV
 have aJ:=aK
 clear hV aK hs0
 cases hsb:(a.scope==0)
 case' true=>
  have hs0:a.scope=0:=eq_of_beq hsb
  rw[hs0]at e7
  obtain⟨v,hv⟩:∃v:Wd w4,W=v.w:=⟨⟨W,aJ⟩,rfl⟩
  rw[hv]at hW hTR⊢
  clear hv aJ
  have cF:v.w.cell? ⟨g10,10,none⟩=some (.string a4.text):=hW.cell 10
  have fF:v.w.frozen? ⟨g10,10,none⟩=false:=hW.frozen 10
  go_upto_region 19 with(fail)
  obtain⟨p,hp⟩:∃b,jZ a4 text=b:=⟨_,rfl⟩
  obtain⟨V,bG,hV,aK,bJ⟩:=nU (b:=p) hge v.q hW (show 10+1<=20 by decide) (show splice a4.cells 10 [.string text]=p.cells from hp▸Ed a4 text)
  replace hTR:dI s0 V TA 1 dP a.to:=(hTR:dI s0 v.w TA 1 dP a.to).far fun b hb=>bJ b (by omega)
  clear bJ
  rw[bG]
  clear bG cF fF hW
  obtain⟨W,rfl⟩:∃W,W=V:=⟨V,rfl⟩
  have hW:=hV
  have aJ:=aK
  clear hV aK
  obtain⟨hpt,hpA,QW⟩:p.to=a.to/\p.toA=TA/\p.toC=tc:=by rw[<-hp,<-qo];exact⟨rfl,rfl,rfl⟩
  obtain⟨hw1,hw2,hw3⟩:p.wraps=[]/\p.gy=none/\p.dF=0:=by rw[<-hp,<-qo,<-kV,<-ha2,<-ha1,<-ha0];exact⟨rfl,rfl,rfl⟩
  have Gf:aP p=aP (jI k c a text):=by
   unfold jI
   rw[if_pos hsb]
   unfold yx
   rw[<-hp,<-qo,<-kV,<-ha2,<-ha1,<-ha0]
   rfl
  have hpw:tX W p.gy p.wraps:=by rw[hw1,hw2];exact fun h=>absurd h (by decide)
  have hpc:p.to.length<=p.toC/\p.toC<=maxLen:=by rw[hpt,QW];exact⟨ht1,ht2⟩
  have hpx:p.wraps.length<=p.dF/\p.dF<=maxLen:=by rw[hw1,hw3];exact⟨Nat.le_refl 0,Nat.zero_le _⟩
  have CW:p.to.length<=1000000:=by rw[hpt];omega
  have hsh2:p.wraps.length<=1000000:=by rw[hw1];exact Nat.zero_le _
  have hTR:dI s0 W p.toA 1 dP p.to:=by rw[hpt,hpA];exact hTR
  replace hpt:p.to=p.to:=rfl
  have hrg:bT p=bT (jI k c a text):=JB Gf
  have hfg:ig c p=ig c (jI k c a text):=(KE c p p rfl).symm.trans (KE c p _ Gf)
  have zF:=Lib.hid (Qg k Gf)
  have HR:=Lib.hid (show jK k c a text=if bT p then(if ig c p then(gU k (jI k c a text),0)else(aH,4))else(aH,1) by unfold jK;rw[hsb,hrg,hfg];rfl)
  clear hw1 hw2 hw3 hpA QW Gf hrg hfg hp qo kV ha2 ha1 ha0 ht1 ht2
 case' false=>
  have QX:=fun y:Wd w4=>ark k c a y.w (sZ.q y.q) (zu.q y.q) (Ez.q y.q) hs hz hn htl htz
  obtain⟨cu,Ef⟩:∃cu,mF k c a=cu:=⟨_,rfl⟩
  rw[Ef]at QX hE1
  have ZT:=Lib.hid Ef
  clear Ef
  obtain⟨E,ok⟩:=cu
  dsimp only at QX hE1
  obtain⟨v,hv⟩:∃v:Wd w4,W=v.w:=⟨⟨W,aJ⟩,rfl⟩
  rw[hv]at hW hTR⊢
  clear hv aJ
  cases ok
  case' false=>
   have HF:Hid (jK k c a text=(aH,11)):=Lib.hid (by unfold jK;rw[hsb,ZT.out];rfl)
   go_wp2_with (first|(refine aI (.tmp 4) (hLk _) ?_)|(refine aI (.tmp 5) (cZ _) ?_)|(refine aI (.tmp 6) (hLa _) ?_)|(go_at_call 124;refine(QX _).mono ?_;rintro e w' ⟨rfl,hq⟩;obtain⟨v1,rfl⟩:=Wd.next _ hq;clear hq)|(refine fM (v1.blk yB) rfl 37 (.tmp 8) (.tmp 68) aH.cells rfl rfl rfl (by kernel_rfl) (dL _) (Nat.le_refl 20) ?_))
   intro W2 hW2 fJ
   rw[bC _ _ (by rfl)]at hW2
   have jc:Q w W2:=fJ _ _ hwg (Q.trans HQ.out v1.q)
   clear fJ
   go_wp2_with fail
   refine bodyPost_ret (nG rfl _ _ g8 37 (au aH) (0,0) _ _ rfl rfl hW2 Tryz.underlying37 rfl (by kernel_rfl)) rfl ?_
   rw[HF.out]
   exact⟨aH,rfl,rfl,⟨fun h=>absurd h (by decide),fun h=>absurd h (by decide)⟩,BI W2,jc⟩
  go_upto_region 15 with(first|(refine aI (.tmp 4) (hLk _) ?_)|(refine aI (.tmp 5) (cZ _) ?_)|(refine aI (.tmp 6) (hLa _) ?_)|(go_at_call 124;refine(QX _).mono ?_;rintro e w' ⟨rfl,hq⟩;replace hW:=hW.q hq;replace hTR:=hTR.q hq;obtain⟨v5,rfl⟩:=Wd.next _ hq;clear hq))
  have zq:=fun y:Wd w4=>Y3 k a.scope a.group E y.w (sZ.q y.q) hk1 (by omega) (by omega) (by omega)
  have hss:(jY k.1 a.scope a.group E).size=32:=yJ _
  obtain⟨s,hse⟩:∃s,jY k.1 a.scope a.group E=s:=⟨_,rfl⟩
  rw[hse]at zq hss
  have VJ:=Lib.hid hse
  clear hse QX
  go_upto_region 16 with(first|(refine aI (.tmp 4) (hLk _) ?_)|(go_at_call 95;refine(zq _).mono ?_;rintro e w' ⟨rfl,hq⟩;replace hW:=hW.q hq;replace hTR:=hTR.q hq;obtain⟨v6,rfl⟩:=Wd.next _ hq;clear hq))
  clear zq
  obtain⟨W6,yh⟩:∃W6,v6.w=W6:=⟨_,rfl⟩
  have VK:Q w4 W6:=yh▸v6.q
  rw[yh]at hW hTR⊢
  clear yh
  have d1:∀y:Wd W6,y.w.cell? ⟨g5,1,none⟩=some (.slice c.aA c.acts.length c.aC):=fun y=>c1 ⟨y.w,Q.trans VK y.q⟩
  have d3:∀y:Wd W6,y.w.cell? ⟨g5,3,none⟩=some (.string c.prev):=fun y=>c3 ⟨y.w,Q.trans VK y.q⟩
  have hT1:=fun y:Wd W6=>kY AP y.w (by decide)
  have hT2:=fun y:Wd W6=>kY s y.w (by omega)
  have EC:=fun y:Wd W6=>kY c.prev y.w (by omega)
  have qc:=fun y:Wd W6=>kY text y.w (by omega)
  have hN1:=fun y:Wd W6=>kM (c.acts.length:Int) y.w (by omega)
  have z1:(aZ AP).size<=14:=by have:=Cj AP;have h:AP.size=4:=rfl;omega
  have z2:=Cj s
  have z3:=iI (c.acts.length:Int)
  have z4:=Cj c.prev
  have z5:=Cj text
  have f1:(aZ AP).size+(aZ s).size<=9223372036854775807:=by omega
  have f2:(aZ AP++aZ s).size+(aU (c.acts.length:Int)).size<=9223372036854775807:=by rw[jG];omega
  have f3:((aZ AP++aZ s)++aU (c.acts.length:Int)).size+(aZ c.prev).size<=9223372036854775807:=by rw[jG,jG];omega
  have f4:(((aZ AP++aZ s)++aU (c.acts.length:Int))++aZ c.prev).size+(aZ text).size<=9223372036854775807:=by rw[jG,jG,jG];omega
  have ZU:(NP s c text).size<=140737488353000:=by unfold NP;rw[jG,jG,jG,jG];omega
  have HX:=Lib.hid (show NP s c text=((((aZ AP++aZ s)++aU (c.acts.length:Int))++aZ c.prev)++aZ text)from rfl)
  clear z1 z2 z3 z4 z5
  unfold AP at hT1
  generalize hte:aZ AP=te at*
  rw[show aZ ⟨#[112,111,115,116]⟩=te from hte]at hT1
  generalize aZ s=n1 at*
  generalize aU (c.acts.length:Int)=n2 at*
  generalize aZ c.prev=n3 at*
  generalize aZ text=n4 at*
  obtain⟨x,hx⟩:=Wd.first W6
  rw[hx]
  clear hx
  refine kJ x (by kernel_rfl) (by kernel_rfl) ?_
  repeat(go_big_quiet_step (first|(go_at_call 59;first|with_reducible exact Wd.call _ (hT1 _)|with_reducible exact Wd.call _ (hT2 _)|with_reducible exact Wd.call _ (EC _)|with_reducible exact Wd.call _ (qc _))|(go_at_call 60;exact Wd.call _ (hN1 _))))
  refine wpQuiet_nil ?_
  rintro w'' ⟨y,rfl⟩
  rw[<-HX.out]
  clear HX
  obtain⟨X,NR⟩:∃X,NP s c text=X:=⟨_,rfl⟩
  rw[NR]at ZU⊢
  have HXX:=Lib.hid NR
  clear NR
  obtain⟨W,KG⟩:∃W,y.w=W:=⟨_,rfl⟩
  have aJ:Q w4 W:=KG▸Q.trans VK y.q
  replace hW:=y.blk hW
  replace hTR:=hTR.q y.q
  rw[KG]at hW hTR⊢
  clear KG hT1 hT2 EC qc hN1 f1 f2 f3 f4 d1 d3 VK x hte
  obtain⟨v,hv⟩:∃v:Wd w4,W=v.w:=⟨⟨W,aJ⟩,rfl⟩
  rw[hv]at hW hTR⊢
  clear hv aJ
  have cF:v.w.cell? ⟨g10,14,none⟩=some (.int .i64 a4.epoch):=hW.cell 14
  have fF:v.w.frozen? ⟨g10,14,none⟩=false:=hW.frozen 14
  go_upto_region 18 with(fail)
  obtain⟨a5,QY⟩:∃b,mD E a4=b:=⟨_,rfl⟩
  obtain⟨V,bG,hV,aK,bJ⟩:=nU (b:=a5) hge v.q hW (show 14+1<=20 by decide) (show splice a4.cells 14 [.int .i64 E]=a5.cells from QY▸afM E a4)
  replace hTR:dI s0 V TA 1 dP a.to:=(hTR:dI s0 v.w TA 1 dP a.to).far fun b hb=>bJ b (by omega)
  clear bJ
  rw[bG]
  clear bG cF fF hW
  obtain⟨W,rfl⟩:∃W,W=V:=⟨V,rfl⟩
  have hW:=hV
  have aJ:=aK
  clear hV aK
  obtain⟨v,hv⟩:∃v:Wd w4,W=v.w:=⟨⟨W,aJ⟩,rfl⟩
  rw[hv]at hW hTR⊢
  clear hv aJ
  have hSh:=fun y:Wd w4=>Jf X y.w (sZ.q y.q) (by omega)
  have hsz:=yJ X
  have hSl:=fun y:Wd w4=>bV.afi s (su X) text y.w (sZ.q y.q) (by omega)
  unfold bV.YS bV.DZ at hSl
  obtain⟨b,hb⟩:∃b,bV.sK s (su X) text=b:=⟨_,rfl⟩
  rw[hb]at hSl
  have HB:Hid (b=wI (jY k.1 a.scope a.group E) c text):=Lib.hid (by rw[VJ.out];unfold wI;rw[HXX.out];exact hb.symm)
  clear hb hsz
  go_upto_region 19 with(first|(go_at_call 93;refine(hSh _).mono ?_;rintro e w' ⟨rfl,hq⟩;replace hW:=hW.q hq;replace hTR:=hTR.q hq;obtain⟨v7,rfl⟩:=Wd.next _ hq;clear hq)|(go_at_call 110;refine(hSl _).mono ?_;rintro e w' ⟨rfl,hq⟩;replace hW:=hW.q hq;replace hTR:=hTR.q hq;obtain⟨v8,rfl⟩:=Wd.next _ hq;clear hq)|(refine eY hW rfl 32 (.tmp 99) (.tmp 98) [.string b.1, .string b.2.1, .string b.2.2] rfl rfl rfl (by kernel_rfl) (by simp[Value.oneCell']) (show 11+3<=20 by decide) ?_))
  intro W hW2 fJ ji
  obtain⟨p,hp⟩:∃p,setBody b a5=p:=⟨_,rfl⟩
  have hWp:ah W g10 37 p.cells.toArray:=hp▸hW2
  clear hW
  have hW:=hWp
  have aJ:Q w4 W:=fJ _ _ hge v8.q
  replace hTR:dI s0 W TA 1 dP a.to:=hTR.far fun b hb=>ji b (by omega)
  clear hWp hW2 fJ ji hSh hSl
  obtain⟨hpt,hpA,QW⟩:p.to=a.to/\p.toA=TA/\p.toC=tc:=by rw[<-hp,<-QY,<-qo];exact⟨rfl,rfl,rfl⟩
  obtain⟨hw1,hw2,hw3⟩:p.wraps=[]/\p.gy=none/\p.dF=0:=by rw[<-hp,<-QY,<-qo,<-kV,<-ha2,<-ha1,<-ha0];exact⟨rfl,rfl,rfl⟩
  have Gf:aP p=aP (jI k c a text):=by
   unfold jI
   rw[if_neg (by rw[hsb];simp),ZT.out]
   dsimp only
   rw[<-HB.out]
   unfold yx
   rw[<-hp,<-QY,<-qo,<-kV,<-ha2,<-ha1,<-ha0]
   rfl
  have hpw:tX W p.gy p.wraps:=by rw[hw1,hw2];exact fun h=>absurd h (by decide)
  have hpc:p.to.length<=p.toC/\p.toC<=maxLen:=by rw[hpt,QW];exact⟨ht1,ht2⟩
  have hpx:p.wraps.length<=p.dF/\p.dF<=maxLen:=by rw[hw1,hw3];exact⟨Nat.le_refl 0,Nat.zero_le _⟩
  have CW:p.to.length<=1000000:=by rw[hpt];omega
  have hsh2:p.wraps.length<=1000000:=by rw[hw1];exact Nat.zero_le _
  have hTR:dI s0 W p.toA 1 dP p.to:=by rw[hpt,hpA];exact hTR
  replace hpt:p.to=p.to:=rfl
  have hrg:bT p=bT (jI k c a text):=JB Gf
  have hfg:ig c p=ig c (jI k c a text):=(KE c p p rfl).symm.trans (KE c p _ Gf)
  have zF:=Lib.hid (Qg k Gf)
  have HR:=Lib.hid (show jK k c a text=if bT p then(if ig c p then(gU k (jI k c a text),0)else(aH,4))else(aH,1) by unfold jK;rw[hsb,ZT.out,hrg,hfg];rfl)
  clear hw1 hw2 hw3 hpA QW Gf hrg hfg hp QY qo kV ha2 ha1 ha0 ht1 ht2
 all_goals
  have qp:bU W p:=⟨hpt▸gB hTR.rows,hpw,hpc,hpx⟩
  have gJ:=fun y:Wd W=>EY p y.w (qp.q y.q)
  have kW:=fun y:Wd W=>UD c p y.w (sZ.q (Q.trans aJ y.q)) (zu.q (Q.trans aJ y.q)) (qp.q y.q) hs
  have jo:=fun y:Wd W=>JE k p y.w (sZ.q (Q.trans aJ y.q)) hk1 hk2 (qp.q y.q) CW hsh2
  have kX:=Wd.load (P:=Tryz.prog) hW.lt (ah.range hW) (ty:=37) Tryz.underlying37 rfl (by kernel_rfl)
  have tq:∀y:Wd W,(Instr.loadAt 66 (.pointer (some ⟨w.heap.size,0,none⟩))).run Tryz.prog y.w= .ok (.agg (bH k)) y.w:=fun y=>hLk ⟨y.w,Q.trans aJ y.q⟩
  have uU:∀y:Wd W,(Instr.loadAt 41 (.pointer (some ⟨g5,0,none⟩))).run Tryz.prog y.w= .ok (.agg (aF c)) y.w:=fun y=>cZ ⟨y.w,Q.trans aJ y.q⟩
  have Gg:ah W g8 37 aH.cells.toArray:=yB.q aJ
  have qx:g8<W.heap.size:=Gg.lt
  have uj:=Lib.hid (Q.trans HQ.out aJ)
  clear qp CW hsh2 aJ hW hTR hpt hpw hpc hpx hLk cZ hLa e3 e4 e5 e7 e8 e9 c1 c3 zu sZ Ez HQ yB
  obtain⟨v0,hv0⟩:=Wd.first W
  rw[hv0]
  clear hv0
  rcases(show bT p=false∨(bT p=true/\ig c p=false)∨(bT p=true/\ig c p=true) by cases bT p<;>cases ig c p<;>simp)with h1|⟨h1,h2⟩|⟨h1,h2⟩
  ·rw[h1]at gJ
   have HF:Hid (jK k c a text=(aH,1)):=Lib.hid (by rw[HR.out,h1];rfl)
   clear jo HR zF h1
   go_wp2_with (first|(refine aI (.tmp 10) (kX _) ?_)|(refine aI (.tmp 5) (uU _) ?_)|(go_at_call 66;refine(gJ _).mono ?_;rintro e w' ⟨rfl,hq⟩;obtain⟨v1,rfl⟩:=Wd.next _ hq;clear hq)|(go_at_call 33;refine(kW _).mono ?_;rintro e w' ⟨rfl,hq⟩;obtain⟨v2,rfl⟩:=Wd.next _ hq;clear hq)|(refine fM (v1.blk Gg) rfl 37 (.tmp 8) (.tmp 103) aH.cells rfl rfl rfl (by kernel_rfl) (dL _) (Nat.le_refl 20) ?_))
   intro W2 hW2 fJ
   rw[bC _ _ (by rfl)]at hW2
   have jc:Q w W2:=fJ _ _ hwg (Q.trans uj.out v1.q)
   clear fJ kX gJ kW tq uU
   go_wp2_with fail
   refine bodyPost_ret (nG rfl _ _ g8 37 (au aH) (0,0) _ _ rfl rfl hW2 Tryz.underlying37 rfl (by kernel_rfl)) rfl ?_
   rw[HF.out]
   exact⟨aH,rfl,rfl,⟨fun h=>absurd h (by decide),fun h=>absurd h (by decide)⟩,BI W2,jc⟩
  ·rw[h1]at gJ;rw[h2]at kW
   have HF:Hid (jK k c a text=(aH,4)):=Lib.hid (by rw[HR.out,h1,h2];rfl)
   clear jo HR zF h1 h2
   go_wp2_with (first|(refine aI (.tmp 10) (kX _) ?_)|(refine aI (.tmp 5) (uU _) ?_)|(go_at_call 66;refine(gJ _).mono ?_;rintro e w' ⟨rfl,hq⟩;obtain⟨v1,rfl⟩:=Wd.next _ hq;clear hq)|(go_at_call 33;refine(kW _).mono ?_;rintro e w' ⟨rfl,hq⟩;obtain⟨v2,rfl⟩:=Wd.next _ hq;clear hq)|(refine fM (v2.blk Gg) rfl 37 (.tmp 8) (.tmp 108) aH.cells rfl rfl rfl (by kernel_rfl) (dL _) (Nat.le_refl 20) ?_))
   intro W2 hW2 fJ
   rw[bC _ _ (by rfl)]at hW2
   have jc:Q w W2:=fJ _ _ hwg (Q.trans uj.out v2.q)
   clear fJ kX gJ kW tq uU
   go_wp2_with fail
   refine bodyPost_ret (nG rfl _ _ g8 37 (au aH) (0,0) _ _ rfl rfl hW2 Tryz.underlying37 rfl (by kernel_rfl)) rfl ?_
   rw[HF.out]
   exact⟨aH,rfl,rfl,⟨fun h=>absurd h (by decide),fun h=>absurd h (by decide)⟩,BI W2,jc⟩
  ·rw[h1]at gJ;rw[h2]at kW
   have HF:Hid (jK k c a text=(gU k (jI k c a text),0)):=Lib.hid (by rw[HR.out,h1,h2];rfl)
   clear HR h1 h2
   go_wp2_with (first|(refine aI (.tmp 10) (kX _) ?_)|(refine aI (.tmp 5) (uU _) ?_)|(refine aI (.tmp 4) (tq _) ?_)|(go_at_call 66;refine(gJ _).mono ?_;rintro e w' ⟨rfl,hq⟩;obtain⟨v1,rfl⟩:=Wd.next _ hq;clear hq)|(go_at_call 33;refine(kW _).mono ?_;rintro e w' ⟨rfl,hq⟩;obtain⟨v2,rfl⟩:=Wd.next _ hq;clear hq)|(go_at_call 32;refine(jo _).mono ?_;rintro e w2 ⟨a9,rfl,hb2,⟨hr1,hr2⟩,hI2,hq2⟩;obtain⟨v3,rfl⟩:=Wd.next _ hq2)|(refine eY (v3.blk Gg) rfl 37 (.tmp 8) (.tmp 111) a9.cells rfl rfl rfl (by kernel_rfl) (dL _) (Nat.le_refl 20) ?_))
   intro W2 hW2 fJ ji
   rw[bC _ _ (by rfl)]at hW2
   have jc:Q w W2:=fJ _ _ hwg (Q.trans uj.out v3.q)
   have hz1:=v2.q.size
   have hR1:dI v2.w.heap.size W2 a9.toA 1 dP a9.to:=hr1.far fun b hb=>ji b (by omega)
   have hR2:dI v2.w.heap.size W2 a9.gy 5 bQ.cells a9.wraps:=hr2.far fun b hb=>ji b (by omega)
   have xE:bU W2 a9:=⟨gB hR1.rows,lY hR2.rows,hI2.toC,hI2.dF⟩
   have hws:w.heap.size<=v2.w.heap.size:=by omega
   clear fJ ji kX gJ kW tq uU jo hq2 hr1 hr2 hI2
   go_wp2_with fail
   refine bodyPost_ret (nG rfl _ _ g8 37 a9.cells.toArray (0,0) _ _ rfl rfl hW2 Tryz.underlying37 rfl (by kernel_rfl)) rfl ?_
   rw[HF.out]
   exact⟨a9,rfl,hb2.trans zF.out,⟨hR1.low hws,hR2.low hws⟩,xE,jc⟩
end Rel
end Go.Proofs.YtbemmjnjoabadaaGreatDoor
