/- part 37 -/
import Derived.Test.YtbemmjnjoabadaaGreatDoorK34
import Derived.Test.YtbemmjnjoabadaaGreatDoorK36
set_option linter.unusedVariables false
set_option linter.unusedSimpArgs false
set_option maxHeartbeats 8000000
set_option maxRecDepth 100000
namespace Go.Proofs.YtbemmjnjoabadaaGreatDoor
namespace Rel
open Go.RowKit aQ Mem _root_.Go.Proofs.YtbemmjnjoabadaaGreatDoor.Code aY Sign _root_.Go.Proofs.YtbemmjnjoabadaaGreatDoor.Item _root_.Go.Proofs.YtbemmjnjoabadaaGreatDoor.Known _root_.Go.Proofs.YtbemmjnjoabadaaGreatDoor.bP
theorem aio(k:Int×Int)(c:ay)(a:ak):lS k (aN c) a=lS k c a:=by
 unfold lS Ip CQ
 rw[ng,ahF,ZO,asT,Nw (aN c) c _ (Ci c),Ci]
theorem aui(k:Int×Int)(c:ay)(a:ak)(t:ByteArray):jf k (aN c) a t=jf k c a t:=by
 unfold jf
 rw[aio,Ci]
theorem auj(k:Int×Int)(c:ay)(a:ak)(t:ByteArray)(C1:ay)(h:lS k c a=(C1,true)):jf k c a t=if(jK k C1 a t).2==0 then(dK C1 (jK k C1 a t).1,true)else(C1,false):=by
 unfold jf
 rw[h]
 rfl
theorem auk(k:Int×Int)(c:ay)(a:ak)(t:ByteArray)(C1:ay)(h:lS k c a=(C1,false)):jf k c a t=(aN c,false):=by
 unfold jf
 rw[h]
 rfl
def aip(gs:List Nat)(r:ay×Bool)(w:World)(e:Ending)(w':World):Prop:=∃d:ay,e= .returned (.tuple #[.agg (aF d), .bool r.2])/\aN d=r.1/\dw gs w' d/\Q w w'
theorem Iy(w:World):(Instr.alloc 37 true (.tuple #[])).run Tryz.prog w= .ok (.pointer (some ⟨w.heap.size,0,none⟩)) (w.alloc (.cells (au aH) 37)):=by kernel_rfl
theorem aul(i:Nat)(hi4:i<4)(gs:List Nat)(c:ay)(a:ak)(text:ByteArray)(w:World)(hT:Tab w)(hO:dw gs w c)(hg:∀g∈gs,g<w.heap.size)(hA:bU w a)(NW:Own i (aN c))(hn:c.acts.length<=90000)(hto:∀d∈a.to,jL d)(hkd:a.kind=1)(hsc:0<=a.scope/\a.scope<=3)(hgz:a.group.size<=100000)(hxz:text.size<=140737488351232)(htl:a.to.length<=100000):
 Calls Tryz.prog 30 #[.agg (bH (aG i)), .agg (aF c), .agg (au a), .string text] w (aip gs (jf (aG i) c a text) w):=by
 have hmx:maxLen=9223372036854775807:=by decide
 have hk1:=U9 i
 have hk2:=Qc i
 have hgo:=aak NW a hto
 have hpo:=fun d (hd:Own i d)=>aia hd a text hkd hsc
 have hT0:=hT
 have hA0:=hA
 rw[aio]at hgo
 have hSz:=NW.sizes
 have Jp:=fun n s g=>NW.members n s g a.to hto
 have hml:=fun n s g=>NW.aty n s g a.to hto
 simp only[ZO]at Jp hml
 have NY:∀d,Own i (aN d)->ain (aG i) d:=fun d hd=>hd.sizes
 generalize aG i=k at*
 obtain⟨w1,y1,hy1,hq1,hbk1⟩:=boxedB w 66 [.int .i64 k.1, .int .i64 k.2]
 have hy1:w.alloc (.cells (bH k) 66)=y1.w:=hy1
 obtain⟨w2,y2,hy2,hq2,hbk2⟩:=boxedB y1.w 41 c.cells
 have hy2:y1.w.alloc (.cells (aF c) 41)=y2.w:=hy2
 obtain⟨w3,y3,hy3,hq3,lJ⟩:=boxedB y2.w 37 a.cells
 have hy3:y2.w.alloc (.cells (au a) 37)=y3.w:=hy3
 obtain⟨w4,y4,hy4,hq4,yB⟩:=boxedB y3.w 41 fE.cells
 have hy4:y3.w.alloc (.cells #[.string ⟨#[]⟩, .slice none 0 0, .slice none 0 0, .string ⟨#[]⟩, .int .i64 0, .bool false] 41)=y4.w:=hy4
 have CV:Q w3 w4:=Q.trans y3.q hq4
 have lq:Q w2 w4:=Q.trans y2.q (Q.trans hq3 CV)
 have dR:Q w w4:=Q.trans (Q.trans hq1 (Q.trans y1.q hq2)) lq
 have hB1:ah w4 w.heap.size 66 (bH k):=hbk1.q (Q.trans y1.q (Q.trans hq2 lq))
 have hB2:ah w4 y1.w.heap.size 41 c.cells.toArray:=hbk2.q lq
 have hB3:ah w4 y2.w.heap.size 37 a.cells.toArray:=lJ.q CV
 have ayz:w.heap.size<y1.w.heap.size:=by rw[<-hy1];simp
 have ayA:y1.w.heap.size<y2.w.heap.size:=by rw[<-hy2];simp
 have ayB:y2.w.heap.size<y3.w.heap.size:=by rw[<-hy3];simp
 have ayC:y3.w.heap.size<w4.heap.size:=yB.lt
 have hof:dw (y3.w.heap.size::y1.w.heap.size::gs) w4 c:=(hO.sub fun g hg2=>by rcases List.mem_cons.1 hg2 with rfl|hg2;exact .inr (by omega);rcases List.mem_cons.1 hg2 with rfl|hg2;exact .inr (by omega);exact .inl hg2).q dR
 have uY:∀g∈y3.w.heap.size::y1.w.heap.size::gs,g<w4.heap.size:=fun g hg2=>by rcases List.mem_cons.1 hg2 with rfl|hg2;omega;rcases List.mem_cons.1 hg2 with rfl|hg2;omega;have:=hg g hg2;omega
 have hLk:=dX (P:=Tryz.prog) (bH k) hB1 Tryz.underlying66
 have cZ:=dX (P:=Tryz.prog) (aF c) hB2 Tryz.underlying41
 have hLa:=dX (P:=Tryz.prog) (au a) hB3 Tryz.underlying37
 have e4:=aB (.int .i64 a.time) hB3 4
 have e7:=aB (.int .i64 a.scope) hB3 7
 have e8:=aB (.string a.group) hB3 8
 have e9:=aB (.slice a.toA a.to.length a.toC) hB3 9
 have Wj:=aB (.slice c.aA c.acts.length c.aC) hB2 1
 have zu:gX w4 c:=hof.in
 have sZ:=hT.q dR
 have Ez:=hA.q dR
 have HQ:=Lib.hid dR
 have hFr:=fun y:Wd w4=>aeY c c.acts.length a.scope a.group a.toA a.toC a.to y.w (sZ.q y.q) (zu.q y.q) hSz.short hSz.target (by omega) (Ez.to.q y.q) htl hSz.to
 have hMe:=fun y:Wd w4=>YI c c.acts.length a.scope a.group a.toA a.toC a.to y.w (sZ.q y.q) (zu.q y.q) hSz.short hSz.target (by omega) (Ez.to.q y.q) htl hSz.to
 have fP:=Lib.hid (fun C1=>auj k c a text C1)
 have Rk:=Lib.hid (fun C1=>auk k c a text C1)
 have qA:Hid (lS k c a=if Ip c a then(if(CQ k c a).2==0 then(dK c (CQ k c a).1,true)else(aN c,false))else(aN c,true)):=Lib.hid (by unfold lS;rfl)
 have KO:Hid (Ip c a=(!(a.scope==0)&&pq c c.acts.length a.scope a.group a.to)):=Lib.hid rfl
 have Wn:Hid (CQ k c a=zn k c a.scope a.group (iM c c.acts.length a.scope a.group a.to) (dZ (iM c c.acts.length a.scope a.group a.to)) a.time):=Lib.hid rfl
 have UU:=ail c a.scope a.group
 generalize hg5:y1.w.heap.size=g5 at*
 generalize MJ:y2.w.heap.size=g6 at*
 generalize Hz:y3.w.heap.size=g8 at*
 obtain⟨hsc1,hsc2⟩:=hsc
 clear hbk1 hbk2 lJ hq1 hq2 hq3 hq4 CV lq dR hT hA hO
 unfold yR at hMe
 generalize Wp:iM c c.acts.length a.scope a.group a.to=L at*
 have hL4:L.length<=4:=Wp▸hml _ _ _
 have hLi:∀d∈L,jL d:=Wp▸Jp _ _ _
 obtain⟨fr,hfr⟩:∃fr,pq c c.acts.length a.scope a.group a.to=fr:=⟨_,rfl⟩
 rw[hfr]at hFr KO
 have sJ:=Lib.hid Wp
 clear Jp hml hfr Wp
 obtain⟨nl,hnl⟩:∃nl,c.acts.length=nl:=⟨_,rfl⟩
 rw[hnl]at Wj hFr hMe
 rcases(show(a.scope==0)=true∨((a.scope==0)=false/\fr=false)∨((a.scope==0)=false/\fr=true) by cases(a.scope==0)<;>cases fr<;>simp)with hsb|⟨hsb,rfl⟩|⟨hsb,rfl⟩
 focus
  have AU:lS k c a=(aN c,true):=by rw[qA.out,KO.out,hsb];rfl
  have AV:=Lib.hid (fP.out _ AU)
  clear fP Rk qA KO Wn hgo sJ UU hLi hL4
  clear AU hMe
  clear hFr
  have hbn:(a.scope !=0)=false:=by rw[bne,hsb];rfl
  go_enter Tryz.func30,Tryz.ntmps30
  go_upto_region 8 with(fail)
  obtain⟨WT,hW⟩:∃W,y4.w=W:=⟨_,rfl⟩
  have jE:Q w4 WT:=hW▸y4.q
  rw[hW]at hy4⊢
  clear hy4 hW
 rotate_left
 focus
  have AU:lS k c a=(aN c,true):=by rw[qA.out,KO.out,hsb];rfl
  have AV:=Lib.hid (fP.out _ AU)
  clear fP Rk qA KO Wn hgo sJ UU hLi hL4
  clear AU hMe
  have hbn:(a.scope !=0)=true:=by rw[bne,hsb];rfl
  go_enter Tryz.func30,Tryz.ntmps30
  go_upto_region 8 with(first|(refine aI (.tmp 5) (cZ _) ?_)|(go_at_call 76;refine(hFr _).mono ?_;rintro e w' ⟨rfl,hq⟩;obtain⟨v1,rfl⟩:=Wd.next _ hq;clear hq))
  obtain⟨WT,hW⟩:∃W,v1.w=W:=⟨_,rfl⟩
  have jE:Q w4 WT:=hW▸v1.q
  rw[hW]
  clear hW
 rotate_left
 ·have hNt:Ip c a=true:=by rw[KO.out,hsb];rfl
  have hbn:(a.scope !=0)=true:=by rw[bne,hsb];rfl
  have hs1:1<=a.scope:=by have h:a.scope≠0:=beq_eq_false_iff_ne.1 hsb;omega
  rw[hNt,if_pos rfl]at qA
  obtain⟨R,hR⟩:∃R,zn k c a.scope a.group L (dZ L) a.time=R:=⟨_,rfl⟩
  have hGR:CQ k c a=R:=by rw[Wn.out];exact hR
  rw[hGR]at qA
  have hpl:=VX L hLi
  have hpb:=VY L hLi
  clear hNt KO Wn hGR
  have uJ:=fun(LA:Option Addr) (lc:Nat) (y:World) (hy:Q w4 y) (hS:Strs y LA L)=>afL LA lc L y (sZ.q hy) hS (by omega)
  have iK:=fun(PA:Option Addr) (pc:Nat) (y:World) (hy:Q w4 y) (hS:Ints y PA (dZ L))=>as8 k c a.scope a.group a.toA a.toC a.to PA pc (dZ L) a.time y (sZ.q hy) (zu.q hy) hSz.short hSz.target (by omega) (Ez.to.q hy) htl hSz.to hS hk1 hk2 hgz (by omega) (by omega) ⟨hs1,hsc2⟩ (by rw[sJ.out];exact hpl) hpb (by rw[sJ.out];omega) hSz.owns
  rw[sJ.out,hR]at iK
  unfold Ve at uJ
  unfold Eb at iK
  generalize dZ L=ps at*
  clear hpl hpb hR UU
  go_enter Tryz.func30,Tryz.ntmps30
  go_upto_region 4 with(first|(refine aI (.tmp 5) (cZ _) ?_)|(go_at_call 76;refine(hFr _).mono ?_;rintro e w' ⟨rfl,hq⟩;obtain⟨v1,rfl⟩:=Wd.next _ hq;clear hq)|(go_at_call 9;refine(hMe _).mono ?_;rintro e wm ⟨LA,lc,rfl,hm1,hm2,hRL,hqm⟩;obtain⟨v2,rfl⟩:=Wd.next _ hqm;clear hMe hqm))
  clear hFr
  obtain⟨W,fO⟩:∃W,v2.w=W:=⟨_,rfl⟩
  have jE:Q w4 W:=fO▸v2.q
  rw[fO]at hRL⊢
  clear fO
  rename_i K4 hK4
  have aau:∀(V:World) (ga:ak) (gb:Nat) {v16 v17 v18 v19 v20 v21 v22 v23 v24 v25 v26 v27 v28 v29 v30 v31 v32 v33 v34 v35 v36 v37 v38 v39 v40 v41 v42 v43 v44 v45 v46 v47 v48 v49 v50 v51 v52 v53 v54 v55 v56 v57:Value},Q W V->W.heap.size<=gb->ah V gb 37 ga.cells.toArray->aP ga=aP R.1->iy (g8::g5::gs) V ga->K4 {tmps:= #[.agg (bH k), .agg (aF c), .agg (au a), .string text, .pointer (some ⟨w.heap.size,0,none⟩), .pointer (some ⟨g5,0,none⟩), .pointer (some ⟨g6,0,none⟩),undef, .pointer (some ⟨g8,0,none⟩), .bool false, .int .i64 (nl:Int), .slice LA L.length lc, .pointer (some ⟨gb,0,none⟩), .int .i64 R.2,undef,undef,v16,v17,v18,v19,v20,v21,v22,v23,v24,v25,v26,v27,v28,v29,v30,v31,v32,v33,v34,v35,v36,v37,v38,v39,v40,v41,v42,v43,v44,v45,v46,v47,v48,v49,v50,v51,v52,v53,v54,v55,v56,v57,undef,undef,undef,undef,undef,undef,undef,undef,undef,undef,undef,undef,undef,undef,undef,undef,undef,undef,undef,undef],defers:=[]} V:=by
   intro V ga gb v16 v17 v18 v19 v20 v21 v22 v23 v24 v25 v26 v27 v28 v29 v30 v31 v32 v33 v34 v35 v36 v37 v38 v39 v40 v41 v42 v43 v44 v45 v46 v47 v48 v49 v50 v51 v52 v53 v54 v55 v56 v57 aK hgb hBg hbg hog
   refine hK4 _ _ ?_
   clear hK4 uJ iK
   dsimp only
   have Gm:Q w4 V:=Q.trans jE aK
   have AX:∀y:Wd V,(Instr.loadAt 41 (.pointer (some ⟨g5,0,none⟩))).run Tryz.prog y.w= .ok (.agg (aF c)) y.w:=fun y=>cZ ⟨y.w,Q.trans Gm y.q⟩
   have aav:=dX (P:=Tryz.prog) (au ga) hBg Tryz.underlying37
   have hGb:ga.to.length<=1000000/\ga.wraps.length<=1000000∨True:= .inr trivial
   obtain⟨R1,R2⟩:=R
   dsimp only at qA hbg⊢
   obtain⟨z0,hz0⟩:=Wd.first V
   rw[hz0]
   clear hz0
   by_cases h0:R2=0
   ·subst h0
    have AU:lS k c a=(dK c R1,true):=by rw[qA.out];rfl
    have AV:=Lib.hid (fP.out _ AU)
    rw[AU]at hgo
    obtain⟨CZ,-,hl1⟩:=hgo rfl
    dsimp only at CZ hl1 AV
    have hsg:jU ga:=by
     have hm:aP R1∈(dK c R1).acts:=List.mem_append_right _ (List.mem_singleton.2 rfl)
     have h:=wX (CZ.right _ hm)
     have h1:R1.to.length<=64:=h.to
     have h2:R1.wraps.length<=64:=h.wraps
     exact Ns hbg ⟨by omega,by omega⟩
    have hLo:=fun y:Wd V=>JQ c ga y.w (sZ.q (Q.trans Gm y.q)) (zu.q (Q.trans Gm y.q)) (hog.in.q y.q) hsg (by omega)
    unfold FN at hLo
    clear fP Rk qA hgo AU sJ hLi hL4 hGb
    go_upto_region 8 with(first|(refine aI (.tmp 5) (AX _) ?_)|(refine aI (.tmp 12) (aav _) ?_)|(go_at_call 25;refine(hLo _).mono ?_;rintro e w7 ⟨A7,n7,rfl,IV,IW,hq7⟩;obtain⟨z7,rfl⟩:=Wd.next _ hq7)|(refine eY (cs:=c.cells) (hB2.q (Q.trans Gm z7.q)) rfl 41 (.tmp 5) (.tmp 63) (dN c ga A7 n7).cells rfl rfl rfl (by kernel_rfl) (nJ _) (Nat.le_refl 6) ?_))
    intro W8 yE xG vJ
    rw[bC _ _ (by rfl)]at yE
    have NZ:Q w4 z7.w:=Q.trans Gm z7.q
    have Gn:Q w4 z0.w:=Q.trans Gm z0.q
    have IX:dw (g8::g5::gs) z7.w (dN c ga A7 n7):=dw.long (hof.q Gn) (hog.q z0.q) hq7 IV IW (fun g hg2=>Nat.lt_of_lt_of_le (uY g hg2) Gn.size)
    have aJ:Q w W8:=xG _ _ (by omega) (Q.trans HQ.out NZ)
    have hKW:ah W8 w.heap.size 66 (bH k):=(vJ _ (by omega)).trans (hB1.q NZ)
    have Iz:ah W8 g6 37 a.cells.toArray:=(vJ _ (by omega)).trans (hB3.q NZ)
    have wJ:ah W8 g8 41 fE.cells.toArray:=(vJ _ (by omega)).trans (yB.q NZ)
    have hTW:Tab W8:=hT0.q aJ
    have hAW:bU W8 a:=hA0.q aJ
    have zG:dw (g8::g5::gs) W8 (dN c ga A7 n7):=IX.far fun b hb=>vJ b fun e=>hb (e▸List.mem_cons_of_mem _ (List.mem_cons_self ..))
    have hszW:z7.w.heap.size<=W8.heap.size:=(xG 0 z7.w (Nat.zero_le _) (Below.refl _ _)).size
    have CY:∀g∈(g8::g5::gs),g<W8.heap.size:=fun g hg2=>Nat.lt_of_lt_of_le (uY g hg2) (Nat.le_trans NZ.size hszW)
    have hcb:dK c R1=aN (dN c ga A7 n7):=by rw[Nu];exact(Nv c ga R1 hbg).symm
    rw[hcb]at AV CZ hl1
    rw[ng]at hl1
    replace hl1:(dN c ga A7 n7).acts.length<=99000:=by have:=hl1;rw[ng]at this;omega
    generalize dN c ga A7 n7=c1 at*
    obtain⟨WT,rfl⟩:∃W,W=W8:=⟨_,rfl⟩
    clear AX aav hLo xG vJ IX hcb hszW IV IW hq7 NZ Gn
    have qB:=NY _ CZ
    have bf:=fun y:Wd WT=>ZV k c1 a text y.w (hTW.q y.q) (zG.in.q y.q) (hAW.q y.q) qB.short qB.target (by omega) htl qB.to hk1 hk2 hgz qB.prev hxz (aas k c1 a (by omega)) (by rw[hkd];rfl) ⟨hsc1,hsc2⟩ qB.owns
    have hp1:=hpo _ CZ
    have yF:=AV.out
    rw[QV k c1 a a rfl text]at yF hp1
    obtain⟨R,hR⟩:∃R,jK k c1 a text=R:=⟨_,rfl⟩
    rw[hR]at bf yF hp1
    have HP2:=Lib.hid yF
    have uS:=Lib.hid hp1
    clear yF hp1
    unfold Eb at bf
    have IB:=dX (P:=Tryz.prog) (bH k) hKW Tryz.underlying66
    have IC:=dX (P:=Tryz.prog) (aF c1) yE Tryz.underlying41
    have IE:=dX (P:=Tryz.prog) (au a) Iz Tryz.underlying37
    clear hR AV hpo NY qB hLk cZ hLa e4 e7 e8 e9 Wj
    obtain⟨v8,vI⟩:=Wd.first WT
    rw[vI]
    clear vI
    go_upto_region 9 with(first|(refine aI (.tmp 4) (IB _) ?_)|(refine aI (.tmp 5) (IC _) ?_)|(refine aI (.tmp 6) (IE _) ?_)|(go_at_call 78;refine(bf _).mono ?_;rintro e w9 ⟨p,rfl,hbp,⟨hr1,hr2⟩,C9,bD⟩;obtain⟨v9,rfl⟩:=Wd.next _ bD)|(refine fM (ah.new v9.w 37 aH.cells.toArray) rfl 37 (.tmp 14) (.tmp 70) p.cells rfl rfl rfl (by kernel_rfl) (dL _) (Nat.le_refl 20) ?_))
    intro qC IG Dc
    rw[bC _ _ (by rfl)]at IG
    have jX:Q WT qC:=Dc _ _ v9.q.size (Q.trans v9.q (aO _ _ _))
    have Df:Q v9.w qC:=Dc _ _ (Nat.le_refl _) (aO _ _ _)
    generalize v9.w.heap.size=g14 at*
    have hr1:=hr1.q Df
    have hr2:=hr2.q Df
    have aat:=v8.q.size
    have II:iy (g8::g5::gs) qC p:=iy.wE ⟨gB hr1.rows,lY hr2.rows,C9.toC,C9.dF⟩ hr1 hr2 fun g hg2=>by have:=CY g hg2;omega
    have Rl:=yE.q jX
    have IJ:=wJ.q jX
    have Rn:=hTW.q jX
    have zH:=zG.q jX
    have dD:=Q.trans aJ jX
    have Ro:∀g∈(g8::g5::gs),g<qC.heap.size:=fun g hg2=>Nat.lt_of_lt_of_le (CY g hg2) jX.size
    clear bf IB IC IE hr1 hr2 Dc Df bD C9 hKW Iz yE wJ hTW hAW zG aJ CY
    have yG:=dX (P:=Tryz.prog) (aF c1) Rl Tryz.underlying41
    have Dh:=dX (P:=Tryz.prog) (au p) IG Tryz.underlying37
    obtain⟨R1,R2⟩:=R
    dsimp only at hbp⊢
    obtain⟨v10,IK⟩:=Wd.first qC
    rw[IK]
    clear IK
    by_cases h0:R2=0
    ·subst h0
     have HF:Hid (jf k c a text=(dK (aN c1) R1,true)):=Lib.hid (by rw[HP2.out];rfl)
     obtain⟨Rq,-⟩:=uS.out rfl
     have hsp:jU p:=by
      have hm:aP R1∈(dK (aN c1) R1).acts:=List.mem_append_right _ (List.mem_singleton.2 rfl)
      have h:=wX (Rq.right _ hm)
      have h1:R1.to.length<=64:=h.to
      have h2:R1.wraps.length<=64:=h.wraps
      exact Ns hbp ⟨by omega,by omega⟩
     have hLo:=fun y:Wd qC=>JQ c1 p y.w (Rn.q y.q) (zH.in.q y.q) (II.in.q y.q) hsp (by omega)
     unfold FN at hLo
     clear HP2 uS
     go_wp2_with (first|(refine aI (.tmp 5) (yG _) ?_)|(refine aI (.tmp 14) (Dh _) ?_)|(go_at_call 25;refine(hLo _).mono ?_;rintro e w15 ⟨sO,n15,rfl,IL,IQ,pz⟩;obtain⟨v15,rfl⟩:=Wd.next _ pz)|(refine eY (cs:=fE.cells) (v15.blk IJ) rfl 41 (.tmp 8) (.tmp 77) (dN c1 p sO n15).cells rfl rfl rfl (by kernel_rfl) (nJ _) (Nat.le_refl 6) ?_))
     intro W2 hW2 fJ ji
     rw[bC _ _ (by rfl)]at hW2
     have jc:Q w W2:=fJ _ _ (by omega) (Q.trans dD v15.q)
     have IU:dw (g8::g5::gs) v15.w (dN c1 p sO n15):=dw.long (zH.q v10.q) (II.q v10.q) pz IL IQ fun g hg2=>Nat.lt_of_lt_of_le (Ro g hg2) v10.q.size
     have Di:dw gs W2 (dN c1 p sO n15):=(IU.far fun b hb=>ji b fun e=>hb (e▸List.mem_cons_self ..)).sub fun g hg2=> .inl (List.mem_cons_of_mem _ (List.mem_cons_of_mem _ hg2))
     have hbl:aN (dN c1 p sO n15)=dK (aN c1) R1:=by rw[Nu,Nv c1 p R1 hbp,Nw (aN c1) c1 R1 (Ci c1)]
     clear fJ ji yG Dh hLo IU IL IQ pz
     go_wp2_with fail
     refine bodyPost_ret (nG rfl _ _ g8 41 (dN c1 p sO n15).cells.toArray (0,0) _ _ rfl rfl hW2 Tryz.underlying41 rfl (by kernel_rfl)) rfl ?_
     rw[HF.out]
     exact⟨_,rfl,hbl,Di,jc⟩
    ·have hne:(R2==0)=false:=beq_eq_false_iff_ne.2 h0
     have hne2:(R2 !=0)=true:=by rw[bne,hne];rfl
     have HF:Hid (jf k c a text=(aN c1,false)):=Lib.hid (by have h:=HP2.out;dsimp only at h;rw[h,hne];rfl)
     clear HP2 uS
     go_wp2_with (first|(refine aI (.tmp 5) (yG _) ?_)|(refine eY (cs:=fE.cells) (v10.blk IJ) rfl 41 (.tmp 8) (.tmp 74) c1.cells rfl rfl rfl (by kernel_rfl) (nJ _) (Nat.le_refl 6) ?_))
     intro W2 hW2 fJ ji
     rw[bC _ _ (by rfl)]at hW2
     have jc:Q w W2:=fJ _ _ (by omega) (Q.trans dD v10.q)
     have Di:dw gs W2 c1:=((zH.q v10.q).far fun b hb=>ji b fun e=>hb (e▸List.mem_cons_self ..)).sub fun g hg2=> .inl (List.mem_cons_of_mem _ (List.mem_cons_of_mem _ hg2))
     clear fJ ji yG Dh
     go_wp2_with fail
     refine bodyPost_ret (nG rfl _ _ g8 41 (aF c1) (0,0) _ _ rfl rfl hW2 Tryz.underlying41 rfl (by kernel_rfl)) rfl ?_
     rw[HF.out]
     exact⟨c1,rfl,rfl,Di,jc⟩
   ·have hne:(R2==0)=false:=beq_eq_false_iff_ne.2 h0
    have hne2:(R2 !=0)=true:=by rw[bne,hne];rfl
    have AU:lS k c a=(aN c,false):=by rw[qA.out,hne];rfl
    have HPN:=Lib.hid (Rk.out _ AU)
    clear fP Rk qA hgo AU sJ hLi hL4 hGb
    go_wp2_with (first|(refine aI (.tmp 5) (AX _) ?_)|(refine eY (cs:=fE.cells) (yB.q (Q.trans Gm z0.q)) rfl 41 (.tmp 8) (.tmp 60) c.cells rfl rfl rfl (by kernel_rfl) (nJ _) (Nat.le_refl 6) ?_))
    intro W2 hW2 fJ ji
    rw[bC _ _ (by rfl)]at hW2
    have jc:Q w W2:=fJ _ _ (by omega) (Q.trans HQ.out (Q.trans Gm z0.q))
    have zH:dw gs W2 c:=((hof.q (Q.trans Gm z0.q)).far fun b hb=>ji b fun e=>hb (e▸List.mem_cons_self ..)).sub fun g hg2=> .inl (List.mem_cons_of_mem _ (List.mem_cons_of_mem _ hg2))
    clear fJ ji AX aav
    go_wp2_with fail
    refine bodyPost_ret (nG rfl _ _ g8 41 (aF c) (0,0) _ _ rfl rfl hW2 Tryz.underlying41 rfl (by kernel_rfl)) rfl ?_
    rw[HPN.out]
    exact⟨c,rfl,rfl,zH,jc⟩
  have hz0:Q W W.drew:=(Q.refl _).drew
  have fK:∀z,Q W z->(Instr.loadAt 66 (.pointer (some ⟨w.heap.size,0,none⟩))).run Tryz.prog z= .ok (.agg (bH k)) z:=fun z hz=>hLk ⟨z,Q.trans jE hz⟩
  have fC:∀z,Q W z->(Instr.loadAt 41 (.pointer (some ⟨g5,0,none⟩))).run Tryz.prog z= .ok (.agg (aF c)) z:=fun z hz=>cZ ⟨z,Q.trans jE hz⟩
  have f4:=fun z (hz:Q W z)=>e4 ⟨z,Q.trans jE hz⟩
  have f7:=fun z (hz:Q W z)=>e7 ⟨z,Q.trans jE hz⟩
  have f8:=fun z (hz:Q W z)=>e8 ⟨z,Q.trans jE hz⟩
  have f9:=fun z (hz:Q W z)=>e9 ⟨z,Q.trans jE hz⟩
  refine uT (fun z=>Q W z) (by kernel_rfl) ?_
  refine V7 0 (.agg (bH k)) rfl hz0 (fun z hz=>oV (fK z hz)) ?_
  try simp only[aax]
  refine V7 1 (.agg (aF c)) rfl hz0 (fun z hz=>oV (fC z hz)) ?_
  try simp only[aax]
  refine aS 2 (.pointer (some ⟨g6,7,none⟩)) hz0 ?_
  try simp only[aax]
  refine V7 3 (.int .i64 a.scope) rfl hz0 (fun z hz=>oK Tryz.underlying3 (f7 z hz)) ?_
  try simp only[aax]
  refine aS 4 (.pointer (some ⟨g6,8,none⟩)) hz0 ?_
  try simp only[aax]
  refine V7 5 (.string a.group) rfl hz0 (fun z hz=>oK Tryz.underlying9 (f8 z hz)) ?_
  try simp only[aax]
  refine aS 6 (.pointer (some ⟨g6,9,none⟩)) hz0 ?_
  try simp only[aax]
  refine V7 7 (.slice a.toA a.to.length a.toC) rfl hz0 (fun z hz=>oK Tryz.underlying30 (f9 z hz)) ?_
  try simp only[aax]
  refine aS 8 (.slice LA L.length lc) hz0 ?_
  try simp only[aax]
  refine aS 10 (.pointer (some ⟨g6,4,none⟩)) hz0 ?_
  try simp only[aax]
  refine V7 11 (.int .i64 a.time) rfl hz0 (fun z hz=>oK Tryz.underlying3 (f4 z hz)) ?_
  try simp only[aax]
  refine kL 9 16 (fun K' hK'=> ?_) fun K' hK'=> ?_
  ·skip
   go_simp
   refine(uJ LA lc _ (Q.trans jE hz0) (gB (hRL.q hz0).rows)).mono ?_
   rintro e z1 ⟨PA,pc,rfl,hp1,hp2,ait,bM⟩
   have hz1:=Q.trans hz0 bM
   refine hK' _ _ hz1 ?_
   clear hK' K'
   try simp only[aax]
   refine kL 12 16 (fun K' hK'=> ?_) fun K' hK'=> ?_
   ·skip
    go_simp
    refine(iK PA pc _ (Q.trans jE hz1) (bP.yQ ait.rows)).mono ?_
    rintro e z2 ⟨ga,rfl,hbg,⟨aun,auo⟩,vK,hqg⟩
    have hz2:=Q.trans hz1 hqg
    have ayD:=(hz1).size
    refine hK' _ _ hz2 ?_
    clear hK' K'
    try simp only[aax]
    refine aS 13 (.tuple #[.agg (au ga), .int .i64 R.2]) hz2 ?_
    try simp only[aax]
    refine aS 14 (.agg (au ga)) hz2 ?_
    try simp only[aax]
    refine aS 15 (.int .i64 R.2) hz2 ?_
    try simp only[aax]
    refine aW 16 fun K' hK'=> ?_
    refine sG 37 _ rfl (Iy _) ?_
    have hb3:=ah.new z2 37 (au aH)
    have hz3:Q W (z2.alloc (.cells (au aH) 37)):=Q.trans hz2 (aO _ _ _)
    have hs3:=(hz2).size
    have hl3:=hb3.lt
    have Rt:=aO z2 (au aH) 37
    obtain⟨Ru,Gp⟩:∃g,z2.heap.size=g:=⟨_,rfl⟩
    have aaw:z2.heap.size<=Ru:=Nat.le_of_eq Gp
    rw[Gp]at hb3 hs3 hl3
    obtain⟨z3,Rw⟩:∃z',z2.alloc (.cells (au aH) 37)=z':=⟨_,rfl⟩
    rw[Rw]at hb3 hz3 hl3 Rt⊢
    refine hK' _ _ hz3 ?_
    clear hK' K' Rw
    try simp only[aax]
    rw[Gp]
    clear Gp
    refine aW 17 fun K' hK'=> ?_
    refine oJ hb3 37 (.tmp 12) (.tmp 56) ga.cells rfl rfl rfl (by kernel_rfl) (dL _) (Nat.le_refl 20) ?_
    intro V hV iD kD
    rw[bC _ _ (by rfl)]at hV
    have aK:Q W V:=iD _ _ hs3 hz3
    refine hK' _ _ aK ?_
    clear hK' K'
    try simp only[aax]
    refine aS 18 (.int .i64 R.2) aK ?_
    try simp only[aax]
    refine wpAnyH_done (by kernel_rfl) ?_ _
    have Rx:=iD _ _ aaw Rt
    have hr1:=aun.q Rx
    have hr2:=auo.q Rx
    have ql:bU V ga:=⟨gB hr1.rows,lY hr2.rows,vK.toC,vK.dF⟩
    have xH:iy (g8::g5::gs) V ga:=iy.wE ql hr1 hr2 fun g hg2=>by have:=uY g hg2;have:=jE.size;omega
    exact aau V ga Ru aK hs3 hV hbg xH
   ·skip
    refine sG 37 _ rfl (Iy _) ?_
    have hb4:=ah.new z1 37 (au aH)
    have lG:Q W (z1.alloc (.cells (au aH) 37)):=Q.trans hz1 (aO _ _ _)
    have hs4:=(hz1).size
    have hl4:=hb4.lt
    have aiu:=ait.q (aO z1 (au aH) 37)
    obtain⟨gb4,KP⟩:∃g,z1.heap.size=g:=⟨_,rfl⟩
    rw[KP]at hb4 hs4 hl4
    obtain⟨z4,Ry⟩:∃z',z1.alloc (.cells (au aH) 37)=z':=⟨_,rfl⟩
    rw[Ry]at hb4 lG hl4 aiu⊢
    refine hK' _ _ lG ?_
    clear hK' K' Ry
    try simp only[aax]
    rw[KP]
    clear KP
    refine aW 12 fun K' hK'=> ?_
    go_simp
    refine(iK PA pc _ (Q.trans jE lG) (bP.yQ aiu.rows)).mono ?_
    rintro e z5 ⟨ga,rfl,hbg,⟨aup,auq⟩,vK,hqg⟩
    have sU:=Q.trans lG hqg
    have ayE:=(lG).size
    have hb5:=hb4.q hqg
    have hlg:=hb4.lt
    refine hK' _ _ sU ?_
    clear hK' K'
    try simp only[aax]
    refine aS 13 (.tuple #[.agg (au ga), .int .i64 R.2]) sU ?_
    try simp only[aax]
    refine aS 14 (.agg (au ga)) sU ?_
    try simp only[aax]
    refine aS 15 (.int .i64 R.2) sU ?_
    try simp only[aax]
    refine aW 17 fun K' hK'=> ?_
    refine oJ hb5 37 (.tmp 12) (.tmp 56) ga.cells rfl rfl rfl (by kernel_rfl) (dL _) (Nat.le_refl 20) ?_
    intro V hV iD kD
    rw[bC _ _ (by rfl)]at hV
    have aK:Q W V:=iD _ _ hs4 sU
    refine hK' _ _ aK ?_
    clear hK' K'
    try simp only[aax]
    refine aS 18 (.int .i64 R.2) aK ?_
    try simp only[aax]
    refine wpAnyH_done (by kernel_rfl) ?_ _
    have hr1:=aup.far (w':=V) fun b hb=>kD b (by omega)
    have hr2:=auq.far (w':=V) fun b hb=>kD b (by omega)
    have ql:bU V ga:=⟨gB hr1.rows,lY hr2.rows,vK.toC,vK.dF⟩
    have xH:iy (g8::g5::gs) V ga:=iy.wE ql hr1 hr2 fun g hg2=>by have:=uY g hg2;have:=jE.size;omega
    exact aau V ga gb4 aK hs4 hV hbg xH
  ·skip
   refine sG 37 _ rfl (Iy _) ?_
   have hb6:=ah.new W.drew 37 (au aH)
   have lg:Q W (W.drew.alloc (.cells (au aH) 37)):=Q.trans hz0 (aO _ _ _)
   have hs6:=(hz0).size
   have Rz:=hb6.lt
   obtain⟨gb6,KQ⟩:∃g,W.drew.heap.size=g:=⟨_,rfl⟩
   rw[KQ]at hb6 hs6 Rz
   obtain⟨z6,RD⟩:∃z',W.drew.alloc (.cells (au aH) 37)=z':=⟨_,rfl⟩
   rw[RD]at hb6 lg Rz⊢
   refine hK' _ _ lg ?_
   clear hK' K' RD
   try simp only[aax]
   rw[KQ]
   clear KQ
   refine aW 9 fun K' hK'=> ?_
   go_simp
   refine(uJ LA lc _ (Q.trans jE lg) (gB (hRL.q lg).rows)).mono ?_
   rintro e z7 ⟨PA,pc,rfl,hp1,hp2,aur,bM⟩
   have tu:=Q.trans lg bM
   have hb7:=hb6.q bM
   refine hK' _ _ tu ?_
   clear hK' K'
   try simp only[aax]
   refine aW 12 fun K' hK'=> ?_
   go_simp
   refine(iK PA pc _ (Q.trans jE tu) (bP.yQ aur.rows)).mono ?_
   rintro e z8 ⟨ga,rfl,hbg,⟨aus,aut⟩,vK,hqg⟩
   have qx:=Q.trans tu hqg
   have ayF:=(tu).size
   have hb8:=hb7.q hqg
   have hlg:=hb7.lt
   refine hK' _ _ qx ?_
   clear hK' K'
   try simp only[aax]
   refine aS 13 (.tuple #[.agg (au ga), .int .i64 R.2]) qx ?_
   try simp only[aax]
   refine aS 14 (.agg (au ga)) qx ?_
   try simp only[aax]
   refine aS 15 (.int .i64 R.2) qx ?_
   try simp only[aax]
   refine aW 17 fun K' hK'=> ?_
   refine oJ hb8 37 (.tmp 12) (.tmp 56) ga.cells rfl rfl rfl (by kernel_rfl) (dL _) (Nat.le_refl 20) ?_
   intro V hV iD kD
   rw[bC _ _ (by rfl)]at hV
   have aK:Q W V:=iD _ _ hs6 qx
   refine hK' _ _ aK ?_
   clear hK' K'
   try simp only[aax]
   refine aS 18 (.int .i64 R.2) aK ?_
   try simp only[aax]
   refine wpAnyH_done (by kernel_rfl) ?_ _
   have hr1:=aus.far (w':=V) fun b hb=>kD b (by omega)
   have hr2:=aut.far (w':=V) fun b hb=>kD b (by omega)
   have ql:bU V ga:=⟨gB hr1.rows,lY hr2.rows,vK.toC,vK.dF⟩
   have xH:iy (g8::g5::gs) V ga:=iy.wE ql hr1 hr2 fun g hg2=>by have:=uY g hg2;have:=jE.size;omega
   exact aau V ga gb6 aK hs6 hV hbg xH
 all_goals
  have aJ:Q w WT:=Q.trans HQ.out jE
  have hKW:ah WT w.heap.size 66 (bH k):=hB1.q jE
  have Iz:ah WT g6 37 a.cells.toArray:=hB3.q jE
  have yE:ah WT g5 41 c.cells.toArray:=hB2.q jE
  have wJ:ah WT g8 41 fE.cells.toArray:=yB.q jE
  have hTW:Tab WT:=sZ.q jE
  have hAW:bU WT a:=Ez.q jE
  have zG:dw (g8::g5::gs) WT c:=hof.q jE
  have CY:∀g∈(g8::g5::gs),g<WT.heap.size:=fun g hg2=>Nat.lt_of_lt_of_le (uY g hg2) (jE).size
  have hl1:c.acts.length<=99000:=by omega
  obtain⟨c1,hcc⟩:∃c1,c=c1:=⟨_,rfl⟩
  have hcb:aN c=aN c1:=by rw[hcc]
  rw[hcb]at AV
  have CZ:Own i (aN c1):=hcb▸NW
  rw[hcc]at yE zG hl1
  clear hcb hcc
  have qB:=NY _ CZ
  have bf:=fun y:Wd WT=>ZV k c1 a text y.w (hTW.q y.q) (zG.in.q y.q) (hAW.q y.q) qB.short qB.target (by omega) htl qB.to hk1 hk2 hgz qB.prev hxz (aas k c1 a (by omega)) (by rw[hkd];rfl) ⟨hsc1,hsc2⟩ qB.owns
  have hp1:=hpo _ CZ
  have yF:=AV.out
  rw[QV k c1 a a rfl text]at yF hp1
  obtain⟨R,hR⟩:∃R,jK k c1 a text=R:=⟨_,rfl⟩
  rw[hR]at bf yF hp1
  have HP2:=Lib.hid yF
  have uS:=Lib.hid hp1
  clear yF hp1
  unfold Eb at bf
  have IB:=dX (P:=Tryz.prog) (bH k) hKW Tryz.underlying66
  have IC:=dX (P:=Tryz.prog) (aF c1) yE Tryz.underlying41
  have IE:=dX (P:=Tryz.prog) (au a) Iz Tryz.underlying37
  clear hR AV hpo NY qB hLk cZ hLa e4 e7 e8 e9 Wj
  obtain⟨v8,vI⟩:=Wd.first WT
  rw[vI]
  clear vI
  go_upto_region 9 with(first|(refine aI (.tmp 4) (IB _) ?_)|(refine aI (.tmp 5) (IC _) ?_)|(refine aI (.tmp 6) (IE _) ?_)|(go_at_call 78;refine(bf _).mono ?_;rintro e w9 ⟨p,rfl,hbp,⟨hr1,hr2⟩,C9,bD⟩;obtain⟨v9,rfl⟩:=Wd.next _ bD)|(refine fM (ah.new v9.w 37 aH.cells.toArray) rfl 37 (.tmp 14) (.tmp 70) p.cells rfl rfl rfl (by kernel_rfl) (dL _) (Nat.le_refl 20) ?_))
  intro qC IG Dc
  rw[bC _ _ (by rfl)]at IG
  have jX:Q WT qC:=Dc _ _ v9.q.size (Q.trans v9.q (aO _ _ _))
  have Df:Q v9.w qC:=Dc _ _ (Nat.le_refl _) (aO _ _ _)
  generalize v9.w.heap.size=g14 at*
  have hr1:=hr1.q Df
  have hr2:=hr2.q Df
  have aat:=v8.q.size
  have II:iy (g8::g5::gs) qC p:=iy.wE ⟨gB hr1.rows,lY hr2.rows,C9.toC,C9.dF⟩ hr1 hr2 fun g hg2=>by have:=CY g hg2;omega
  have Rl:=yE.q jX
  have IJ:=wJ.q jX
  have Rn:=hTW.q jX
  have zH:=zG.q jX
  have dD:=Q.trans aJ jX
  have Ro:∀g∈(g8::g5::gs),g<qC.heap.size:=fun g hg2=>Nat.lt_of_lt_of_le (CY g hg2) jX.size
  clear bf IB IC IE hr1 hr2 Dc Df bD C9 hKW Iz yE wJ hTW hAW zG aJ CY
  have yG:=dX (P:=Tryz.prog) (aF c1) Rl Tryz.underlying41
  have Dh:=dX (P:=Tryz.prog) (au p) IG Tryz.underlying37
  obtain⟨R1,R2⟩:=R
  dsimp only at hbp⊢
  obtain⟨v10,IK⟩:=Wd.first qC
  rw[IK]
  clear IK
  by_cases h0:R2=0
  ·subst h0
   have HF:Hid (jf k c a text=(dK (aN c1) R1,true)):=Lib.hid (by rw[HP2.out];rfl)
   obtain⟨Rq,-⟩:=uS.out rfl
   have hsp:jU p:=by
    have hm:aP R1∈(dK (aN c1) R1).acts:=List.mem_append_right _ (List.mem_singleton.2 rfl)
    have h:=wX (Rq.right _ hm)
    have h1:R1.to.length<=64:=h.to
    have h2:R1.wraps.length<=64:=h.wraps
    exact Ns hbp ⟨by omega,by omega⟩
   have hLo:=fun y:Wd qC=>JQ c1 p y.w (Rn.q y.q) (zH.in.q y.q) (II.in.q y.q) hsp (by omega)
   unfold FN at hLo
   clear HP2 uS
   go_wp2_with (first|(refine aI (.tmp 5) (yG _) ?_)|(refine aI (.tmp 14) (Dh _) ?_)|(go_at_call 25;refine(hLo _).mono ?_;rintro e w15 ⟨sO,n15,rfl,IL,IQ,pz⟩;obtain⟨v15,rfl⟩:=Wd.next _ pz)|(refine eY (cs:=fE.cells) (v15.blk IJ) rfl 41 (.tmp 8) (.tmp 77) (dN c1 p sO n15).cells rfl rfl rfl (by kernel_rfl) (nJ _) (Nat.le_refl 6) ?_))
   intro W2 hW2 fJ ji
   rw[bC _ _ (by rfl)]at hW2
   have jc:Q w W2:=fJ _ _ (by omega) (Q.trans dD v15.q)
   have IU:dw (g8::g5::gs) v15.w (dN c1 p sO n15):=dw.long (zH.q v10.q) (II.q v10.q) pz IL IQ fun g hg2=>Nat.lt_of_lt_of_le (Ro g hg2) v10.q.size
   have Di:dw gs W2 (dN c1 p sO n15):=(IU.far fun b hb=>ji b fun e=>hb (e▸List.mem_cons_self ..)).sub fun g hg2=> .inl (List.mem_cons_of_mem _ (List.mem_cons_of_mem _ hg2))
   have hbl:aN (dN c1 p sO n15)=dK (aN c1) R1:=by rw[Nu,Nv c1 p R1 hbp,Nw (aN c1) c1 R1 (Ci c1)]
   clear fJ ji yG Dh hLo IU IL IQ pz
   go_wp2_with fail
   refine bodyPost_ret (nG rfl _ _ g8 41 (dN c1 p sO n15).cells.toArray (0,0) _ _ rfl rfl hW2 Tryz.underlying41 rfl (by kernel_rfl)) rfl ?_
   rw[HF.out]
   exact⟨_,rfl,hbl,Di,jc⟩
  ·have hne:(R2==0)=false:=beq_eq_false_iff_ne.2 h0
   have hne2:(R2 !=0)=true:=by rw[bne,hne];rfl
   have HF:Hid (jf k c a text=(aN c1,false)):=Lib.hid (by have h:=HP2.out;dsimp only at h;rw[h,hne];rfl)
   clear HP2 uS
   go_wp2_with (first|(refine aI (.tmp 5) (yG _) ?_)|(refine eY (cs:=fE.cells) (v10.blk IJ) rfl 41 (.tmp 8) (.tmp 74) c1.cells rfl rfl rfl (by kernel_rfl) (nJ _) (Nat.le_refl 6) ?_))
   intro W2 hW2 fJ ji
   rw[bC _ _ (by rfl)]at hW2
   have jc:Q w W2:=fJ _ _ (by omega) (Q.trans dD v10.q)
   have Di:dw gs W2 c1:=((zH.q v10.q).far fun b hb=>ji b fun e=>hb (e▸List.mem_cons_self ..)).sub fun g hg2=> .inl (List.mem_cons_of_mem _ (List.mem_cons_of_mem _ hg2))
   clear fJ ji yG Dh
   go_wp2_with fail
   refine bodyPost_ret (nG rfl _ _ g8 41 (aF c1) (0,0) _ _ rfl rfl hW2 Tryz.underlying41 rfl (by kernel_rfl)) rfl ?_
   rw[HF.out]
   exact⟨c1,rfl,rfl,Di,jc⟩
end Rel
end Go.Proofs.YtbemmjnjoabadaaGreatDoor
