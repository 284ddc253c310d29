/- part 25 -/
import Derived.Test.YtbemmjnjoabadaaGreatDoorK21
import Derived.Test.YtbemmjnjoabadaaGreatDoorK24
set_option linter.unusedVariables false
set_option linter.unusedSimpArgs false
set_option maxHeartbeats 16000000
set_option maxRecDepth 100000
namespace Go.Proofs.YtbemmjnjoabadaaGreatDoor
namespace Rel
open Go.RowKit aQ Mem _root_.Go.Proofs.YtbemmjnjoabadaaGreatDoor.Code aY Sign _root_.Go.Proofs.YtbemmjnjoabadaaGreatDoor.Item _root_.Go.Proofs.YtbemmjnjoabadaaGreatDoor.Known _root_.Go.Proofs.YtbemmjnjoabadaaGreatDoor.bP
def He(t:jV)(A1:Option Addr)(c1:Nat)(A2:Option Addr)(c2:Nat)(A3:Option Addr)(c3:Nat)(A4:Option Addr)(c4:Nat):List Value:=[.slice A1 (jl t.f).length c1, .slice A2 (jl t.a).length c2, .slice A3 (jl t.b).length c3, .slice A4 (jl t.m).length c4]
def YB(t:jV)(w:World)(e:Ending)(w':World):Prop:=∃A1 c1 A2 c2 A3 c3 A4 c4,e= .returned (.agg (He t A1 c1 A2 c2 A3 c3 A4 c4).toArray)/\((jl t.a).length<=c2/\c2<=maxLen/\dI w.heap.size w' A2 1 dP (jl t.a))/\((jl t.b).length<=c3/\c3<=maxLen/\dI w.heap.size w' A3 1 dP (jl t.b))/\Q w w'
theorem apC(t:jV)(A1:Option Addr)(c1:Nat)(A2:Option Addr)(c2:Nat)(A3:Option Addr)(c3:Nat)(A4:Option Addr)(c4:Nat):(He t A1 c1 A2 c2 A3 c3 A4 c4).toArray.all (·.oneCell')=true:=by simp[He,Value.oneCell']
theorem apD(a1 a2 a3 a4:Option Addr)(n1 n2 n3 n4 c1 c2 c3 c4:Nat)(w:World):(Instr.build 91 #[(0, .slice a1 n1 c1),(1, .slice a2 n2 c2),(2, .slice a3 n3 c3),(3, .slice a4 n4 c4)]).run Tryz.prog w= .ok (.agg #[.slice a1 n1 c1, .slice a2 n2 c2, .slice a3 n3 c3, .slice a4 n4 c4]) w:=by kernel_rfl
def UH:List Value:=[.slice none 0 0, .slice none 0 0, .slice none 0 0, .slice none 0 0]
theorem apE(c:ay)(n:Int)(w:World)(hT:Tab w)(hI:gX w c)(hs:∀a∈c.acts,jU a)(hz:∀a∈c.acts,a.target.size<=maxLen)(hn:c.acts.length<=100000):Calls Tryz.prog 36 #[.agg (aF c), .int .i64 n] w (YB (gV c (fH c n)) w):=by
 obtain⟨w1,x,hx,YC,hbk⟩:=boxedB w 41 c.cells
 have hx:w.alloc (.cells (aF c) 41)=x.w:=hx
 obtain⟨w2,y,hy,aeL,hbk2⟩:=boxedB x.w 91 UH
 have hy:x.w.alloc (.cells UH.toArray 91)=y.w:=hy
 unfold UH at hy
 have dR:Q w w2:=Q.trans YC (Q.trans x.q aeL)
 have hB1:ah w2 w.heap.size 41 (aF c):=hbk.q (Q.trans x.q aeL)
 have cZ:=dX (P:=Tryz.prog) (aF c) hB1 Tryz.underlying41
 have YD:=fun y:Wd w2=>tie_any c n y.w (hT.q (Q.trans dR y.q)) (hI.q (Q.trans dR y.q)) hs hz hn
 have hxs:=YC.size
 have axG:=x.q.size
 have hge:w.heap.size<=x.w.heap.size:=by omega
 have hgl:=hbk2.lt
 have HQ:=Lib.hid dR
 unfold UE at YD
 generalize hg4:x.w.heap.size=g4 at*
 generalize gV c (fH c n)=t at*
 clear hbk YC hT hI hB1
 go_enter Tryz.func36,Tryz.ntmps36
 go_upto_region 2 with(first|(refine aI (.tmp 2) (cZ _) ?_)|(go_at_call 87;refine(YD _).mono ?_;rintro e w' ⟨h,rfl,hF,hq⟩;obtain⟨y2,rfl⟩:=Wd.next _ hq;clear hq)|(refine fM (ah.new y2.w 155 #[.map none, .map none, .map none, .map none]) rfl 155 (.tmp 5) (.tmp 8) (o9 h).toList rfl rfl rfl (by kernel_rfl) (Yv _) (Nat.le_refl 4) ?_))
 intro W hW hbel
 rw[bC _ _ (by rfl)]at hW
 have aJ:Q w2 W:=hbel _ _ y2.q.size (Q.trans y2.q (aO _ _ _))
 have hF2:Four h 100000 W t:=hF.q (hbel _ _ (Nat.le_refl _) (aO _ _ _))
 have hB4:=hbk2.q aJ
 have hy2:=y2.q.size
 have hne:y2.w.heap.size≠g4:=by omega
 have aX:Q w W:=Q.trans HQ.out aJ
 have hBW:=aX.size
 generalize y2.w.heap.size=g5 at*
 clear YD cZ hF hbel hbk2
 go_upto_region 2 with(fail)
 have hWd:Q W W.drew:=(Q.refl _).drew
 refine uT (fun z=>jC w.heap.size g4 W z) (by kernel_rfl) ?_
 have hz0:jC w.heap.size g4 W W.drew:=jC.pV hWd hBW
 have c0:∀z,jC w.heap.size g4 W z->z.cell? ⟨g5,0,none⟩=some (.map (some (h+0))):=fun z hz=>(hz.blk hW hne).cell 0
 have c1:∀z,jC w.heap.size g4 W z->z.cell? ⟨g5,1,none⟩=some (.map (some (h+1))):=fun z hz=>(hz.blk hW hne).cell 1
 have c2:∀z,jC w.heap.size g4 W z->z.cell? ⟨g5,2,none⟩=some (.map (some (h+2))):=fun z hz=>(hz.blk hW hne).cell 2
 have c3:∀z,jC w.heap.size g4 W z->z.cell? ⟨g5,3,none⟩=some (.map (some (h+3))):=fun z hz=>(hz.blk hW hne).cell 3
 refine aS 0 (.pointer (some ⟨g5,0,none⟩)) hz0 ?_
 try simp only[aax]
 refine aS 3 (.pointer (some ⟨g5,1,none⟩)) hz0 ?_
 try simp only[aax]
 refine aS 6 (.pointer (some ⟨g5,2,none⟩)) hz0 ?_
 try simp only[aax]
 refine aS 9 (.pointer (some ⟨g5,3,none⟩)) hz0 ?_
 try simp only[aax]
 refine V7 1 (.map (some (h+0))) rfl hz0 (fun z hz=>oK Tryz.underlying153 (c0 z hz)) ?_
 try simp only[aax]
 refine V7 4 (.map (some (h+1))) rfl hz0 (fun z hz=>oK Tryz.underlying153 (c1 z hz)) ?_
 try simp only[aax]
 refine V7 7 (.map (some (h+2))) rfl hz0 (fun z hz=>oK Tryz.underlying153 (c2 z hz)) ?_
 try simp only[aax]
 refine V7 10 (.map (some (h+3))) rfl hz0 (fun z hz=>oK Tryz.underlying153 (c3 z hz)) ?_
 try simp only[aax]
 refine aW 2 fun K' hK'=> ?_
 go_simp
 refine(Ux (h+0) 100000 _ W.drew (hF2.f.q hWd) (Nat.le_refl _)).mono ?_
 rintro e z1 ⟨A1,k1,rfl,hl1,hm1,hS1,hq1⟩
 have aeM:=jC.q hz0 hq1 hBW
 refine hK' _ _ aeM ?_
 clear hK' K'
 try simp only[aax]
 have aeN:=Q.trans hWd hq1
 refine aW 5 fun K' hK'=> ?_
 go_simp
 refine(Ux (h+1) 100000 _ z1 (hF2.a.q aeN) (Nat.le_refl _)).mono ?_
 rintro e z2 ⟨A2,k2,rfl,hl2,hm2,hS2,hq2⟩
 have aeO:=jC.q aeM hq2 hBW
 replace hS1:=hS1.q hq2
 refine hK' _ _ aeO ?_
 clear hK' K'
 try simp only[aax]
 have aeP:=Q.trans aeN hq2
 refine aW 8 fun K' hK'=> ?_
 go_simp
 refine(Ux (h+2) 100000 _ z2 (hF2.b.q aeP) (Nat.le_refl _)).mono ?_
 rintro e z3 ⟨A3,k3,rfl,hl3,MF,hS3,hq3⟩
 have aeQ:=jC.q aeO hq3 hBW
 replace hS1:=hS1.q hq3
 replace hS2:=hS2.q hq3
 refine hK' _ _ aeQ ?_
 clear hK' K'
 try simp only[aax]
 have aeR:=Q.trans aeP hq3
 refine aW 11 fun K' hK'=> ?_
 go_simp
 refine(Ux (h+3) 100000 _ z3 (hF2.m.q aeR) (Nat.le_refl _)).mono ?_
 rintro e z4 ⟨A4,k4,rfl,hl4,hm4,hS4,hq4⟩
 have YE:=jC.q aeQ hq4 hBW
 replace hS1:=hS1.q hq4
 replace hS2:=hS2.q hq4
 replace hS3:=hS3.q hq4
 refine hK' _ _ YE ?_
 clear hK' K'
 try simp only[aax]
 have apF:=Q.trans aeR hq4
 refine V7 12 (.agg (He t A1 k1 A2 k2 A3 k3 A4 k4).toArray) rfl YE (fun z hz=>vT 91 _ #[(0, .slice A1 (jl t.f).length k1),(1, .slice A2 (jl t.a).length k2),(2, .slice A3 (jl t.b).length k3),(3, .slice A4 (jl t.m).length k4)] _ rfl (by simp only[List.map_toArray,List.map_cons,List.map_nil];rfl) (apD _ _ _ _ _ _ _ _ _ _ _ _ z)) ?_
 try simp only[aax]
 refine aW 13 fun K' hK'=> ?_
 refine oJ (hB4.q apF) 91 (.tmp 4) (.tmp 21) (He t A1 k1 A2 k2 A3 k3 A4 k4) rfl rfl rfl (by kernel_rfl) (apC t A1 k1 A2 k2 A3 k3 A4 k4) (Nat.le_refl 4) ?_
 intro V aeS aeT YF
 rw[bC _ _ (by rfl)]at aeS
 have YG:jC w.heap.size g4 W V:=YE.trans (jC.far (aeT _ _ hge (Below.refl _ _)) (aeT w.heap.size _ hge (Below.refl _ _)).size YF)
 refine hK' _ _ YG ?_
 clear hK' K'
 try simp only[aax]
 refine wpAnyH_done (by kernel_rfl) ?_ _
 have hs0:=hWd.size
 have hs1:=hq1.size
 have hs2:=hq2.size
 have apG:w.heap.size<=z1.heap.size:=by omega
 have apH:w.heap.size<=z2.heap.size:=by omega
 have hgW:g4<W.heap.size:=hB4.lt
 have apI:Q w V:=YG.qw aX
 have HF:Hid (YB t w (.returned (.agg (He t A1 k1 A2 k2 A3 k3 A4 k4).toArray)) V):=Lib.hid ⟨A1,k1,A2,k2,A3,k3,A4,k4,rfl,⟨hl2,hm2,(hS2.far (fun b hb=>YF b (by omega))).low apG⟩,⟨hl3,MF,(hS3.far (fun b hb=>YF b (by omega))).low apH⟩,apI⟩
 go_wp2_with fail
 exact bodyPost_ret (results_cell_row rfl _ _ g4 91 (He t A1 k1 A2 k2 A3 k3 A4 k4).toArray (0,0) _ rfl aeS Tryz.underlying91 rfl (by kernel_rfl)) rfl HF.out
def UJ(group:ByteArray)(a:ak):Bool:=(a.kind==15)&&(a.group.toList==group.toList)
def l7(group:ByteArray)(acts:List ak):Nat->List ByteArray
 |0=>[]
 |j+1=>match acts[j]? with
  |some a=>if UJ group a then a.to else l7 group acts j
  |none=>l7 group acts j
theorem apM(group:ByteArray)(acts:List ak)(j:Nat)(h:j<acts.length):l7 group acts (j+1)=if UJ group acts[j]then acts[j].to else l7 group acts j:=by rw[l7,List.getElem?_eq_getElem h]
def yX(c:ay)(n scope:Int)(group:ByteArray)(to:List ByteArray):List ByteArray:=
 if scope==1 then jl (gV c (fH c n)).a else if scope==2 then l7 group c.acts (fH c n)else if scope==3 then to else[]
def Ah(c:ay)(n:Int)(d:ByteArray):Bool:= !(d.toList==c.id.toList)&& !((jl (gV c (fH c n)).b).any fun x=>x.toList==d.toList)
def iM(c:ay)(n scope:Int)(group:ByteArray)(to:List ByteArray):List ByteArray:=jl ((yX c n scope group to).filter (Ah c n))
theorem apN{w:World}{base n:Nat}{e:TypeId}{sz:Nat}{A:Option Addr}{c:Nat}{xs:List Value}(h:aV w base e sz (.slice A n c) n xs)(hn:0<n):∃g,A=some ⟨g,0,none⟩/\base<=g/\g<w.heap.size:=by
 rcases h.2 with⟨_,h0⟩|⟨g,cap,cur,fz,hv,hb,hg,_⟩
 ·omega
 ·injection hv with h1 _ _
  exact⟨g,h1,hb,(Array.getElem?_eq_some_iff.1 hg).1⟩
theorem apO{α:Type}(p:α->Bool)(l:List α)(j:Nat)(h:j<l.length):(l.take (j+1)).filter p=(l.take j).filter p++if p l[j]then[l[j]]else[]:=by
 rw[List.take_succ_eq_append_getElem h,List.filter_append]
 congr 1
 cases hp:p l[j]<;>simp[hp]
theorem apP(b1 b2:Bool):b1=false∨(b1=true/\b2=false)∨(b1=true/\b2=true):=by
 cases b1<;>cases b2<;>simp
theorem apQ(x:Int):(x==1)=true∨((x==1)=false/\(x==2)=true)∨((x==1)=false/\(x==2)=false/\(x==3)=true)∨((x==1)=false/\(x==2)=false/\(x==3)=false):=by
 cases(x==1)<;>cases(x==2)<;>cases(x==3)<;>simp
theorem YI(c:ay)(n scope:Int)(group:ByteArray)(A:Option Addr)(cc:Nat)(to:List ByteArray)(w:World)(hT:Tab w)(hI:gX w c)(hs:∀a∈c.acts,jU a)(hz:∀a∈c.acts,a.target.size<=maxLen)(hn:c.acts.length<=100000)(hto:Strs w A to)(htl:to.length<=100000)(htz:∀a∈c.acts,a.to.length<=100000):
 Calls Tryz.prog 9 #[.agg (aF c), .int .i64 n, .int .i64 scope, .string group, .slice A to.length cc] w (yR (iM c n scope group to) w):=by
 have hmx:maxLen=9223372036854775807:=by decide
 obtain⟨i0,hi,hz0,hz1,hz2⟩:=info_parts Un
 obtain⟨w1,x,hx,hq1,hbk⟩:=boxedB w 41 c.cells
 have hx:w.alloc (.cells (aF c) 41)=x.w:=hx
 have cZ:=dX (P:=Tryz.prog) (aF c) hbk Tryz.underlying41
 have Ag:=fun y:Wd w1=>apE c n y.w (hT.q (Q.trans hq1 y.q)) (hI.q (Q.trans hq1 y.q)) hs hz hn
 have hal:=hI.aC
 have hlm:fH c n<=c.acts.length:=by unfold fH;omega
 have HM:=Lib.hid (show iM c n scope group to=jl ((yX c n scope group to).filter (Ah c n))from rfl)
 have sJ:=Lib.hid (show yX c n scope group to=if scope==1 then jl (gV c (fH c n)).a else if scope==2 then l7 group c.acts (fH c n)else if scope==3 then to else[]from rfl)
 have YJ:=Lib.hid (show Ah c n=fun d=> !(d.toList==c.id.toList)&& !((jl (gV c (fH c n)).b).any fun x=>x.toList==d.toList)from rfl)
 have hta:((gV c (fH c n)).a).length<=fH c n/\((gV c (fH c n)).b).length<=fH c n:=aew c _
 have hsa:=adS (gV c (fH c n)).a
 have hsb:=adS (gV c (fH c n)).b
 have hLi:=fun y:Wd w1=>ad9 c n y.w (by omega)
 have HQ:=Lib.hid hq1
 have hB0:=hbk
 unfold YB He at Ag
 generalize fH c n=m at*
 generalize hTT:gV c m=T at*
 generalize iM c n scope group to=MK at*
 generalize yX c n scope group to=LM at*
 generalize Ah c n=OK at*
 generalize jl T.f=TF at*
 generalize jl T.a=TA at*
 generalize jl T.b=TB at*
 generalize jl T.m=TM at*
 have hx0:=x.q.size
 clear hbk hT
 go_enter Tryz.func9,Tryz.ntmps9
 go_upto_region 2 with(first|(refine aI (.tmp 5) (cZ _) ?_)|(go_at_call 36;refine(Ag _).mono ?_;rintro e w' ⟨A1,k1,A2,k2,A3,k3,A4,k4,rfl,⟨hl2,hm2,hS2⟩,⟨hl3,MF,hS3⟩,hq2⟩;obtain⟨y,rfl⟩:=Wd.next _ hq2;clear hq2)|(refine fM (ah.new y.w 91 UH.toArray) rfl 91 (.tmp 11) (.tmp 20) [.slice A1 TF.length k1, .slice A2 TA.length k2, .slice A3 TB.length k3, .slice A4 TM.length k4] rfl rfl rfl (by kernel_rfl) (by simp[Value.oneCell']) (Nat.le_refl 4) ?_))
 intro W hW hbel
 rw[bC _ _ (by rfl)]at hW
 have aJ:Q w1 W:=hbel _ _ y.q.size (Q.trans y.q (aO _ _ _))
 have YK:Q y.w W:=hbel _ _ (Nat.le_refl _) (aO _ _ _)
 have d1:=aB (.slice A2 TA.length k2) hW 1
 have d2:=aB (.slice A3 TB.length k3) hW 2
 have c0:∀z:Wd W,z.w.cell? ⟨w.heap.size,0,none⟩=some (.string c.id):=fun z=>((hB0.q aJ).q z.q).cell 0
 have c1:∀z:Wd W,z.w.cell? ⟨w.heap.size,1,none⟩=some (.slice c.aA c.acts.length c.aC):=fun z=>((hB0.q aJ).q z.q).cell 1
 have uU:∀z:Wd W,(Instr.loadAt 41 (.pointer (some ⟨w.heap.size,0,none⟩))).run Tryz.prog z.w= .ok (.agg (aF c)) z.w:=fun z=>cZ ⟨z.w,Q.trans aJ z.q⟩
 have YL:∀z:Wd W,Calls Tryz.prog 37 #[.agg (aF c), .int .i64 n] z.w fun e w'=>e= .returned (.int .i64 (m:Int))/\Q z.w w':=fun z=>hLi ⟨z.w,Q.trans aJ z.q⟩
 have dR:Q w W:=Q.trans HQ.out aJ
 have PI:∀z:Wd W,Strs z.w A2 TA:=fun z=>(gB hS2.rows).q (Q.trans YK z.q)
 have Hg:∀z:Wd W,Strs z.w A3 TB:=fun z=>(gB hS3.rows).q (Q.trans YK z.q)
 have hST:∀z:Wd W,Strs z.w A to:=fun z=>hto.q (Q.trans dR z.q)
 have Fv:∀z:Wd W,gX z.w c:=fun z=>hI.q (Q.trans dR z.q)
 have UK:=Fv
 have JF:=fun(z:Wd W) (s:ByteArray)=>apL A3 k3 TB s z.w (Hg z) (by omega)
 have uh:=Lib.hid dR
 have hyW:=hW.lt
 clear hbel hW cZ Ag hLi hS2 hS3 hto hI aJ YK dR hB0
 generalize y.w.heap.size=g11 at*
 clear y hx
 obtain⟨v,hv⟩:=Wd.first W
 rw[hv]
 clear hv
 rcases apQ scope with h1|⟨h0,h1⟩|⟨h0,h2,h1⟩|⟨h0,h2,h1⟩
 case' inl=>
  have Fz:Hid (LM=TA):=Lib.hid (by rw[sJ.out,if_pos h1])
  have Hl:TA.length<=100000:=by omega
  clear sJ Hg hST Fv UK
  go_upto_region 16 with(fail)
  obtain⟨L,hL⟩:∃L,TA=L:=⟨_,rfl⟩
  obtain⟨B,Ho⟩:∃B,A2=B:=⟨_,rfl⟩
  obtain⟨cb,hcb⟩:∃cb,k2=cb:=⟨_,rfl⟩
  have Ai:=PI
  rw[hL,Ho,hcb]
  rw[hL]at Fz Hl Ai
  rw[Ho]at Ai
  clear PI hL Ho hcb d1
 case' inr.inl=>
  have Fz:Hid (LM=l7 group c.acts m):=Lib.hid (by rw[sJ.out,h0,if_neg (by simp),if_pos h1])
  clear sJ Hg hST PI
  go_wp2_with (first|(refine aI (.tmp 5) (uU _) ?_)|(go_at_call 37;refine(YL _).mono ?_;rintro e w' ⟨rfl,hq2⟩;obtain⟨v2,rfl⟩:=Wd.next _ hq2;clear hq2))
  go_loopw [12,31] (fun a i wr=>∃(j:Nat) (B:Option Addr) (cb:Nat) (z:Wd W),a= .slice B (l7 group c.acts j).length cb/\i= .int .i64 j/\wr=z.w/\j<=m/\(l7 group c.acts j).length<=100000/\Hid (∀z:Wd W,Strs z.w B (l7 group c.acts j))) (fun _ i _=>m-(intOf i).toNat)
  case' atStart=>exact⟨0,none,0,v2,rfl,rfl,rfl,Nat.zero_le _,Nat.zero_le _,Lib.hid fun z h=>by simp[l7]at h⟩
  case' round=>
   obtain⟨j,B,cb,z,rfl,rfl,rfl,hj,Hl,Ai⟩:=hrel
   by_cases hlt:j<m
   ·have dM:j<c.acts.length:=by omega
    have pX:(j:Int)<(m:Int):=by omega
    obtain⟨b,o,eA,hb0,hcs⟩:=(Fv z).acts (by omega)
    have hld:=Wd.load (P:=Tryz.prog) (ty:=37) hb0 (hcs j dM) Tryz.underlying37 rfl (by kernel_rfl) (⟨z.w,Q.refl _⟩:Wd z.w)
    have hld:(Instr.loadAt 37 (.pointer (some ⟨b,o+j*20,none⟩))).run Tryz.prog z.w= .ok (.agg (au c.acts[j])) z.w:=hld
    rw[eA]at c1
    have hgs:=apM group c.acts j dM
    have hAm:=fun z:Wd W=>((Fv z).each _ (List.getElem_mem dM)).to
    have hAl:=htz _ (List.getElem_mem dM)
    have hzs:=z.q.size
    obtain⟨nl,hnl⟩:∃nl,c.acts.length=nl:=⟨_,rfl⟩
    rw[hnl]at c1
    have Uo:j<nl:=by omega
    clear hcs eA UK
    generalize c.acts[j]=a at*
    go_wp2_with (first|(refine kR 38 37 (.tmp 35) (.tmp 36) b o nl c.aC j 20 rfl rfl rfl rfl Tryz.underlying38 (by kernel_rfl) Tryz.sizeOf37 Uo ?_)|(refine aI (.tmp 37) hld ?_)|(refine fM (ah.new z.w 37 aH.cells.toArray) rfl 37 (.tmp 14) (.tmp 38) a.cells rfl rfl rfl (by kernel_rfl) (dL _) (Nat.le_refl 20) ?_))
    intro W2 hW2 fJ
    rw[bC _ _ (by rfl)]at hW2
    have jc:Q z.w W2:=fJ _ _ (Nat.le_refl _) (aO _ _ _)
    have e3:W2.cell? ⟨z.w.heap.size,3,none⟩=some (.int .i64 a.kind):=hW2.cell 3
    have e8:W2.cell? ⟨z.w.heap.size,8,none⟩=some (.string a.group):=hW2.cell 8
    have e9:W2.cell? ⟨z.w.heap.size,9,none⟩=some (.slice a.toA a.to.length a.toC):=hW2.cell 9
    have aeV:Q W W2:=Q.trans z.q jc
    clear fJ hW2 hld uU YL
    unfold UJ at hgs
    rcases apP (a.kind==15) (a.group.toList==group.toList)with g1|⟨g1,g2⟩|⟨g1,g2⟩
    iterate 2
     ·have HS:Hid (l7 group c.acts (j+1)=l7 group c.acts j):=Lib.hid (by rw[hgs];simp[*])
      have HSL:=Ai
      clear hgs
      go_wp2_with fail
      exact⟨⟨j+1,B,cb,⟨W2,aeV⟩,by rw[HS.out],by go_num,rfl,by omega,by rw[HS.out];exact Hl,Lib.hid fun z=>by rw[HS.out];exact HSL.out z⟩,by simp only[intOf];omega⟩
    ·have HS:Hid (l7 group c.acts (j+1)=a.to):=Lib.hid (by rw[hgs];simp[*])
     have HAM:=Lib.hid hAm
     clear hgs hAm
     go_wp2_with fail
     exact⟨⟨j+1,a.toA,a.toC,⟨W2,aeV⟩,by rw[HS.out],by go_num,rfl,by omega,by rw[HS.out];exact hAl,Lib.hid fun z=>by rw[HS.out];exact HAM.out z⟩,by simp only[intOf];omega⟩
   obtain rfl:j=m:=by omega
   have uO:¬((j:Int)<(j:Int)):=by omega
   clear UK Fv YL uU
   go_upto_region 16 with(fail)
   replace Ai:=Ai.out
   generalize l7 group c.acts j=L at*
   obtain⟨v,hv⟩:∃v:Wd W,z.w=v.w:=⟨z,rfl⟩
   rw[hv]
   clear hv
 case' inr.inr.inl=>
  have Fz:Hid (LM=to):=Lib.hid (by rw[sJ.out,h0,h2,if_neg (by simp),if_neg (by simp),if_pos h1])
  have Hl:=htl
  clear sJ Hg PI Fv UK
  go_upto_region 16 with(fail)
  obtain⟨L,hL⟩:∃L,to=L:=⟨_,rfl⟩
  obtain⟨B,Ho⟩:∃B,A=B:=⟨_,rfl⟩
  obtain⟨cb,hcb⟩:∃cb,cc=cb:=⟨_,rfl⟩
  have Ai:=hST
  rw[hL,Ho,hcb]
  rw[hL]at Fz Hl Ai
  rw[Ho]at Ai
  clear hST
 case' inr.inr.inr=>
  have Fz:Hid (LM=[]):=Lib.hid (by rw[sJ.out,h0,h2,h1,if_neg (by simp),if_neg (by simp),if_neg (by simp)])
  have hso:=fun w=>Tryz.slices_Sort_string_none none 0 w
  have hco:=fun w=>Tryz.slices_Compact_string_empty none 0 w
  have HF:Hid (∀z:Wd W,yR MK w (.returned (.slice none 0 0)) z.w):=Lib.hid fun z=>by
   rw[HM.out,Fz.out]
   exact⟨none,0,rfl,Nat.le_refl _,Nat.zero_le _,fun h=>by simp[jl]at h,Q.trans uh.out z.q⟩
  clear sJ Hg PI hST Fv HM Fz
  go_wp2_with fail
  go_loopw [15,56] (fun a i wr=>a= .slice none 0 0/\i= .int .i64 0/\∃z:Wd W,wr=z.w) (fun _ i _=>0-(intOf i).toNat)
  case' atStart=>exact⟨rfl,rfl,v,rfl⟩
  case' round=>
   obtain⟨rfl,rfl,z,rfl⟩:=hrel
   go_wp2_with (first|(go_at_call 39;refine(hso _).mono ?_;rintro e w' ⟨rfl,rfl⟩)|(go_at_call 40;refine(hco _).mono ?_;rintro e w' ⟨rfl,rfl⟩))
   go_ret
   exact HF.out z
 all_goals
  obtain⟨nl,hnl⟩:∃nl,L.length=nl:=⟨_,rfl⟩
  rw[hnl]
  rw[hnl]at Hl
  have hSo:=fun(g cap n:Nat) (zs:List (List UInt8)) (w:World) (e:n=zs.length) (hH:Go.Sort.Holds vV w g 0 zs.toArray) (hg:g<w.heap.size) (hl:zs.length<=100000)=>adZ g cap n zs w e hH hg hl
  have MH:=JF
  clear JF
  go_wp2_with fail
  go_loopw [15,56] (fun a i wr=>∃(j:Nat) (D:Option Addr) (cd:Nat) (ss:List ByteArray) (z:Wd W),a= .slice D ss.length cd/\i= .int .i64 j/\wr=z.w/\j<=nl/\ss.length<=j/\ss.length<=cd/\cd<=maxLen/\Hid (ss=(L.take j).filter OK)/\aV z.w W.heap.size 9 1 (.slice D ss.length cd) ss.length (ss.flatMap dP)) (fun _ i _=>nl-(intOf i).toNat)
  case' atStart=>exact⟨0,none,0,[],v,rfl,rfl,rfl,Nat.zero_le _,Nat.zero_le _,Nat.zero_le _,Nat.zero_le _,Lib.hid rfl,aV.nil_ _ _ _ _⟩
  case' round=>
   obtain⟨j,D,cd,ss,z,rfl,rfl,rfl,hj,hsj,hsc,hcm,hss,hown⟩:=hrel
   by_cases hlt:j<nl
   ·have dM:j<L.length:=by omega
    have pX:(j:Int)<(nl:Int):=by omega
    have hpos:(0:Int)<=(j:Int):=by omega
    obtain⟨b,o,eB,hb0,hcs⟩:=Ai z (by omega)
    subst eB
    have cx:z.w.cell? ⟨b,o+j,none⟩=some (.string L[j]):=hcs j dM
    have FB:=apO OK L j dM
    have FC:OK L[j]=(!(L[j].toList==c.id.toList)&& !(PG TB L[j])):=by rw[YJ.out];rfl
    have c0z:z.w.cell? ⟨w.heap.size,0,none⟩=some (.string c.id):=c0 z
    have d2z:z.w.cell? ⟨g11,2,none⟩=some (.slice A3 TB.length k3):=d2 z
    have hzs:=z.q.size
    clear hcs c0 d2 Ai
    generalize L[j]=d at*
    have PK:=MH z d
    generalize PG TB d=hs9 at*
    cases he:(d.toList==c.id.toList)
    ·cases hs9
     ·rw[he]at FC
      rw[show OK d=true from FC,if_pos rfl]at FB
      have PL:Hid (ss++[d]=(L.take (j+1)).filter OK):=Lib.hid (by rw[FB,<-hss.out])
      have HOW:=Lib.hid hown
      clear hown FB FC hss
      go_wp2_with fail
      refine PK.mono ?_
      rintro e w5 ⟨rfl,q5⟩
      have hown5:=HOW.out.q q5
      have JM:=Q.trans z.q q5
      have hs5:=JM.size
      clear PK HOW
      go_wp2_with (at_builtin;refine Jw kZ oZ rfl (.tmp 71) (.tmp 73) 30 9 i0 _ 16 rfl Tryz.underlying30 hi hz0 hz1 hz2 rfl (by decide) (by decide) W.heap.size (.slice D ss.length cd) ss.length _ rfl (hown5.alloc (.cells #[.string d] 9)) (some ⟨w5.heap.size,0,none⟩) 1 1 [d] rfl (dS.one w5 9 d _ rfl) rfl (by omega) (by simp;omega) ?_)
      intro A9 c9 w9 kU jd eX bW
      have bD:Q W w9:=fB (Q.trans JM (aO _ _ _)) (Nat.le_refl _) (hown5.alloc _) bW
      have hlen:(ss++[d]).length=ss.length+1:=by simp
      have eF:ss.flatMap dP++dP d=(ss++[d]).flatMap dP:=by simp
      rw[eF,<-hlen]at eX
      have FD:=Lib.hid eX
      clear eX bW hown5
      go_wp2_with fail
      exact⟨⟨j+1,A9,c9,ss++[d],⟨w9,bD⟩,by rw[hlen],by go_num,rfl,by omega,by rw[hlen];omega,by rw[hlen];omega,jd,PL,FD.out⟩,by simp only[intOf];omega⟩
     ·rw[he]at FC
      rw[show OK d=false from FC,if_neg (by simp),List.append_nil]at FB
      have PL:Hid (ss=(L.take (j+1)).filter OK):=Lib.hid (by rw[FB,<-hss.out])
      have HOW:=Lib.hid hown
      clear hown FB FC hss
      go_wp2_with fail
      refine PK.mono ?_
      rintro e w5 ⟨rfl,q5⟩
      have MI:=Lib.hid (HOW.out.q q5)
      have JM:=Q.trans z.q q5
      clear PK HOW
      go_wp2_with fail
      exact⟨⟨j+1,D,cd,ss,⟨w5,JM⟩,rfl,by go_num,rfl,by omega,by omega,hsc,hcm,PL,MI.out⟩,by simp only[intOf];omega⟩
    ·rw[he]at FC
     rw[show OK d=false from FC,if_neg (by simp),List.append_nil]at FB
     have PL:Hid (ss=(L.take (j+1)).filter OK):=Lib.hid (by rw[FB,<-hss.out])
     have HOW:=Lib.hid hown
     clear hown FB FC hss PK
     go_wp2_with fail
     exact⟨⟨j+1,D,cd,ss,z,rfl,by go_num,rfl,by omega,by omega,hsc,hcm,PL,HOW.out⟩,by simp only[intOf];omega⟩
   ·obtain rfl:j=nl:=by omega
    have uO:¬((j:Int)<(j:Int)):=by omega
    have hse:ss=L.filter OK:=by rw[hss.out,<-hnl,List.take_length]
    have UL:MK=(Lib.compact (pW (ss.map toB))).map uN:=by rw[HM.out,Fz.out,aoE,hse]
    have hqz:=Q.trans uh.out z.q
    have hWw:=uh.out.size
    clear hss hse Ai c0 d2 MH HM Fz
    rcases Nat.eq_zero_or_pos ss.length with h0|h0
    ·have hs0:ss=[]:=List.length_eq_zero_iff.1 h0
     subst hs0
     have hM0:MK=[]:=by rw[UL];exact congrArg (List.map uN) (show Lib.compact (pW (List.map toB []))=[]from List.eq_nil_of_length_eq_zero (Nat.le_zero.1 (Nat.le_trans (X8 _) (by rw[O5];exact Nat.le_refl _))))
     have hso:=fun w=>Tryz.slices_Sort_string_none D cd w
     have hco:=fun w=>Tryz.slices_Compact_string_empty D cd w
     have HF:Hid (yR MK w (.returned (.slice D 0 cd)) z.w):=Lib.hid (by rw[hM0];exact⟨D,cd,rfl,hsc,hcm,fun h=>by simp at h,hqz⟩)
     clear hown UL hM0 hqz
     go_wp2_with (first|(go_at_call 39;refine(hso _).mono ?_;rintro e w' ⟨rfl,rfl⟩)|(go_at_call 40;refine(hco _).mono ?_;rintro e w' ⟨rfl,rfl⟩))
     go_ret
     exact HF.out
    ·obtain⟨g,rfl,hb,hg⟩:=apN hown h0
     have hHo:=aoJ hown rfl
     have hS:=adZ g cd ss.length (ss.map toB) z.w (by simp) hHo hg (by simp;omega)
     have hC:=fun(w5:World) (hH:Go.Sort.Holds vV w5 g 0 (pW (ss.map toB)).toArray)=>aoH g cd ss.length (pW (ss.map toB)) w5 (by rw[O5,List.length_map]) hH (by rw[O5,List.length_map];omega) (by rw[O5,List.length_map];exact hsc)
     have hcl:(Lib.compact (pW (ss.map toB))).length<=ss.length:=by
      have h1:=X8 (pW (ss.map toB))
      rwa[O5,List.length_map]at h1
     have hgw:w.heap.size<=g:=by omega
     have uV:∀w6,Go.Sort.Holds vV w6 g 0 (Lib.compact (pW (ss.map toB))).toArray->g<w6.heap.size->Q w w6->Hid (yR MK w (.returned (.slice (some ⟨g,0,none⟩) (Lib.compact (pW (ss.map toB))).length cd)) w6):=fun w6 hH h6 hq=>Lib.hid (by
      rw[UL]
      refine⟨some ⟨g,0,none⟩,cd,by rw[List.length_map],by rw[List.length_map];omega,hcm,fun h0=> ?_,hq⟩
      obtain⟨b2,o2,e2,h2,h3⟩:=Jz (aoI hH h6) h0
      injection e2 with e2
      injection e2 with e2 e3
      subst e2 e3
      exact⟨g,0,rfl,hgw,h2,h3⟩)
     generalize pW (ss.map toB)=zs at*
     generalize Lib.compact zs=cs at*
     clear hown UL hHo
     go_wp2_with (first|(go_at_call 39;refine hS.mono ?_;rintro e w5 ⟨rfl,hH5,hg5⟩;have hq5:Q w w5:=Below.grown hqz hg5 hqz.size (fun kk hk=>by cases hk;exact hgw))|(go_at_call 40;refine(hC w5 hH5).mono ?_;rintro e w6 ⟨rfl,hH6,MJ⟩;have hq6:Q w w6:=Below.grown hq5 MJ hq5.size (fun kk hk=>by cases hk;exact hgw)))
     go_ret
     exact(uV w6 hH6 (Nat.lt_of_lt_of_le hg (Nat.le_trans hg5.size MJ.size)) hq6).out
def vY(c:ay)(n scope:Int)(group:ByteArray):Option ak:=if(bZ c n scope group).2 then c.acts[(bZ c n scope group).1]? else none
def l9(c:ay)(n scope:Int)(group:ByteArray):Int:=((vY c n scope group).map (·.epoch)).getD 0
def vZ(c:ay)(n scope:Int)(group:ByteArray):List ByteArray:=((vY c n scope group).map (·.to)).getD []
def ML(E:Int)(L:List ByteArray)(ok:Bool)(w:World)(e:Ending)(w':World):Prop:=∃(A:Option Addr) (k:Nat),e= .returned (.tuple #[.int .i64 E, .slice A L.length k, .bool ok])/\L.length<=k/\k<=maxLen/\Strs w' A L/\Q w w'
theorem results_tmp3{fn:Func}{t u v:Tmp}(h:fn.results= #[.tmp t, .tmp u, .tmp v])(tmps:Array Value)(P:Program)(w:World):(results fn tmps).run P w= .ok (.tuple #[tmps.getD t undef,tmps.getD u undef,tmps.getD v undef]) w:=by
 simp[results,h]
theorem apS(c:ay)(n scope:Int)(group:ByteArray)(h:(bZ c n scope group).2=true):(bZ c n scope group).1<c.acts.length:=by
 unfold bZ at h⊢
 have h1:=(O8 scope group c.acts (fH c n)).2.2 (by simpa using h)
 have:fH c n<=c.acts.length:=by unfold fH;omega
 show(gG scope group c.acts (fH c n)).1<_
 omega
theorem YM(c:ay)(n scope:Int)(group:ByteArray)(w:World)(hI:gX w c)(hs:∀a∈c.acts,a.to.length<=100000):Calls Tryz.prog 121 #[.agg (aF c), .int .i64 n, .int .i64 scope, .string group] w (ML (l9 c n scope group) (vZ c n scope group) (bZ c n scope group).2 w):=by
 have hmx:maxLen=9223372036854775807:=by decide
 obtain⟨w1,x,hx,hq1,hbk⟩:=boxedB w 41 c.cells
 have hx:w.alloc (.cells (aF c) 41)=x.w:=hx
 have cZ:=dX (P:=Tryz.prog) (aF c) hbk Tryz.underlying41
 have iK:=fun y:Wd w1=>Jt c n scope group y.w (hI.q (Q.trans hq1 y.q))
 have hIn:=fun y:Wd w1=>hI.q (Q.trans hq1 y.q)
 have hlt:=apS c n scope group
 have HA:=Lib.hid (show vY c n scope group=if(bZ c n scope group).2 then c.acts[(bZ c n scope group).1]? else none from rfl)
 have HN:=Lib.hid (show l9 c n scope group=((vY c n scope group).map (·.epoch)).getD 0 from rfl)
 have HL:=Lib.hid (show vZ c n scope group=((vY c n scope group).map (·.to)).getD []from rfl)
 generalize l9 c n scope group=E at*
 generalize vZ c n scope group=L at*
 generalize vY c n scope group=EA at*
 generalize bZ c n scope group=gk at*
 obtain⟨g,ok⟩:=gk
 dsimp only at iK hlt HA⊢
 have HQ:=Lib.hid hq1
 cases ok
 ·have hE:EA=none:=by rw[HA.out];rfl
  rw[hE]at HN HL
  have HF:Hid (∀y:Wd w1,ML E L false w (.returned (.tuple #[.int .i64 0, .slice none 0 0, .bool false])) y.w):=Lib.hid fun y=>by
   rw[HN.out,HL.out]
   exact⟨none,0,rfl,Nat.le_refl _,Nat.zero_le _,fun h=>by simp at h,Q.trans HQ.out y.q⟩
  clear HN HL hE HA hlt hIn
  go_enter Tryz.func121,Tryz.ntmps121
  go_wp2_with (first|(refine aI (.tmp 4) (cZ _) ?_)|(go_at_call 45;refine(iK _).mono ?_;rintro e w' ⟨rfl,hq2⟩;obtain⟨y,rfl⟩:=Wd.next _ hq2;clear hq2))
  refine bodyPost_ret (results_tmp3 rfl _ _ _) rfl ?_
  simpa using HF.out y
 ·have hgl:=hlt rfl
  have hE:EA=some c.acts[g]:=by rw[HA.out,if_pos rfl,List.getElem?_eq_getElem hgl]
  rw[hE]at HN HL
  have hNN:E=c.acts[g].epoch:=HN.out
  have hLL:L=c.acts[g].to:=HL.out
  obtain⟨b,o,eA,hb0,hcs⟩:=(hIn x).acts (by omega)
  have uQ:∀(y:Wd w1) i v,c.acts[g].cells[i]?=some v->y.w.cell? ⟨b,o+g*20+i,none⟩=some v:=fun y i v hv=>by
   obtain⟨b2,o2,G9,hb2,hcs2⟩:=(hIn y).acts (by omega)
   rw[eA]at G9
   injection G9 with h1
   injection h1 with h1 h2
   subst h1 h2
   exact Wd.get hb2 (hcs2 g hgl) i hv (⟨y.w,Q.refl _⟩:Wd y.w)
  have hc1:∀y:Wd w1,y.w.cell? ⟨w.heap.size,1,none⟩=some (.slice (some ⟨b,o,none⟩) c.acts.length c.aC):=fun y=>eA▸(y.blk hbk).cell 1
  have hAm:=fun y:Wd w1=>(hIn y).each _ (List.getElem_mem hgl)
  have hsa:=hs _ (List.getElem_mem hgl)
  have xY:=fun y:Wd w1=>LW c.acts[g].toA c.acts[g].toC c.acts[g].to y.w (Jz (hAm y).to) (by omega)
  have k9:∀y:Wd w1,y.w.cell? ⟨b,o+g*20+9,none⟩=some (.slice c.acts[g].toA c.acts[g].to.length c.acts[g].toC):=fun y=>uQ y 9 _ rfl
  have k14:∀y:Wd w1,y.w.cell? ⟨b,o+g*20+14,none⟩=some (.int .i64 c.acts[g].epoch):=fun y=>uQ y 14 _ rfl
  have hal:=(hIn x).aC
  rw[<-hNN]at k14
  rw[<-hLL]at k9 xY hsa
  have hBW:=hq1.size
  unfold O1 at xY
  generalize c.acts[g].toA=TA at*
  generalize c.acts[g].toC=TC at*
  obtain⟨nl,hnl⟩:∃nl,c.acts.length=nl:=⟨_,rfl⟩
  rw[hnl]at hc1 hgl
  clear uQ HN HL HA hE hNN hLL hlt hcs hIn hAm eA hal
  go_enter Tryz.func121,Tryz.ntmps121
  go_upto_region 4 with(first|(refine aI (.tmp 4) (cZ _) ?_)|(go_at_call 45;refine(iK _).mono ?_;rintro e w' ⟨rfl,hq2⟩;obtain⟨y,rfl⟩:=Wd.next _ hq2;clear hq2))
  clear cZ iK
  refine ac4 (fun z=>Q w1 z) (by kernel_rfl) (Q.trans y.q (Q.refl _).drew) ?_
  intro z hz0
  have f1:∀z,Q w1 z->z.cell? ⟨w.heap.size,1,none⟩=some (.slice (some ⟨b,o,none⟩) nl c.aC):=fun z hz=>hc1 ⟨z,hz⟩
  have f9:∀z,Q w1 z->z.cell? ⟨b,o+g*20+9,none⟩=some (.slice TA L.length TC):=fun z hz=>k9 ⟨z,hz⟩
  have f14:∀z,Q w1 z->z.cell? ⟨b,o+g*20+14,none⟩=some (.int .i64 E):=fun z hz=>k14 ⟨z,hz⟩
  refine aS 0 (.pointer (some ⟨w.heap.size,1,none⟩)) hz0 ?_
  try simp only[aax]
  refine V7 1 (.slice (some ⟨b,o,none⟩) nl c.aC) rfl hz0 (fun z hz=>oK Tryz.underlying38 (f1 z hz)) ?_
  try simp only[aax]
  refine aS 2 (.int .i64 (g:Int)) hz0 ?_
  try simp only[aax]
  refine V7 3 (.pointer (some ⟨b,o+g*20,none⟩)) rfl hz0 (fun z hz=>BK 38 37 _ _ b o nl c.aC g 20 rfl rfl rfl Tryz.underlying38 (by kernel_rfl) Tryz.sizeOf37 hgl) ?_
  try simp only[aax]
  refine aS 4 (.pointer (some ⟨b,o+g*20+14,none⟩)) hz0 ?_
  try simp only[aax]
  refine V7 5 (.int .i64 E) rfl hz0 (fun z hz=>oK Tryz.underlying3 (f14 z hz)) ?_
  try simp only[aax]
  refine aS 6 (.pointer (some ⟨w.heap.size,1,none⟩)) hz0 ?_
  try simp only[aax]
  refine V7 7 (.slice (some ⟨b,o,none⟩) nl c.aC) rfl hz0 (fun z hz=>oK Tryz.underlying38 (f1 z hz)) ?_
  try simp only[aax]
  refine aS 8 (.int .i64 (g:Int)) hz0 ?_
  try simp only[aax]
  refine V7 9 (.pointer (some ⟨b,o+g*20,none⟩)) rfl hz0 (fun z hz=>BK 38 37 _ _ b o nl c.aC g 20 rfl rfl rfl Tryz.underlying38 (by kernel_rfl) Tryz.sizeOf37 hgl) ?_
  try simp only[aax]
  refine aS 10 (.pointer (some ⟨b,o+g*20+9,none⟩)) hz0 ?_
  try simp only[aax]
  refine V7 11 (.slice TA L.length TC) rfl hz0 (fun z hz=>oK Tryz.underlying30 (f9 z hz)) ?_
  try simp only[aax]
  refine aW 12 fun K' hK'=> ?_
  go_simp
  refine(xY ⟨z,hz0⟩).mono ?_
  rintro e z1 ⟨CA,cc,rfl,hl1,hm1,hS1,hq5⟩
  have hz1:=Q.trans hz0 hq5
  refine hK' _ _ hz1 ?_
  clear hK' K'
  try simp only[aax]
  refine aS 13 (.int .i64 E) hz1 ?_
  try simp only[aax]
  refine aS 14 (.slice CA L.length cc) hz1 ?_
  try simp only[aax]
  refine aS 15 (.bool true) hz1 ?_
  try simp only[aax]
  refine wpAnyH_done (by kernel_rfl) ?_ _
  have HF:Hid (ML E L true w (.returned (.tuple #[.int .i64 E, .slice CA L.length cc, .bool true])) z1):=Lib.hid ⟨CA,cc,rfl,hl1,hm1,gB hS1.rows,Q.trans HQ.out hz1⟩
  clear hS1
  go_wp2_with fail
  refine bodyPost_ret (results_tmp3 rfl _ _ _) rfl ?_
  simpa using HF.out
def pq(c:ay)(n scope:Int)(group:ByteArray)(to:List ByteArray):Bool:= !(bZ c n scope group).2|| !(decide (vZ c n scope group=iM c n scope group to))
theorem aeY(c:ay)(n scope:Int)(group:ByteArray)(A:Option Addr)(cc:Nat)(to:List ByteArray)(w:World)(hT:Tab w)(hI:gX w c)(hs:∀a∈c.acts,jU a)(hz:∀a∈c.acts,a.target.size<=maxLen)(hn:c.acts.length<=100000)(hto:Strs w A to)(htl:to.length<=100000)(htz:∀a∈c.acts,a.to.length<=100000):
 Calls Tryz.prog 76 #[.agg (aF c), .int .i64 n, .int .i64 scope, .string group, .slice A to.length cc] w fun e w'=>e= .returned (.bool (pq c n scope group to))/\Q w w':=by
 have hmx:maxLen=9223372036854775807:=by decide
 obtain⟨w1,x,hx,hq1,hbk⟩:=boxedB w 41 c.cells
 have hx:w.alloc (.cells (aF c) 41)=x.w:=hx
 have cZ:=dX (P:=Tryz.prog) (aF c) hbk Tryz.underlying41
 have wu:=fun y:Wd w1=>YM c n scope group y.w (hI.q (Q.trans hq1 y.q)) htz
 have hMe:=fun y:Wd w1=>YI c n scope group A cc to y.w (hT.q (Q.trans hq1 y.q)) (hI.q (Q.trans hq1 y.q)) hs hz hn (hto.q (Q.trans hq1 y.q)) htl htz
 have hEq:∀(A1 A2:Option Addr) (c1 c2:Nat) (l1 l2:List ByteArray) (y:Wd w1),Strs y.w A1 l1->Strs y.w A2 l2->l1.length<=9223372036854775807->l2.length<=9223372036854775807->Calls Tryz.prog 122 #[.slice A1 l1.length c1, .slice A2 l2.length c2] y.w fun e w'=>e= .returned (.bool (decide (l1=l2)))/\Q y.w w':=fun A1 A2 c1 c2 l1 l2 y h1 h2 h3 h4=>XV A1 A2 c1 c2 l1 l2 y.w h1 h2 h3 h4
 have HR:=Lib.hid (show pq c n scope group to=(!(bZ c n scope group).2|| !(decide (vZ c n scope group=iM c n scope group to)))from rfl)
 have HQ:=Lib.hid hq1
 unfold ML at wu
 unfold yR at hMe
 generalize l9 c n scope group=E at*
 generalize vZ c n scope group=L at*
 generalize iM c n scope group to=M at*
 generalize (bZ c n scope group).2=ok at*
 clear hbk hq1 hT hI hto
 cases ok
 ·have hR:pq c n scope group to=true:=by rw[HR.out];rfl
  have HRR:=Lib.hid hR
  clear hR HR hMe hEq
  go_enter Tryz.func76,Tryz.ntmps76
  go_wp2_with (first|(refine aI (.tmp 5) (cZ _) ?_)|(go_at_call 121;refine(wu _).mono ?_;rintro e w' ⟨A1,k1,rfl,hl1,hm1,hS1,hq2⟩;obtain⟨y,rfl⟩:=Wd.next _ hq2;clear hq2))
  go_ret
  exact⟨by rw[HRR.out];rfl,Q.trans HQ.out y.q⟩
 ·have HRR:Hid (pq c n scope group to= !(decide (L=M))):=Lib.hid (by rw[HR.out];rfl)
  clear HR
  go_enter Tryz.func76,Tryz.ntmps76
  go_wp2_with (first|(refine aI (.tmp 5) (cZ _) ?_)|(go_at_call 121;refine(wu _).mono ?_;rintro e w' ⟨A1,k1,rfl,hl1,hm1,hS1,hq2⟩;obtain⟨y,rfl⟩:=Wd.next _ hq2;clear hq2)|(go_at_call 9;refine(hMe _).mono ?_;rintro e w' ⟨A2,k2,rfl,hl2,hm2,hS2,hq3⟩;replace hS1:=hS1.q hq3;obtain⟨y2,rfl⟩:=Wd.next _ hq3;clear hq3)|(go_at_call 122;refine(hEq A1 A2 k1 k2 L M y2 hS1 (gB hS2.rows) (by omega) (by omega)).mono ?_;rintro e w' ⟨rfl,hq4⟩;obtain⟨y3,rfl⟩:=Wd.next _ hq4;clear hq4))
  go_ret
  exact⟨by rw[HRR.out];rfl,Q.trans HQ.out y3.q⟩
def mF(k:Int×Int)(c:ay)(a:ak):Int×Bool:=
 if pq c c.acts.length a.scope a.group a.to then(0,false)
 else if(eP c (bZ c c.acts.length a.scope a.group).1).isSome&&(((eP c (bZ c c.acts.length a.scope a.group).1).getD gK).pub==k.2)then(l9 c c.acts.length a.scope a.group,true)
 else(0,false)
theorem ark(k:Int×Int)(c:ay)(a:ak)(w:World)(hT:Tab w)(hI:gX w c)(hA:bU w a)(hs:∀a∈c.acts,jU a)(hz:∀a∈c.acts,a.target.size<=maxLen)(hn:c.acts.length<=100000)(htl:a.to.length<=100000)(htz:∀a∈c.acts,a.to.length<=100000):
 Calls Tryz.prog 124 #[.agg (bH k), .agg (aF c), .agg (au a)] w fun e w'=>e= .returned (.tuple #[.int .i64 (mF k c a).1, .bool (mF k c a).2])/\Q w w':=by
 have hmx:maxLen=9223372036854775807:=by decide
 obtain⟨w1,y1,hy1,hq1,hbk1⟩:=boxedB w 66 [.int .i64 k.1, .int .i64 k.2]
 have hy1:w.alloc (.cells (bH k) 66)=y1.w:=hy1
 obtain⟨w2,y2,hy2,hq2,hbk2⟩:=boxedB y1.w 41 c.cells
 have hy2:y1.w.alloc (.cells (aF c) 41)=y2.w:=hy2
 obtain⟨w3,y3,hy3,hq3,lJ⟩:=boxedB y2.w 37 a.cells
 have hy3:y2.w.alloc (.cells (au a) 37)=y3.w:=hy3
 have dR:Q w w3:=Q.trans (Q.trans (Q.trans hq1 y1.q) (Q.trans hq2 y2.q)) hq3
 have hB1:ah w3 w.heap.size 66 (bH k):=hbk1.q (Q.trans y1.q (Q.trans hq2 (Q.trans y2.q hq3)))
 have hB2:ah w3 y1.w.heap.size 41 c.cells.toArray:=hbk2.q (Q.trans y2.q hq3)
 have d1:=aB (.int .i64 k.2) hB1 1
 have c1:=aB (.slice c.aA c.acts.length c.aC) hB2 1
 have e7:=aB (.int .i64 a.scope) lJ 7
 have e8:=aB (.string a.group) lJ 8
 have e9:=aB (.slice a.toA a.to.length a.toC) lJ 9
 have cZ:=dX (P:=Tryz.prog) (aF c) hB2 Tryz.underlying41
 have Qh:=fun y:Wd w3=>hI.q (Q.trans dR y.q)
 have hFr:=fun y:Wd w3=>aeY c c.acts.length a.scope a.group a.toA a.toC a.to y.w (hT.q (Q.trans dR y.q)) (Qh y) hs hz hn (hA.to.q (Q.trans dR y.q)) htl htz
 have iK:=fun y:Wd w3=>Jt c c.acts.length a.scope a.group y.w (Qh y)
 have wu:=fun y:Wd w3=>YM c c.acts.length a.scope a.group y.w (Qh y) htz
 have gq:=fun y:Wd w3=>O9 c ((bZ c c.acts.length a.scope a.group).1:Int) y.w (Qh y)
 have hfg:pq c c.acts.length a.scope a.group a.to=false->(bZ c c.acts.length a.scope a.group).2=true:=fun h=>by
  unfold pq at h
  cases hg:(bZ c c.acts.length a.scope a.group).2
  ·rw[hg]at h;cases h
  ·rfl
 have HR:=Lib.hid (show mF k c a=if pq c c.acts.length a.scope a.group a.to then(0,false)else if(eP c (bZ c c.acts.length a.scope a.group).1).isSome&&(((eP c (bZ c c.acts.length a.scope a.group).1).getD gK).pub==k.2)then(l9 c c.acts.length a.scope a.group,true)else(0,false)from rfl)
 have HQ:=Lib.hid dR
 unfold ML at wu
 unfold BD at gq
 generalize mF k c a=R at*
 generalize pq c c.acts.length a.scope a.group a.to=fr at*
 generalize l9 c c.acts.length a.scope a.group=E at*
 generalize vZ c c.acts.length a.scope a.group=EL at*
 generalize bZ c c.acts.length a.scope a.group=gk at*
 obtain⟨g,ok⟩:=gk
 dsimp only at iK gq hfg HR wu
 generalize eP c (g:Int)=kk at*
 obtain⟨nl,hnl⟩:∃nl,c.acts.length=nl:=⟨_,rfl⟩
 rw[hnl]at c1 hFr iK wu
 generalize hg1:y1.w.heap.size=g1 at*
 generalize hg2:y2.w.heap.size=g2 at*
 clear hbk1 hbk2 lJ hq1 hq2 hq3 dR hB1 hB2 hT hI hA Qh
 cases fr
 ·obtain rfl:ok=true:=hfg rfl
  have hkv:kk.isSome=false∨(kk.isSome=true/\((kk.getD gK).pub==k.2)=false)∨(kk.isSome=true/\((kk.getD gK).pub==k.2)=true):=by
   cases kk.isSome<;>cases((kk.getD gK).pub==k.2)<;>simp
  generalize kk.isSome=ks at*
  generalize kk.getD gK=kv at*
  rcases hkv with rfl|⟨rfl,h2⟩|⟨rfl,h2⟩
  ·have HF:Hid (R=(0,false)):=Lib.hid (by rw[HR.out];rfl)
   clear HR hfg
   go_enter Tryz.func124,Tryz.ntmps124
   go_wp2_with (first|(refine aI (.tmp 4) (cZ _) ?_)|(go_at_call 76;refine(hFr _).mono ?_;rintro e w' ⟨rfl,hq⟩;obtain⟨v1,rfl⟩:=Wd.next _ hq;clear hq)|(go_at_call 45;refine(iK _).mono ?_;rintro e w' ⟨rfl,hq⟩;obtain⟨v2,rfl⟩:=Wd.next _ hq;clear hq)|(go_at_call 55;refine(gq _).mono ?_;rintro e w' ⟨rfl,hq⟩;obtain⟨v3,rfl⟩:=Wd.next _ hq;clear hq)|(refine fM (ah.new v3.w 111 gK.cells.toArray) rfl 111 (.tmp 11) (.tmp 42) kv.cells rfl rfl rfl (by kernel_rfl) (vP _) (Nat.le_refl 3) ?_))
   intro W hW hbel
   rw[bC _ _ (by rfl)]at hW
   have aJ:Q w3 W:=hbel _ _ v3.q.size (Q.trans v3.q (aO _ _ _))
   clear hbel hW
   go_wp2_with fail
   refine bodyPost_ret (results_tmp2 rfl _ _ _) rfl ⟨?_,Q.trans HQ.out aJ⟩
   rw[HF.out]
   rfl
  ·have HF:Hid (R=(0,false)):=Lib.hid (by rw[HR.out,h2];rfl)
   clear HR hfg
   go_enter Tryz.func124,Tryz.ntmps124
   go_wp2_with (first|(refine aI (.tmp 4) (cZ _) ?_)|(go_at_call 76;refine(hFr _).mono ?_;rintro e w' ⟨rfl,hq⟩;obtain⟨v1,rfl⟩:=Wd.next _ hq;clear hq)|(go_at_call 45;refine(iK _).mono ?_;rintro e w' ⟨rfl,hq⟩;obtain⟨v2,rfl⟩:=Wd.next _ hq;clear hq)|(go_at_call 55;refine(gq _).mono ?_;rintro e w' ⟨rfl,hq⟩;obtain⟨v3,rfl⟩:=Wd.next _ hq;clear hq)|(refine fM (ah.new v3.w 111 gK.cells.toArray) rfl 111 (.tmp 11) (.tmp 42) kv.cells rfl rfl rfl (by kernel_rfl) (vP _) (Nat.le_refl 3) ?_))
   intro W hW hbel
   rw[bC _ _ (by rfl)]at hW
   have aJ:Q w3 W:=hbel _ _ v3.q.size (Q.trans v3.q (aO _ _ _))
   have kc:W.cell? ⟨v3.w.heap.size,1,none⟩=some (.int .i64 kv.pub):=hW.cell 1
   have d1W:W.cell? ⟨w.heap.size,1,none⟩=some (.int .i64 k.2):=d1 ⟨W,aJ⟩
   clear hbel hW
   go_wp2_with fail
   refine bodyPost_ret (results_tmp2 rfl _ _ _) rfl ⟨?_,Q.trans HQ.out aJ⟩
   rw[HF.out]
   rfl
  ·have HF:Hid (R=(E,true)):=Lib.hid (by rw[HR.out,h2];rfl)
   clear HR hfg
   go_enter Tryz.func124,Tryz.ntmps124
   go_wp2_with (first|(refine aI (.tmp 4) (cZ _) ?_)|(go_at_call 76;refine(hFr _).mono ?_;rintro e w' ⟨rfl,hq⟩;obtain⟨v1,rfl⟩:=Wd.next _ hq;clear hq)|(go_at_call 45;refine(iK _).mono ?_;rintro e w' ⟨rfl,hq⟩;obtain⟨v2,rfl⟩:=Wd.next _ hq;clear hq)|(go_at_call 55;refine(gq _).mono ?_;rintro e w' ⟨rfl,hq⟩;obtain⟨v3,rfl⟩:=Wd.next _ hq;clear hq)|(refine fM (ah.new v3.w 111 gK.cells.toArray) rfl 111 (.tmp 11) (.tmp 42) kv.cells rfl rfl rfl (by kernel_rfl) (vP _) (Nat.le_refl 3) ?_))
   intro W hW hbel
   rw[bC _ _ (by rfl)]at hW
   have aJ:Q w3 W:=hbel _ _ v3.q.size (Q.trans v3.q (aO _ _ _))
   have kc:W.cell? ⟨v3.w.heap.size,1,none⟩=some (.int .i64 kv.pub):=hW.cell 1
   have d1W:W.cell? ⟨w.heap.size,1,none⟩=some (.int .i64 k.2):=d1 ⟨W,aJ⟩
   clear hbel hW
   obtain⟨v4,hv4⟩:∃v4:Wd w3,W=v4.w:=⟨⟨W,aJ⟩,rfl⟩
   rw[hv4]at kc d1W⊢
   go_wp2_with (first|(refine aI (.tmp 4) (cZ _) ?_)|(go_at_call 121;refine(wu _).mono ?_;rintro e w' ⟨A1,k1,rfl,hl1,hm1,hS1,hq⟩;obtain⟨v5,rfl⟩:=Wd.next _ hq;clear hq))
   refine bodyPost_ret (results_tmp2 rfl _ _ _) rfl ⟨?_,Q.trans HQ.out v5.q⟩
   rw[HF.out]
   rfl
 ·have HF:Hid (R=(0,false)):=Lib.hid (by rw[HR.out];rfl)
  clear HR hfg
  go_enter Tryz.func124,Tryz.ntmps124
  go_wp2_with (first|(refine aI (.tmp 4) (cZ _) ?_)|(go_at_call 76;refine(hFr _).mono ?_;rintro e w' ⟨rfl,hq⟩;obtain⟨v1,rfl⟩:=Wd.next _ hq;clear hq))
  refine bodyPost_ret (results_tmp2 rfl _ _ _) rfl ⟨?_,Q.trans HQ.out v1.q⟩
  rw[HF.out]
  rfl
end Rel
end Go.Proofs.YtbemmjnjoabadaaGreatDoor
