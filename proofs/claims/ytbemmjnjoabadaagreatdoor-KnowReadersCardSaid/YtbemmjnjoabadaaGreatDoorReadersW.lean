/-
  agoralaw24.KnowReaders, walked (printed by gen_readersw.py).
-/
import Derived.Test.YtbemmjnjoabadaaGreatDoorXR
import Derived.Test.YtbemmjnjoabadaaGreatDoorK42
import Derived.Test.YtbemmjnjoabadaaGreatDoorK43
set_option linter.unusedVariables false
set_option linter.unusedSimpArgs false
set_option maxHeartbeats 16000000
set_option maxRecDepth 100000
namespace Go.Proofs.YtbemmjnjoabadaaGreatDoor
namespace Rel
open Go.RowKit aQ Mem _root_.Go.Proofs.YtbemmjnjoabadaaGreatDoor.Code aY Sign _root_.Go.Proofs.YtbemmjnjoabadaaGreatDoor.Item _root_.Go.Proofs.YtbemmjnjoabadaaGreatDoor.Known _root_.Go.Proofs.YtbemmjnjoabadaaGreatDoor.bP
structure adV(cs:List ay)(t:jH)(i m:Nat)(c:ay)(a:ak):Prop where
 mG:t.mG=(i:Int)
 lt:i<4
 at_:t.at_=(m:Int)
 hc:cs[i]?=some c
 ha:c.acts[m]?=some a
 own:Own i (aN c)
 to:∀d∈a.to,d.size<=16
 tl:a.to.length<=64
 reads:∀r,r<4->∃sm:Bool,xB c t r=(Fa i (iM c m a.scope a.group a.to) a.scope r,Fa i (iM c m a.scope a.group a.to) a.scope r,sm)/\(Fa i (iM c m a.scope a.group a.to) a.scope r=true->sm=true)
 none:jA [] c (m:Int)=(a.scope==0)
theorem aed{l:List iG}{w w':World}{A E:Option Addr}{cs:List ay}(h:Lc l w w' A E cs)(t:jH)(ht:t∈(vG l).texts):∃i m c a,adV cs t i m c a:=by
 obtain⟨i,hi,hb,C,hC,m,hm,hT⟩:=(aij l).txt t ht
 have hl:i<cs.length:=by rw[h.n4];exact hi
 rw[<-h.bare,List.getElem?_map,List.getElem?_eq_getElem hl]at hC
 have hC:aN cs[i]=C:=by injection hC
 have hO:=(h.own i hi).1
 obtain⟨a0,ha0,-⟩:=id hT
 rw[<-hC]at hT ha0
 rw[yA,List.getElem?_map]at ha0
 cases ha:cs[i].acts[m]? with
 |none=>rw[ha]at ha0;cases ha0
 |some a=>
  have hs:=wX (hO.aar a (List.mem_of_getElem? ha))
  have hR:∀r,r<4->(∃sm:Bool,xB cs[i] t r=(Fa i (iM cs[i] m a.scope a.group a.to) a.scope r,Fa i (iM cs[i] m a.scope a.group a.to) a.scope r,sm)/\(Fa i (iM cs[i] m a.scope a.group a.to) a.scope r=true->sm=true))/\jA [] cs[i] (m:Int)=(a.scope==0):=fun r hr=>by
   obtain⟨b,b1,b2,b3,b4⟩:=aug hO hi t m hm hT r hr
   have e:b=aP a:=by
    rw[yA,List.getElem?_map,ha]at b1
    injection b1 with b1
    exact b1.symm
   subst e
   rw[axa,ZO]at b2
   rw[ZO]at b3
   rw[ZP,hm]at b4
   exact⟨⟨_,b2,b3⟩,b4⟩
  exact⟨i,m,cs[i],a,hb,hi,hm,List.getElem?_eq_getElem hl,ha,hO,hs.ids,hs.to,fun r hr=>(hR r hr).1,(hR 0 (by omega)).2⟩
theorem aee(c:ay)(n s:Int)(g:ByteArray)(to:List ByteArray):(iM c n s g to).length<=(yX c n s g to).length:=by
 unfold iM
 exact Nat.le_trans (adS _) (List.length_filter_le _ _)
theorem aa1(g:ByteArray)(l:List ak)(h:∀a∈l,a.to.length<=100000):∀j,(l7 g l j).length<=100000
 |0=>Nat.zero_le _
 |j+1=>by
  rw[l7]
  cases hj:l[j]? with
  |none=>exact aa1 g l h j
  |some a=>
   show(if UJ g a then a.to else l7 g l j).length<=_
   split
   ·exact h a (List.mem_of_getElem? hj)
   ·exact aa1 g l h j
theorem aeg{i:Nat}{c:ay}(h:Own i (aN c))(hl:c.acts.length<=100)(m:Nat)(a:ak)(ha:c.acts[m]?=some a):(iM c m a.scope a.group a.to).length<=100000:=by
 refine Nat.le_trans (aee ..) ?_
 have hs:=h.sizes
 unfold yX
 split
 ·refine Nat.le_trans (adS _) (Nat.le_trans (aew c _).1 ?_)
  unfold fH
  omega
 split
 ·exact aa1 _ _ hs.to _
 split
 ·exact hs.to a (List.mem_of_getElem? ha)
 ·exact Nat.zero_le _
theorem aeh{ρ:Operand->Value}{o:Oper}{w:World}(t yt:TypeId)(x y:Operand)(a b:Int)(r:Bool)(ho:o.op= .binOp .eql t x y yt)(hx:ρ x= .int .i64 a)(hy:ρ y= .int .i64 b)(h:(a==b)=r):(execOp ρ o).run Tryz.prog w= .ok (.value (.bool r)) w:=by
 unfold execOp
 simp only[ho,hx,hy]
 go_simp
theorem aep(LA:Option Addr)(lc:Nat)(l:List iG)(w:World)(hT:Tab w)(hL:l.length<=14->dS w LA 8 iG.cells l)(hx:l.length<=14->∀x∈l,aix x)(hlm:l.length<=maxLen):
 Calls Tryz.prog 3 #[.slice LA l.length lc] w fun e w'=>e= .returned (.bool true)/\Q w w':=by
 have hmx:maxLen=9223372036854775807:=by decide
 have hSm:=fun y:Wd w=>ay3 y.w (hT.q y.q)
 obtain⟨x0,hx0⟩:=Wd.first w
 refine(show Calls Tryz.prog 3 #[.slice LA l.length lc] x0.w _->_ from fun h=>by rwa[<-hx0]at h) ?_
 clear hx0
 by_cases h14:l.length<=14
 rotate_left 1
 ·obtain⟨nl,hnl⟩:∃nl,l.length=nl:=⟨_,rfl⟩
  rw[hnl]at h14 hlm⊢
  have h15:(14:Int)<(nl:Int):=by omega
  clear hL hx
  go_enter Tryz.func3,Tryz.ntmps3
  go_wp2_with ((go_at_call 7;refine(hSm _).mono ?_;rintro e w' ⟨rfl,hq⟩;obtain⟨v1,rfl⟩:=Wd.next _ hq;clear hq))
  go_ret
  exact⟨rfl,v1.q⟩
 have hLi:=fun y:Wd w=>auU LA lc l y.w (hT.q y.q) ((hL h14).q y.q) h14 (hx h14)
 unfold aiy at hLi
 have aer:¬(14:Int)<(l.length:Int):=by omega
 obtain⟨nl,hnl⟩:∃nl,l.length=nl:=⟨_,rfl⟩
 rw[hnl]at hLi aer⊢
 have Gi:=Lib.hid hnl
 clear hL hx hnl hlm h14
 obtain⟨nt,hnt⟩:∃nt,(vG l).texts.length=nt:=⟨_,rfl⟩
 rw[hnt]at hLi
 have HNT:=Lib.hid hnt
 clear hnt
 go_enter Tryz.func3,Tryz.ntmps3
 go_wp2_with (first|(go_at_call 7;refine(hSm _).mono ?_;rintro e w' ⟨rfl,hq⟩;obtain⟨v1,rfl⟩:=Wd.next _ hq;clear hq)|(go_at_call 8;refine(hLi _).mono ?_;rintro e w1 ⟨CA,ca,D,cd,E,ec,cs,es,rfl,hM,hB⟩;clear hLi))
 have Oe:=awD hM hB
 have hSt:Lc l w w1 CA E cs:=⟨Q.trans v1.q Oe.q,Oe.n4,Oe.chains,Oe.texts,Oe.bare⟩
 clear hM hB Oe hSm
 have afp:nt<=14:=by
  have h1:=(aij l).tl
  have h2:=Gi.out
  have h3:=HNT.out
  omega
 have hT1:=hT.q hSt.q
 obtain⟨ba,oa,rfl,hba,hca⟩:=hSt.chains.rows (by rw[hSt.n4];decide)
 have hn4:=hSt.n4
 obtain⟨v0,hv0⟩:=Wd.first w1
 rw[hv0]
 clear hv0 hT v1 x0
 go_loopw [6] (fun ix wr=>∃(j:Nat) (z:Wd w1),ix= .int .i64 j/\wr=z.w/\j<=nt) (fun ix _=>nt-(intOf ix).toNat)
 case atStart=>exact⟨0,v0,rfl,rfl,Nat.zero_le _⟩
 case round=>
  obtain⟨j,z,rfl,rfl,hj⟩:=hrel
  by_cases hlt:j<nt
  rotate_left 1
  ·obtain rfl:j=nt:=by omega
   have hjj:¬(j:Int)<(j:Int):=by omega
   go_wp2_with fail
   go_ret
   exact⟨rfl,Q.trans hSt.q z.q⟩
  have dM:j<(vG l).texts.length:=by rw[HNT.out];exact hlt
  have pX:(j:Int)<(nt:Int):=by omega
  have hpos:(0:Int)<=(j:Int):=by omega
  obtain⟨be,oe,rfl,hbe,hce⟩:=hSt.texts (by omega)
  have hct:=hce j dM
  obtain⟨i,m,c,a,hTx⟩:=aed hSt _ (List.getElem_mem dM)
  generalize (vG l).texts[j]=t at*
  have hil:i<cs.length:=by rw[hn4];exact hTx.lt
  have hci:cs[i]=c:=by
   have h:=hTx.hc
   rw[List.getElem?_eq_getElem hil]at h
   injection h
  have hal:m<c.acts.length:=(List.getElem?_eq_some_iff.1 hTx.ha).1
  have hai:c.acts[m]=a:=by
   have h:=hTx.ha
   rw[List.getElem?_eq_getElem hal]at h
   injection h
  have KU:=hSt.chains.each c (hci▸List.getElem_mem hil)
  have hrc:=hca i hil
  rw[hci]at hrc
  obtain⟨bx,ox,eA,hbx,hcx⟩:=KU.acts (by omega)
  have hra:=hcx m hal
  rw[hai]at hra
  have hLt:∀y:Wd w1,(Instr.loadAt 29 (.pointer (some ⟨be,oe+j*3,none⟩))).run Tryz.prog y.w= .ok (.agg (af9 t)) y.w:=Wd.load (P:=Tryz.prog) (ty:=29) hbe hct Tryz.underlying29 rfl (by kernel_rfl)
  have cZ:∀y:Wd w1,(Instr.loadAt 41 (.pointer (some ⟨ba,oa+i*6,none⟩))).run Tryz.prog y.w= .ok (.agg (aF c)) y.w:=Wd.load (P:=Tryz.prog) (ty:=41) hba hrc Tryz.underlying41 rfl (by kernel_rfl)
  have hLa:∀y:Wd w1,(Instr.loadAt 37 (.pointer (some ⟨bx,ox+m*20,none⟩))).run Tryz.prog y.w= .ok (.agg (au a)) y.w:=Wd.load (P:=Tryz.prog) (ty:=37) hbx hra Tryz.underlying37 rfl (by kernel_rfl)
  have q1:∀y:Wd w1,y.w.cell? ⟨ba,oa+i*6+1,none⟩=some (.slice (some ⟨bx,ox,none⟩) c.acts.length c.aC):=fun y=>(y.q.cell (p:=⟨ba,oa+i*6+1,none⟩) hba).trans (by rw[<-eA];exact hrc 1 _ rfl)
  have hSz:=hTx.own.sizes
  have hcl:c.acts.length<=100:=by
   have h:=(hSt.own i hTx.lt).2
   rw[hci]at h
   have h2:=Gi.out
   omega
  have hAi:bU w1 a:=KU.each a (hai▸List.getElem_mem hal)
  have iw:=fun(r:Nat) (hr:r<4) (y:Wd w1)=>ar1 (some ⟨ba,oa,none⟩) ca cs t i r y.w (hT1.q y.q) (hSt.chains.q y.q) hTx.mG hil (by omega) (by omega) (by rw[hci];exact awC hTx.own _) (abh r)
  rw[hci]at iw
  have hRe:=hTx.reads
  have hMe:=fun y:Wd w1=>YI c m a.scope a.group a.toA a.toC a.to y.w (hT1.q y.q) (KU.q y.q) hSz.short hSz.target (by omega) (hAi.to.q y.q) (by have:=hTx.tl;omega) hSz.to
  unfold yR at hMe
  have hRN:∀y:Wd w1,Calls Tryz.prog 13 #[.agg (aF c), .slice none 0 0, .int .i64 (m:Int)] y.w fun e w'=>e= .returned (.bool (a.scope==0))/\Q y.w w':=fun y=>by
   have h:=aei c none 0 [] m y.w (KU.q y.q) (fun h=>absurd h (by decide)) (fun x hx=>by cases hx) (Nat.zero_le _)
   rw[show iZ []=[]from rfl,hTx.none]at h
   exact h
  have hId:=fun(r:Nat) (hr:r<4) (y:Wd w1)=>Vb r y.w (hT1.q y.q) (by omega)
  have hby:=hTx.mG
  have hat:=hTx.at_
  have hi4:=hTx.lt
  skip
  generalize hMM:iM c m a.scope a.group a.to=M at*
  have hMl:M.length<=100000:=hMM▸aeg hTx.own hcl m a hTx.ha
  obtain⟨nm,hnm⟩:∃nm,M.length=nm:=⟨_,rfl⟩
  rw[hnm]at hMl hMe
  have HNM:=Lib.hid hnm
  obtain⟨na,hna⟩:∃na,c.acts.length=na:=⟨_,rfl⟩
  rw[hna]at q1 hal
  rw[hn4]at hil iw
  clear hMM hnm hna hcx hra hrc hct hce hSz hcl hAi KU eA hai hci hTx
  go_upto_region 9 with(first|(refine kR 25 29 (.tmp 31) (.tmp 32) be oe nt ec j 3 rfl rfl rfl rfl Tryz.underlying25 (by kernel_rfl) Tryz.sizeOf29 hlt ?_)|(refine aI (.tmp 33) (hLt _) ?_)|(refine fM (cs:=jH.cells ⟨0,0,bK⟩) (ah.new z.w 29 (jH.cells ⟨0,0,bK⟩).toArray) rfl 29 (.tmp 7) (.tmp 34) t.cells rfl rfl rfl (by kernel_rfl) (by simp[jH.cells,Value.oneCell']) (Nat.le_refl 3) ?_))
  intro W7 Ik abX
  rw[bC _ _ (by rfl)]at Ik
  have hq7:Q w1 W7:=abX _ _ z.q.size (Q.trans z.q (aO _ _ _))
  generalize z.w.heap.size=g7 at*
  clear abX hLt
  go_upto_region 9 with(fail)
  obtain⟨W,fO⟩:∃W,W7=W:=⟨_,rfl⟩
  rw[fO]at Ik hq7⊢
  clear fO
  have f0:∀z,Q W z->z.cell? ⟨g7,0,none⟩=some (.int .i64 (i:Int)):=fun z hz=>by rw[<-hby];exact(Ik.q hz).cell 0
  have f1:∀z,Q W z->z.cell? ⟨g7,1,none⟩=some (.int .i64 (m:Int)):=fun z hz=>by rw[<-hat];exact(Ik.q hz).cell 1
  have fT:∀z,Q W z->(Instr.loadAt 29 (.pointer (some ⟨g7,0,none⟩))).run Tryz.prog z= .ok (.agg (af9 t)) z:=fun z hz=>Wd.load (P:=Tryz.prog) (ty:=29) Ik.lt (ah.range Ik) Tryz.underlying29 rfl (by kernel_rfl) ⟨z,hz⟩
  have fq:∀z,Q W z->z.cell? ⟨ba,oa+i*6+1,none⟩=some (.slice (some ⟨bx,ox,none⟩) na c.aC):=fun z hz=>q1 ⟨z,Q.trans hq7 hz⟩
  have fA:∀z,Q W z->(Instr.loadAt 37 (.pointer (some ⟨bx,ox+m*20,none⟩))).run Tryz.prog z= .ok (.agg (au a)) z:=fun z hz=>hLa ⟨z,Q.trans hq7 hz⟩
  refine uT (fun z=>Q W z) (by kernel_rfl) ?_
  have hz0:Q W W.drew:=(Q.refl _).drew
  refine aS 0 (.slice (some ⟨ba,oa,none⟩) 4 ca) hz0 ?_
  try simp only[aax]
  refine aS 1 (.pointer (some ⟨g7,0,none⟩)) hz0 ?_
  try simp only[aax]
  refine sqS 2 (.int .i64 (i:Int)) rfl hz0 (fun z hz=>oK Tryz.underlying3 (f0 z hz)) ?_
  try simp only[aax]
  refine sqS 3 (.pointer (some ⟨ba,oa+i*6,none⟩)) rfl hz0 (fun z hz=>BK 24 41 (.tmp 35) (.tmp 37) ba oa 4 ca i 6 rfl rfl rfl Tryz.underlying24 (by kernel_rfl) Tryz.sizeOf41 hi4) ?_
  try simp only[aax]
  refine aS 4 (.pointer (some ⟨ba,oa+i*6+1,none⟩)) hz0 ?_
  try simp only[aax]
  refine sqS 5 (.slice (some ⟨bx,ox,none⟩) na c.aC) rfl hz0 (fun z hz=>oK Tryz.underlying38 (fq z hz)) ?_
  try simp only[aax]
  refine aS 6 (.pointer (some ⟨g7,1,none⟩)) hz0 ?_
  try simp only[aax]
  refine sqS 7 (.int .i64 (m:Int)) rfl hz0 (fun z hz=>oK Tryz.underlying3 (f1 z hz)) ?_
  try simp only[aax]
  refine sqS 8 (.pointer (some ⟨bx,ox+m*20,none⟩)) rfl hz0 (fun z hz=>BK 38 37 (.tmp 40) (.tmp 42) bx ox na c.aC m 20 rfl rfl rfl Tryz.underlying38 (by kernel_rfl) Tryz.sizeOf37 hal) ?_
  try simp only[aax]
  refine sqS 9 (.agg (au a)) rfl hz0 (fun z hz=>oV (fA z hz)) ?_
  try simp only[aax]
  refine aW 10 fun K' hK'=> ?_
  refine sG 37 _ rfl (Sz _) ?_
  have hb1:=ah.new W.drew 37 (au aH)
  have ab3:=aO W.drew (au aH) 37
  have hz1:Q W (W.drew.alloc (.cells (au aH) 37)):=Q.trans hz0 ab3
  have hs1:=(hz0).size
  have hl1:=hb1.lt
  refine hK' _ _ hz1 ?_
  clear hK' K'
  try simp only[aax]
  obtain⟨gb,hgb⟩:∃g,W.drew.heap.size=g:=⟨_,rfl⟩
  have hge:=Nat.le_of_eq hgb
  rw[hgb]at hb1 hs1 hl1⊢
  clear hgb
  obtain⟨z1,hzz⟩:∃z',W.drew.alloc (.cells (au aH) 37)=z':=⟨_,rfl⟩
  rw[hzz]at hb1 hz1 hl1 ab3⊢
  clear hzz
  refine aW 11 fun K' hK'=> ?_
  refine oJ hb1 37 (.tmp 8) (.tmp 44) a.cells rfl rfl rfl (by kernel_rfl) (dL _) (Nat.le_refl 20) ?_
  intro V hV iD kD
  rw[bC _ _ (by rfl)]at hV
  have aK:Q W V:=iD _ _ hs1 hz1
  refine hK' _ _ aK ?_
  clear hK' K'
  try simp only[aax]
  refine wpAnyH_done (by kernel_rfl) ?_ _
  have q18:Q w1 V:=Q.trans hq7 aK
  have h7V:Q W V:=aK
  obtain⟨g8,Hz⟩:∃g,gb=g:=⟨_,rfl⟩
  rw[Hz]at hV⊢
  clear Hz f0 f1 fq fA fT
  have hW8:=hV
  have aaH:=Ik.q aK
  clear iD kD aK Ik hge hV
  go_upto_region 10 with(fail)
  obtain⟨W,fO⟩:∃W,V=W:=⟨_,rfl⟩
  rw[fO]at hW8 aaH q18⊢
  clear fO
  have f0:∀z,Q W z->z.cell? ⟨g7,0,none⟩=some (.int .i64 (i:Int)):=fun z hz=>by rw[<-hby];exact(aaH.q hz).cell 0
  have f1:∀z,Q W z->z.cell? ⟨g7,1,none⟩=some (.int .i64 (m:Int)):=fun z hz=>by rw[<-hat];exact(aaH.q hz).cell 1
  have a7:∀z,Q W z->z.cell? ⟨g8,7,none⟩=some (.int .i64 a.scope):=fun z hz=>(hW8.q hz).cell 7
  have a8:∀z,Q W z->z.cell? ⟨g8,8,none⟩=some (.string a.group):=fun z hz=>(hW8.q hz).cell 8
  have a9:∀z,Q W z->z.cell? ⟨g8,9,none⟩=some (.slice a.toA a.to.length a.toC):=fun z hz=>(hW8.q hz).cell 9
  have fC:∀z,Q W z->(Instr.loadAt 41 (.pointer (some ⟨ba,oa+i*6,none⟩))).run Tryz.prog z= .ok (.agg (aF c)) z:=fun z hz=>cZ ⟨z,Q.trans q18 hz⟩
  refine uT (fun z=>Q W z) (by kernel_rfl) ?_
  have hz0:Q W W.drew:=(Q.refl _).drew
  refine aS 0 (.slice (some ⟨ba,oa,none⟩) 4 ca) hz0 ?_
  try simp only[aax]
  refine aS 1 (.pointer (some ⟨g7,0,none⟩)) hz0 ?_
  try simp only[aax]
  refine sqS 2 (.int .i64 (i:Int)) rfl hz0 (fun z hz=>oK Tryz.underlying3 (f0 z hz)) ?_
  try simp only[aax]
  refine sqS 3 (.pointer (some ⟨ba,oa+i*6,none⟩)) rfl hz0 (fun z hz=>BK 24 41 (.tmp 45) (.tmp 47) ba oa 4 ca i 6 rfl rfl rfl Tryz.underlying24 (by kernel_rfl) Tryz.sizeOf41 hi4) ?_
  try simp only[aax]
  refine sqS 4 (.agg (aF c)) rfl hz0 (fun z hz=>oV (fC z hz)) ?_
  try simp only[aax]
  refine aS 5 (.pointer (some ⟨g7,1,none⟩)) hz0 ?_
  try simp only[aax]
  refine sqS 6 (.int .i64 (m:Int)) rfl hz0 (fun z hz=>oK Tryz.underlying3 (f1 z hz)) ?_
  try simp only[aax]
  refine aS 7 (.pointer (some ⟨g8,7,none⟩)) hz0 ?_
  try simp only[aax]
  refine sqS 8 (.int .i64 a.scope) rfl hz0 (fun z hz=>oK Tryz.underlying3 (a7 z hz)) ?_
  try simp only[aax]
  refine aS 9 (.pointer (some ⟨g8,8,none⟩)) hz0 ?_
  try simp only[aax]
  refine sqS 10 (.string a.group) rfl hz0 (fun z hz=>oK Tryz.underlying9 (a8 z hz)) ?_
  try simp only[aax]
  refine aS 11 (.pointer (some ⟨g8,9,none⟩)) hz0 ?_
  try simp only[aax]
  refine sqS 12 (.slice a.toA a.to.length a.toC) rfl hz0 (fun z hz=>oK Tryz.underlying30 (a9 z hz)) ?_
  try simp only[aax]
  refine aW 13 fun K' hK'=> ?_
  go_simp
  refine(hMe ⟨_,Q.trans q18 hz0⟩).mono ?_
  rintro e z1 ⟨MA,mc,rfl,hm1,hm2,hMR,hq⟩
  have hz1:Q W z1:=Q.trans hz0 hq
  refine hK' _ _ hz1 ?_
  clear hK' K' hq
  try simp only[aax]
  refine aS 14 (.slice MA nm mc) hz1 ?_
  try simp only[aax]
  refine wpAnyH_done (by kernel_rfl) ?_ _
  have aaJ:Q w1 z1:=Q.trans q18 hz1
  have aaL:=aaH.q hz1
  have aeE:=hW8.q hz1
  clear f0 f1 a7 a8 a9 fC hMe hW8 aaH h7V
  have fT:∀y:Wd z1,(Instr.loadAt 29 (.pointer (some ⟨g7,0,none⟩))).run Tryz.prog y.w= .ok (.agg (af9 t)) y.w:=Wd.load (P:=Tryz.prog) (ty:=29) aaL.lt (ah.range aaL) Tryz.underlying29 rfl (by kernel_rfl)
  have t0:∀y:Wd z1,y.w.cell? ⟨g7,0,none⟩=some (.int .i64 (i:Int)):=fun y=>by rw[<-hby];exact(y.blk aaL).cell 0
  have t1:∀y:Wd z1,y.w.cell? ⟨g7,1,none⟩=some (.int .i64 (m:Int)):=fun y=>by rw[<-hat];exact(y.blk aaL).cell 1
  have a7:=aB (.int .i64 a.scope) aeE 7
  have hHa:=fun(d:ByteArray) (y:Wd z1)=>axH MA mc M d y.w (gB (hMR.q y.q).rows) (by have:=HNM.out;omega)
  rw[HNM.out]at hHa
  have aa8:=fun(r:Nat) (hr:r<4) (y:Wd z1)=>iw r hr ⟨y.w,Q.trans aaJ y.q⟩
  have aa9:=fun(r:Nat) (hr:r<4) (y:Wd z1)=>hId r hr ⟨y.w,Q.trans aaJ y.q⟩
  clear iw hId aaL hMR
  obtain⟨v1,hv1⟩:=Wd.first z1
  rw[hv1]
  clear hv1
  go_wp2_with fail
  go_loopw [10] (fun ix wr=>∃(r:Nat) (y:Wd z1),ix= .int .i64 r/\wr=y.w/\r<=4) (fun ix _=>4-(intOf ix).toNat)
  case' atStart=>
   exact⟨0,v1,rfl,rfl,Nat.zero_le _⟩
  case' round=>
   obtain⟨r,y,rfl,rfl,hr4⟩:=hrel
   by_cases hr:r<4
   ·have hrI:(r:Int)<4:=by omega
    have hR:=aa8 r hr
    have hI:=aa9 r hr
    obtain⟨sm,e1,e2⟩:=hRe r hr
    rw[e1]at hR
    have hw:Fa i M a.scope r=((a.scope==0)||(decide (r=i)||hasB (dn r) M)):=rfl
    rw[hw]at hR e2
    have hH:=hHa (dn r)
    clear hRe aa8 aa9 hHa e1 hw
    generalize dn r=d at*
    generalize hasB d M=hb at*
    generalize hsb:(a.scope==0)=sb at*
    rcases(show sb=true∨(sb=false/\r=i)∨(sb=false/\r≠i/\hb=true)∨(sb=false/\r≠i/\hb=false) by
     cases sb
     ·by_cases JG:r=i
      ·exact .inr (.inl ⟨rfl,JG⟩)
      ·cases hb
       ·exact .inr (.inr (.inr ⟨rfl,JG,rfl⟩))
       ·exact .inr (.inr (.inl ⟨rfl,JG,rfl⟩))
     ·exact .inl rfl)with rfl|⟨rfl,JG⟩|⟨rfl,JG,rfl⟩|⟨rfl,JG,rfl⟩
    ·skip
     rw[show((true||(decide (r=i)||hb)))=true from rfl]at hR e2
     obtain rfl:=e2 rfl
     clear e2
     go_wp2_with (first|(go_at_call 11;refine(hI _).mono ?_;rintro e w' ⟨rfl,hq⟩;obtain⟨y2,rfl⟩:=Wd.next _ hq;clear hq)|(go_at_call 10;refine(hH _).mono ?_;rintro e w' ⟨rfl,hq⟩;obtain⟨y3,rfl⟩:=Wd.next _ hq;clear hq)|(go_at_call 12;refine(hR _).mono ?_;rintro e w' ⟨rfl,hq⟩;obtain⟨y4,rfl⟩:=Wd.next _ hq;clear hq)|(refine aI (.tmp 7) (fT _) ?_))
     exact⟨⟨r+1,y4,by go_num,rfl,by omega⟩,by simp only[intOf];omega⟩
    ·skip
     have hrb:((r:Int)==(i:Int))=true:=by rw[JG];exact beq_self_eq_true _
     rw[show((false||(decide (r=i)||hb)))=true from by rw[decide_eq_true JG];rfl]at hR e2
     obtain rfl:=e2 rfl
     clear e2 JG
     go_wp2_with (first|(go_at_call 11;refine(hI _).mono ?_;rintro e w' ⟨rfl,hq⟩;obtain⟨y2,rfl⟩:=Wd.next _ hq;clear hq)|(go_at_call 10;refine(hH _).mono ?_;rintro e w' ⟨rfl,hq⟩;obtain⟨y3,rfl⟩:=Wd.next _ hq;clear hq)|(go_at_call 12;refine(hR _).mono ?_;rintro e w' ⟨rfl,hq⟩;obtain⟨y4,rfl⟩:=Wd.next _ hq;clear hq)|(refine aI (.tmp 7) (fT _) ?_))
     exact⟨⟨r+1,y4,by go_num,rfl,by omega⟩,by simp only[intOf];omega⟩
    ·skip
     have hrb:((r:Int)==(i:Int))=false:=beq_eq_false_iff_ne.2 (by omega)
     rw[show((false||(decide (r=i)||true)))=true from by simp]at hR e2
     obtain rfl:=e2 rfl
     clear e2 JG
     go_wp2_with (first|(go_at_call 11;refine(hI _).mono ?_;rintro e w' ⟨rfl,hq⟩;obtain⟨y2,rfl⟩:=Wd.next _ hq;clear hq)|(go_at_call 10;refine(hH _).mono ?_;rintro e w' ⟨rfl,hq⟩;obtain⟨y3,rfl⟩:=Wd.next _ hq;clear hq)|(go_at_call 12;refine(hR _).mono ?_;rintro e w' ⟨rfl,hq⟩;obtain⟨y4,rfl⟩:=Wd.next _ hq;clear hq)|(refine aI (.tmp 7) (fT _) ?_))
     exact⟨⟨r+1,y4,by go_num,rfl,by omega⟩,by simp only[intOf];omega⟩
    ·skip
     have hrb:((r:Int)==(i:Int))=false:=beq_eq_false_iff_ne.2 (by omega)
     rw[show((false||(decide (r=i)||false)))=false from by rw[decide_eq_false JG];rfl]at hR e2
     clear e2 JG
     go_wp2_with (first|(go_at_call 11;refine(hI _).mono ?_;rintro e w' ⟨rfl,hq⟩;obtain⟨y2,rfl⟩:=Wd.next _ hq;clear hq)|(go_at_call 10;refine(hH _).mono ?_;rintro e w' ⟨rfl,hq⟩;obtain⟨y3,rfl⟩:=Wd.next _ hq;clear hq)|(go_at_call 12;refine(hR _).mono ?_;rintro e w' ⟨rfl,hq⟩;obtain⟨y4,rfl⟩:=Wd.next _ hq;clear hq)|(refine aI (.tmp 7) (fT _) ?_))
     exact⟨⟨r+1,y4,by go_num,rfl,by omega⟩,by simp only[intOf];omega⟩
   ·obtain rfl:r=4:=by omega
    have h44:¬((4:Nat):Int)<4:=by decide
    clear hHa aa8 aa9 hRe
    go_upto_region 18 with(fail)
    obtain⟨W,fO⟩:∃W,y.w=W:=⟨_,rfl⟩
    have aaG:Q z1 W:=fO▸y.q
    rw[fO]
    clear fO
    have f0:∀z,Q W z->z.cell? ⟨g7,0,none⟩=some (.int .i64 (i:Int)):=fun z hz=>t0 ⟨z,Q.trans aaG hz⟩
    have f1:∀z,Q W z->z.cell? ⟨g7,1,none⟩=some (.int .i64 (m:Int)):=fun z hz=>t1 ⟨z,Q.trans aaG hz⟩
    have f7:∀z,Q W z->z.cell? ⟨g8,7,none⟩=some (.int .i64 a.scope):=fun z hz=>a7 ⟨z,Q.trans aaG hz⟩
    have fC:∀z,Q W z->(Instr.loadAt 41 (.pointer (some ⟨ba,oa+i*6,none⟩))).run Tryz.prog z= .ok (.agg (aF c)) z:=fun z hz=>cZ ⟨z,Q.trans aaJ (Q.trans aaG hz)⟩
    have fN:∀z,Q W z->Calls Tryz.prog 13 #[.agg (aF c), .slice none 0 0, .int .i64 (m:Int)] z fun e w'=>e= .returned (.bool (a.scope==0))/\Q z w':=fun z hz=>hRN ⟨z,Q.trans aaJ (Q.trans aaG hz)⟩
    clear hRN cZ t0 t1 a7 fT
    generalize hsb:(a.scope==0)=sb at*
    refine uT (fun z=>Q W z) (by kernel_rfl) ?_
    have hz0:Q W W.drew:=(Q.refl _).drew
    refine aS 0 (.slice (some ⟨ba,oa,none⟩) 4 ca) hz0 ?_
    try simp only[aax]
    refine aS 1 (.pointer (some ⟨g7,0,none⟩)) hz0 ?_
    try simp only[aax]
    refine sqS 2 (.int .i64 (i:Int)) rfl hz0 (fun z hz=>oK Tryz.underlying3 (f0 z hz)) ?_
    try simp only[aax]
    refine sqS 3 (.pointer (some ⟨ba,oa+i*6,none⟩)) rfl hz0 (fun z hz=>BK 24 41 (.tmp 101) (.tmp 103) ba oa 4 ca i 6 rfl rfl rfl Tryz.underlying24 (by kernel_rfl) Tryz.sizeOf41 hi4) ?_
    try simp only[aax]
    refine sqS 4 (.agg (aF c)) rfl hz0 (fun z hz=>oV (fC z hz)) ?_
    try simp only[aax]
    refine aS 5 (.pointer (some ⟨g7,1,none⟩)) hz0 ?_
    try simp only[aax]
    refine sqS 6 (.int .i64 (m:Int)) rfl hz0 (fun z hz=>oK Tryz.underlying3 (f1 z hz)) ?_
    try simp only[aax]
    refine aS 8 (.pointer (some ⟨g8,7,none⟩)) hz0 ?_
    try simp only[aax]
    refine sqS 9 (.int .i64 a.scope) rfl hz0 (fun z hz=>oK Tryz.underlying3 (f7 z hz)) ?_
    try simp only[aax]
    refine sqS 10 (.bool sb) rfl hz0 (fun z hz=>aeh _ _ (.tmp 110) (.const (.int .i64 0)) a.scope 0 sb rfl rfl rfl hsb) ?_
    try simp only[aax]
    refine aW 7 fun K' hK'=> ?_
    go_simp
    refine(fN _ hz0).mono ?_
    rintro e z2 ⟨rfl,hq⟩
    have hz2:Q W z2:=Q.trans hz0 hq
    refine hK' _ _ hz2 ?_
    clear hK' K' hq
    try simp only[aax]
    refine sqS 11 (.bool false) rfl hz2 (fun z hz=>by cases sb<;>rfl) ?_
    try simp only[aax]
    refine wpAnyH_done (by kernel_rfl) ?_ _
    go_wp2_with fail
    exact⟨⟨j+1,⟨z2,Q.trans aaJ (Q.trans aaG hz2)⟩,by go_num,rfl,by omega⟩,by simp only[intOf];omega⟩
end Rel
end Go.Proofs.YtbemmjnjoabadaaGreatDoor
