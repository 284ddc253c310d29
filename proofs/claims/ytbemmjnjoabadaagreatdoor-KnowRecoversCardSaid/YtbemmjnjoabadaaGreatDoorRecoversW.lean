/-
  agoralaw24.KnowRecovers, walked (printed by gen_recovers.py).
-/
import Derived.Test.YtbemmjnjoabadaaGreatDoorXV
import Derived.Test.YtbemmjnjoabadaaGreatDoorK42
import Derived.Test.YtbemmjnjoabadaaGreatDoorK43
import Derived.Test.YtbemmjnjoabadaaGreatDoorRecPart
set_option linter.unusedVariables false
set_option linter.unusedSimpArgs false
set_option maxHeartbeats 40000000
set_option maxRecDepth 100000
namespace Go.Proofs.YtbemmjnjoabadaaGreatDoor
namespace Rel
open Go.RowKit aQ Mem _root_.Go.Proofs.YtbemmjnjoabadaaGreatDoor.Code aY Sign _root_.Go.Proofs.YtbemmjnjoabadaaGreatDoor.Item _root_.Go.Proofs.YtbemmjnjoabadaaGreatDoor.Known _root_.Go.Proofs.YtbemmjnjoabadaaGreatDoor.bP
theorem xC{T G:Prop}(h:T)(k:T->G):G:=k h
theorem az7(s:ByteArray):Sign.keyOf (Sign.keyOf (kN s)).1=Sign.keyOf (kN s)/\iP (Sign.keyOf (kN s))=true/\dW 37 (Sign.keyOf (kN s)).1=(Sign.keyOf (kN s)).2:=by
 have h:=awE s
 generalize kN s=x at*
 have hx:Sign.keyOf x=(x,dW 37 x):=by
  unfold Sign.keyOf at h⊢
  split at h
  ·exact absurd h.1 (by decide)
  ·rename_i hn
   rw[if_neg hn]
 rw[hx]at h⊢
 dsimp only at h⊢
 have h2:=ate (x,dW 37 x) h rfl
 exact⟨h2,atf (x,dW 37 x) h.1 h2,rfl⟩
theorem az8{a s:ak}(h:a.wraps=s.wraps)(hr:bT s=true):∀(j:Nat) (h:j<a.wraps.length),aiD a.wraps[j]:=by
 intro j hj
 have hm:a.wraps[j]∈s.wraps:=h▸List.getElem_mem hj
 have hv:=(wX hr).each _ hm
 unfold oH wP eU Bj tN at hv
 simp only[Bool.and_eq_true,decide_eq_true_eq]at hv
 obtain⟨⟨h1,h2⟩,⟨h3,h4⟩,h5,h6,h7⟩:=hv
 exact⟨by omega,by omega,by omega⟩
theorem az9{F:List ByteArray}{K:List Nat}(hF:F=K.map dn)(hK:∀k∈K,k<4):∀i,i<4->∀(j:Nat) (h:j<F.length) (h2:j<K.length),(F[j].toList==(dn i).toList)=(K[j]==i):=by
 intro i hi j h h2
 subst hF
 rw[List.getElem_map]
 have hk:=hK _ (List.getElem_mem h2)
 rw[Bool.eq_iff_iff,beq_iff_eq,beq_iff_eq]
 exact⟨fun e=>Ri _ hk _ hi (rY e),fun e=>by rw[e]⟩
theorem asK(m:Int):∀i,(aaL m i).length<=i
 |0=>Nat.le_refl _
 |i+1=>by
  have h:=asK m i
  show(aaL m i++if FX m i then[]else[(aG i).1]).length<=i+1
  rw[List.length_append]
  split<;>simp<;>omega
theorem as7(K:List Nat)(L:List (Int×Int))(i j:Nat):(aaE K L i j).length<=j:=by
 unfold aaE
 rw[List.length_map]
 exact Nat.le_trans (List.length_filter_le _ _) (by rw[List.length_take];exact Nat.min_le_left _ _)
theorem alm(m:Int)(K:List Nat)(L:List (Int×Int)):∀i,(aaJ m K L i).length<=i*K.length
 |0=>Nat.zero_le _
 |i+1=>by
  have h:=alm m K L i
  have h2:=as7 K L i K.length
  show(aaJ m K L i++if FX m i then[]else aaE K L i K.length).length<=(i+1)*K.length
  rw[List.length_append,Nat.succ_mul]
  split
  ·simp;omega
  ·omega
theorem alu(w:World):(Instr.alloc 72 true (.tuple #[])).run Tryz.prog w= .ok (.pointer (some ⟨w.heap.size,0,none⟩)) (w.alloc (.cells (shA (0,0)) 72)):=by kernel_rfl
theorem alv(x:Int×Int)(w:World):(Instr.buildSlice 70 1 #[(0, .agg (shA x))]).run Tryz.prog w= .ok (.slice (some ⟨w.heap.size,0,none⟩) 1 1) (w.alloc (.cells (shA x) 72)):=by kernel_rfl
theorem alA(x:Int×Int):(shC x).toArray.all (·.oneCell')=true:=by simp[shC,Value.oneCell']
theorem alH(x:Int×Int):∀v∈shC x,v.oneCell'=true:=by simp[shC,Value.oneCell']
theorem aAa:(Tryz.prog.info? 72).map (fun i=>(i.zero,i.size,i.bytes))=some (some (.agg #[.int .i64 0, .int .i64 0]),2,16):=by kernel_rfl
theorem aAb{w:World}{A:Option Addr}{l:List (Int×Int)}(h:dS w A 2 shC l):oG.RX w A l:=fun h0=>by
 obtain⟨b,o,e,hb,hc⟩:=h h0
 exact⟨b,o,e,hb,fun j hj=>⟨by have:=hc j hj 0 _ rfl;simpa using this,hc j hj 1 _ rfl⟩⟩
theorem aAc(x:Int×Int):(shC x).length=2:=rfl
theorem aAd(x:Int):(Ap x).length=1:=rfl
theorem aAe{ps:List Int}{c:ay}{n:Nat}(h:ug ps c ((n:Int)-1)=true):∃m,n=m+1/\∃hm:m<c.acts.length,c.acts[m].kind=19:=by
 unfold ug uf at h
 by_cases h0:n=0
 ·subst h0
  simp at h
 ·rw[if_neg (by simp only[decide_eq_true_eq];omega)]at h
  have e:((n:Int)-1).toNat=n-1:=by omega
  rw[e]at h
  by_cases hm:n-1<c.acts.length
  ·rw[List.getElem?_eq_getElem hm]at h
   simp only[Bool.and_eq_true,beq_iff_eq]at h
   exact⟨n-1,by omega,hm,h.1⟩
  ·rw[List.getElem?_eq_none (by omega)]at h
   cases h
theorem aAf(co:Int)(i:Nat):∀x∈aaL co i,I64 x:=fun x hx=>by
 obtain⟨k,-,rfl⟩:=asi co i x hx
 have h:1<=(aG k).1/\(aG k).1<=2305843009213693949:=awE (wF k)
 exact⟨by omega,by omega⟩
theorem aAg(LA:Option Addr)(lc:Nat)(l:List iG)(bw fr t co:Int)(w:World)(hT:Tab w)(hL:dS w LA 8 iG.cells l)(hx:∀x∈l,aix x)(hlm:l.length<=maxLen)(hbw:I64 bw)(hfr:I64 fr)(ht:I64 t)(hco:I64 co):
 Calls Tryz.prog 6 #[.slice LA l.length lc, .int .i64 bw, .int .i64 fr, .int .i64 t, .int .i64 co] w fun e w'=>e= .returned (.bool true)/\Q w w':=by
 have hmx:maxLen=9223372036854775807:=by decide
 have hSm:=fun y:Wd w=>ay3 y.w (hT.q y.q)
 obtain⟨x0,hx0⟩:=Wd.first w
 refine(show Calls Tryz.prog 6 #[.slice LA l.length lc, .int .i64 bw, .int .i64 fr, .int .i64 t, .int .i64 co] x0.w _->_ from fun h=>by rwa[<-hx0]at h) ?_
 clear hx0
 by_cases h8:l.length<=8
 rotate_left 1
 ·obtain⟨nl,hnl⟩:∃nl,l.length=nl:=⟨_,rfl⟩
  rw[hnl]at h8 hlm⊢
  have h9:(8:Int)<(nl:Int):=by omega
  clear hL hx
  go_enter Tryz.func6,Tryz.ntmps6
  go_wp2_with ((go_at_call 7;refine(hSm _).mono ?_;rintro e w' ⟨rfl,hq⟩;obtain⟨v1,rfl⟩:=Wd.next _ hq;clear hq))
  go_ret
  exact⟨rfl,v1.q⟩
 have hLi:=fun y:Wd w=>auU LA lc l y.w (hT.q y.q) (hL.q y.q) (by omega) hx
 unfold aiy at hLi
 have ZY:¬(8:Int)<(l.length:Int):=by omega
 obtain⟨nl,hnl⟩:∃nl,l.length=nl:=⟨_,rfl⟩
 rw[hnl]at hLi ZY⊢
 have Gi:=Lib.hid hnl
 have aAh:nl<=8:=by omega
 clear hL hx hnl hlm h8
 go_enter Tryz.func6,Tryz.ntmps6
 go_upto_region 5 with(first|(go_at_call 7;refine(hSm _).mono ?_;rintro e w' ⟨rfl,hq⟩;obtain⟨v1,rfl⟩:=Wd.next _ hq;clear hq)|(go_at_call 8;refine(hLi _).mono ?_;rintro e w1 ⟨CA,ca,D,cd,E,ec,cs,es,rfl,hM,hB⟩))
 have Oe:=awD hM hB
 have hSt:Lc l w w1 CA E cs:=⟨Q.trans v1.q Oe.q,Oe.n4,Oe.chains,Oe.texts,Oe.bare⟩
 clear hM hB Oe hSm hLi
 have hT1:=hT.q hSt.q
 obtain⟨b,hb⟩:∃b,(bw%4).toNat=b:=⟨_,rfl⟩
 have hbI:bw%4=(b:Int):=by omega
 have hb4:b<4:=by omega
 have fP:=fun y:Wd w1=>Cm bw 4 y.w hbw (by decide)
 rw[hbI]at fP
 have hbl:b<cs.length:=by rw[hSt.n4];exact hb4
 have hO:=hSt.own b hb4
 obtain⟨ba,oa,rfl,hba,hca⟩:=hSt.chains.rows (by rw[hSt.n4];decide)
 have KU:=hSt.chains.each cs[b] (List.getElem_mem hbl)
 have Gh:∀y:Wd w1,(Instr.loadAt 41 (.pointer (some ⟨ba,oa+b*6,none⟩))).run Tryz.prog y.w= .ok (.agg (aF cs[b])) y.w:=Wd.load (P:=Tryz.prog) (ty:=41) hba (hca b hbl) Tryz.underlying41 rfl (by kernel_rfl)
 rw[Gi.out]at hO
 clear hca
 generalize cs[b]=c at*
 obtain⟨hO,hcn⟩:=hO
 have aAi:c.acts.length<=17:=by omega
 obtain⟨u1,hu1⟩:=Wd.first w1
 rw[hu1]
 clear hu1
 have uK:=fun y:Wd w1=>Zm fr y.w (hT1.q y.q)
 unfold yR at uK
 obtain⟨nF,hnF⟩:∃nF,(lK fr).length=nF:=⟨_,rfl⟩
 rw[hnF]at uK
 obtain⟨hce,tH⟩:=ajs fr
 have hF:∀d∈lK fr,jL d:=aah fr
 have hpl:=VX (lK fr) hF
 have hpb:=VY (lK fr) hF
 have hkn:(Sj fr).length<=4:=by
  unfold Sj
  exact List.length_filter_le _ _
 have hFl:nF=(Sj fr).length:=by rw[<-hnF,hce,List.length_map]
 have HCE:=Lib.hid hce
 have aAj:nF<=4:=by omega
 have Sr:=Lib.hid hFl
 clear hFl hce
 go_upto_region 7 with(first|(go_at_call 20;refine(fP _).mono ?_;rintro e w' ⟨rfl,hq⟩;obtain⟨u2,rfl⟩:=Wd.next _ hq;clear hq)|(go_at_call 21;refine(uK _).mono ?_;rintro e W ⟨FA,fc,rfl,hf1,hf2,Fq,aJ⟩))
 have aeI:Q w1 W:=Q.trans u2.q aJ
 have FB:Strs W FA (lK fr):=gB Fq.rows
 skip
 have gq:∀y:World,Q w1 y->Calls Tryz.prog 23 #[.int .i64 (b:Int)] y fun e w'=>e= .returned (.agg (bH (aG b)))/\Q y w':=fun y hy=>Ib b y (hT1.q hy) (by omega)
 have uJ:=fun(y:World) (hy:Q W y)=>afL FA fc (lK fr) y (hT1.q (Q.trans aeI hy)) (FB.q hy) (by omega)
 unfold Ve at uJ
 have hpz:c.prev.size<=100000:=by have h:c.prev.size=32:=hO.prev;omega
 have Gu:=fun(PA:Option Addr) (pc:Nat) (y:World) (hy:Q W y) (hP:Ints y PA (dZ (lK fr)))=>XG (aG b) c FA fc (lK fr) PA pc (dZ (lK fr)) t 9 y (hT1.q (Q.trans aeI hy)) (KU.q (Q.trans aeI hy)) (by omega) (FB.q hy) tH hP hpl (by omega) hpb (U9 b) (Qc b) hpz (axd hO) (vH b)
 unfold Eb at Gu
 rw[hnF]at uJ Gu
 have fC:∀z,Q W z->(Instr.loadAt 41 (.pointer (some ⟨ba,oa+b*6,none⟩))).run Tryz.prog z= .ok (.agg (aF c)) z:=fun z hz=>Gh ⟨z,Q.trans aeI hz⟩
 have hso:yI (dZ (lK fr)).length t=false->(nF=0∨t<1∨(nF:Int)<t):=fun h=>by
  rw[hpl,hnF]at h
  unfold yI at h
  simp only[Bool.and_eq_false_iff,Bool.not_eq_false',decide_eq_true_eq]at h
  exact h
 have hsi:=awh hO hb4 (by rw[ng];omega) (lK fr) t 9 tH hF (by decide+kernel)
 rw[axc]at hsi
 have hsn:yI (dZ (lK fr)).length t=false->AY (aG b) c (lK fr) (dZ (lK fr)) t 9=(aH,1):=fun h=>by
  unfold AY
  rw[h]
  rfl
 have hpa:=fun(s:ak) (h:ajt b (aN c) (lK fr) t s)=>azX fr h
 have hjn:=fun(h1:1<=t) (h2:t<=((aaJ co (Sj fr) (Dn (nN (aG b) (aN c)) (keyS (aG b) (aN c)).1 t (Sj fr).length) 4).length:Int))=>azY (i:=b) (c:=aN c) co (Sj fr) hkn t h1 (awE _) h2
 have hpn:=fun(L:List (Int×Int)) (hL:L.length=(Sj fr).length)=>azO co (Sj fr) L hL (av7 fr)
 rw[<-av9]at hpn
 have hkl:=awE (nN (aG b) (aN c))
 change 1<=(keyS (aG b) (aN c)).1/\(keyS (aG b) (aN c)).1<=2305843009213693949 at hkl
 have hkr:=az7 (nN (aG b) (aN c))
 change Sign.keyOf (keyS (aG b) (aN c)).1=keyS (aG b) (aN c)/\iP (keyS (aG b) (aN c))=true/\dW 37 (keyS (aG b) (aN c)).1=(keyS (aG b) (aN c)).2 at hkr
 generalize hLg:Dn (nN (aG b) (aN c)) (keyS (aG b) (aN c)).1 t (Sj fr).length=L at*
 clear hLg
 have HPA:=Lib.hid hpa
 have HJN:=Lib.hid hjn
 have HPN:=Lib.hid hpn
 have HKL:=Lib.hid hkl
 have HKR:=Lib.hid hkr
 clear hpa hjn hpn hkl hkr
 have HSO:=Lib.hid hso
 have HSI:=Lib.hid hsi
 have PL:=Lib.hid hsn
 have aAl:=Lib.hid tH
 have HPB:=Lib.hid hpb
 have MQ:=Lib.hid hpl
 have HF:=Lib.hid hF
 have HO:=Lib.hid hO
 have HKN:=Lib.hid hkn
 have HNF:=Lib.hid hnF
 obtain⟨kk,hkk⟩:∃kk,aG b=kk:=⟨_,rfl⟩
 rw[hkk]at gq Gu
 have HKK:=Lib.hid hkk
 obtain⟨R,hR⟩:∃R,AY kk c (lK fr) (dZ (lK fr)) t 9=R:=⟨_,rfl⟩
 simp only[hR]at Gu
 have HR:=Lib.hid hR
 clear hso hsi hsn tH hpb hpl hF hO hkn hnF hkk hR
 generalize hps:dZ (lK fr)=ps at*
 have HPS:=Lib.hid hps
 clear hps
 generalize lK fr=F at*
 generalize Sj fr=K at*
 rename_i K7 hK7
 refine xC (T:=∀(V:World) (a2:ak) (gb:Nat) (v5 v6 v7 v8 v9 v10 v13 v17 v18 v19 v20 v21 v22 v23 v24 v25 v26 v27 v28 v29 v30 v31 v32 v33 v34 v35 v36 v37 v38 v39 v40 v41 v42 v43 v44 v45 v46 v47 v48 v49 v50 v51 v52 v53 v54 v55 v56 v57 v58 v59 v60 v61 v62 v63 v64 v65 v66 v67 v68 v69 v70 v71 v72 v73 v74 v75 v76 v77 v78 v79 v80 v81 v82 v83 v84 v85 v86 v87 qF v89 qG v91 qH v93 qI qJ qK qL qM qN qO qP qQ qR qU v105 qV v107 qW v109 qX qY qZ ru rC rD rE v117 rF rG rH rJ rM rO v124 rP rQ v127 rU rV v130 v131 rW rX nZ og oh oq v138 v139 ou v141 oz v143 oC v145 v146 oD v148 I7 I8 I9 v152 ajM v154 ajN ajO v157 ajP v159 v160 ajQ v162 agb v164 agh agu v167 v168 agD agE v171 agF v173 agG v175 agH agI agJ agK agL agM v182:Value),Q W V->ah V gb 37 a2.cells.toArray->aP a2=aP R.1->bU V a2->K7 {tmps:= #[.slice LA nl lc, .int .i64 (b:Int), .int .i64 fr, .int .i64 t, .int .i64 co,v5,v6,v7,v8,v9,v10, .bool true, .slice (some ⟨ba,oa,none⟩) 4 ca,v13, .slice FA nF fc, .pointer (some ⟨gb,0,none⟩), .int .i64 R.2,v17,v18,v19,v20,v21,v22,v23,v24,v25,v26,v27,v28,v29,v30,v31,v32,v33,v34,v35,v36,v37,v38,v39,v40,v41,v42,v43,v44,v45,v46,v47,v48,v49,v50,v51,v52,v53,v54,v55,v56,v57,v58,v59,v60,v61,v62,v63,v64,v65,v66,v67,v68,v69,v70,v71,v72,v73,v74,v75,v76,v77,v78,v79,v80,v81,v82,v83,v84,v85,v86,v87,qF,v89,qG,v91,qH,v93,qI,qJ,qK,qL,qM,qN,qO,qP,qQ,qR,qU,v105,qV,v107,qW,v109,qX,qY,qZ,ru,rC,rD,rE,v117,rF,rG,rH,rJ,rM,rO,v124,rP,rQ,v127,rU,rV,v130,v131,rW,rX,nZ,og,oh,oq,v138,v139,ou,v141,oz,v143,oC,v145,v146,oD,v148,I7,I8,I9,v152,ajM,v154,ajN,ajO,v157,ajP,v159,v160,ajQ,v162,agb,v164,agh,agu,v167,v168,agD,agE,v171,agF,v173,agG,v175,agH,agI,agJ,agK,agL,agM,v182],defers:=[]} V) ?_ (fun aiH=> ?_)
 ·skip
  intro V a2 gb v5 v6 v7 v8 v9 v10 v13 v17 v18 v19 v20 v21 v22 v23 v24 v25 v26 v27 v28 v29 v30 v31 v32 v33 v34 v35 v36 v37 v38 v39 v40 v41 v42 v43 v44 v45 v46 v47 v48 v49 v50 v51 v52 v53 v54 v55 v56 v57 v58 v59 v60 v61 v62 v63 v64 v65 v66 v67 v68 v69 v70 v71 v72 v73 v74 v75 v76 v77 v78 v79 v80 v81 v82 v83 v84 v85 v86 v87 qF v89 qG v91 qH v93 qI qJ qK qL qM qN qO qP qQ qR qU v105 qV v107 qW v109 qX qY qZ ru rC rD rE v117 rF rG rH rJ rM rO v124 rP rQ v127 rU rV v130 v131 rW rX nZ og oh oq v138 v139 ou v141 oz v143 oC v145 v146 oD v148 I7 I8 I9 v152 ajM v154 ajN ajO v157 ajP v159 v160 ajQ v162 agb v164 agh agu v167 v168 agD agE v171 agF v173 agG v175 agH agI agJ agK agL agM v182 aK hBg hb2 hA2
  refine hK7 _ _ ?_
  clear hK7 uJ Gu fC gq
  dsimp only
  have q1V:Q w1 V:=Q.trans aeI aK
  have HQV:=Lib.hid (Q.trans hSt.q q1V)
  cases hok:yI ps.length t
  ·have h:=PL.out hok
   rw[HKK.out,HR.out]at h
   subst h
   have hso:=HSO.out hok
   clear hBg hb2 hA2 HSO HSI PL HR Gh KU hSt fP uK hok
   rcases(show nF=0∨(¬nF=0/\t<1)∨(¬nF=0/\¬t<1/\(nF:Int)<t) by omega)with rfl|⟨h1,h2⟩|⟨h1,h2,h3⟩
   all_goals
    clear hso
    go_wp2_with fail
    go_ret
    exact⟨rfl,HQV.out⟩
  obtain⟨s,hs1,hS⟩:=HSI.out hok
  rw[HKK.out,HR.out]at hs1
  subst hs1
  dsimp only at hb2
  have HT1:Hid (1<=t):=Lib.hid (by
   unfold yI at hok
   simp only[Bool.and_eq_true,Bool.not_eq_true',decide_eq_false_iff_not]at hok
   omega)
  clear HSO HSI PL hok
  have hsr:=hS.right
  have hsh:=axe hb2 hsr
  have aiI:gX V c:=KU.q q1V
  have hLo:=fun(y:World) (hy:Q V y)=>JQ c a2 y (hT1.q (Q.trans q1V hy)) (aiI.q hy) (hA2.q hy) hsh (by omega)
  unfold FN at hLo
  have fC:∀z,Q V z->(Instr.loadAt 41 (.pointer (some ⟨ba,oa+b*6,none⟩))).run Tryz.prog z= .ok (.agg (aF c)) z:=fun z hz=>Gh ⟨z,Q.trans q1V hz⟩
  have fA:∀z,Q V z->(Instr.loadAt 37 (.pointer (some ⟨gb,0,none⟩))).run Tryz.prog z= .ok (.agg (au a2)) z:=fun z hz=>Wd.load (P:=Tryz.prog) (ty:=37) hBg.lt (ah.range hBg) Tryz.underlying37 rfl (by kernel_rfl) ⟨z,hz⟩
  have HSR:=Lib.hid hsr
  have HSH:=Lib.hid hsh
  have HS:=Lib.hid hS
  have HB2:=Lib.hid hb2
  clear hsr hsh hS hb2 Gh fP uK hpz
  go_upto_region 10 with(fail)
  rename_i K10 hK10
  refine xC (T:=∀(X:World) (gd:Nat) (aa9:Option Addr) (ln:Nat) (v5 v6 v7 v8 v9 v10 v13 v18 v19 v20 v21 v22 v23 v24 v25 v26 v27 v28 v29 v30 v31 v32 v33 v34 v35 v36 v37 v38 v39 v40 v41 v42 v43 v44 v45 v46 v47 v48 v49 v50 v51 v52 v53 v54 v55 v56 v57 v58 v59 v60 v61 v62 v63 v64 v65 v66 v67 v68 v69 v70 v71 v72 v73 v74 v75 v76 v77 v78 v79 v80 v81 v82 v83 v84 v85 v86 v87 qF v89 qG v91 qH v93 qI qJ qK qL qM qN qO qP qQ qR qU v105 qV v107 qW v109 qX qY qZ ru rC rD rE v117 rF rG rH rJ rM rO v124 rP rQ v127 rU rV v130 v131 rW rX nZ og oh oq v138 v139 ou v141 oz v143 oC v145 v146 oD v148 I7 I8 I9 v152 ajM v154 ajN ajO v157 ajP v159 v160 ajQ v162 agb v164 agh agu v167 v168 agD agE v171 agF v173 agG v175 agH agI agJ agK agL agM v182:Value),Q V X->ah X gd 41 (dN c a2 aa9 ln).cells.toArray->gX X (dN c a2 aa9 ln)->K10 {tmps:= #[.slice LA nl lc, .int .i64 (b:Int), .int .i64 fr, .int .i64 t, .int .i64 co,v5,v6,v7,v8,v9,v10, .bool true, .slice (some ⟨ba,oa,none⟩) 4 ca,v13, .slice FA nF fc, .pointer (some ⟨gb,0,none⟩), .int .i64 0, .pointer (some ⟨gd,0,none⟩),v18,v19,v20,v21,v22,v23,v24,v25,v26,v27,v28,v29,v30,v31,v32,v33,v34,v35,v36,v37,v38,v39,v40,v41,v42,v43,v44,v45,v46,v47,v48,v49,v50,v51,v52,v53,v54,v55,v56,v57,v58,v59,v60,v61,v62,v63,v64,v65,v66,v67,v68,v69,v70,v71,v72,v73,v74,v75,v76,v77,v78,v79,v80,v81,v82,v83,v84,v85,v86,v87,qF,v89,qG,v91,qH,v93,qI,qJ,qK,qL,qM,qN,qO,qP,qQ,qR,qU,v105,qV,v107,qW,v109,qX,qY,qZ,ru,rC,rD,rE,v117,rF,rG,rH,rJ,rM,rO,v124,rP,rQ,v127,rU,rV,v130,v131,rW,rX,nZ,og,oh,oq,v138,v139,ou,v141,oz,v143,oC,v145,v146,oD,v148,I7,I8,I9,v152,ajM,v154,ajN,ajO,v157,ajP,v159,v160,ajQ,v162,agb,v164,agh,agu,v167,v168,agD,agE,v171,agF,v173,agG,v175,agH,agI,agJ,agK,agL,agM,v182],defers:=[]} X) ?_ (fun aj8=> ?_)
  ·skip
   intro X gd aa9 ln v5 v6 v7 v8 v9 v10 v13 v18 v19 v20 v21 v22 v23 v24 v25 v26 v27 v28 v29 v30 v31 v32 v33 v34 v35 v36 v37 v38 v39 v40 v41 v42 v43 v44 v45 v46 v47 v48 v49 v50 v51 v52 v53 v54 v55 v56 v57 v58 v59 v60 v61 v62 v63 v64 v65 v66 v67 v68 v69 v70 v71 v72 v73 v74 v75 v76 v77 v78 v79 v80 v81 v82 v83 v84 v85 v86 v87 qF v89 qG v91 qH v93 qI qJ qK qL qM qN qO qP qQ qR qU v105 qV v107 qW v109 qX qY qZ ru rC rD rE v117 rF rG rH rJ rM rO v124 rP rQ v127 rU rV v130 v131 rW rX nZ og oh oq v138 v139 ou v141 oz v143 oC v145 v146 oD v148 I7 I8 I9 v152 ajM v154 ajN ajO v157 ajP v159 v160 ajQ v162 agb v164 agh agu v167 v168 agD agE v171 agF v173 agG v175 agH agI agJ agK agL agM v182 jv hBd hId
   refine hK10 _ _ ?_
   clear hK10 hLo fC fA
   dsimp only
   have q1X:Q w1 X:=Q.trans q1V jv
   obtain⟨nc,hnc⟩:∃nc,c.acts.length=nc:=⟨_,rfl⟩
   have hdl:(dN c a2 aa9 ln).acts.length=nc+1:=by show(c.acts++[a2]).length=_;rw[List.length_append,hnc];rfl
   have hAt:(dN c a2 aa9 ln).acts[nc]?=some a2:=by show(c.acts++[a2])[nc]?=_;rw[List.getElem?_append_right (by omega),hnc,Nat.sub_self];rfl
   have d1:∀y:Wd X,y.w.cell? ⟨gd,1,none⟩=some (.slice (dN c a2 aa9 ln).aA (nc+1:Nat) (dN c a2 aa9 ln).aC):=fun y=>by rw[<-hdl];exact(y.blk hBd).cell 1
   have WC:bU X a2:=hA2.q jv
   have hBX:=hBg.q jv
   have hRc:=fun(qs:List Int)=>awi qs HS.out (aN (dN c a2 aa9 ln)) nc (by have h:=ajY (c:=c) (A:=aa9) (n:=ln) HB2.out;rw[hnc]at h;exact h)
   have au7:=fun(qs:List Int)=>asX qs (dN c a2 aa9 ln) (nc:Int)
   generalize dN c a2 aa9 ln=d at*
   clear hBg hA2 aiI KU
   obtain⟨pkn,plt,pln,pwl,pbd,pun⟩:=HPA.out s HS.out
   have hkd:a2.kind=19:=(show(aP a2).kind=(aP s).kind from congrArg ak.kind HB2.out).trans HS.out.kind
   have hwr:a2.wraps=s.wraps:=show(aP a2).wraps=(aP s).wraps from congrArg ak.wraps HB2.out
   have han:a2.n=t:=(show(aP a2).n=(aP s).n from congrArg ak.n HB2.out).trans HS.out.n
   have ham:a2.m=(keyS (aG b) (aN c)).2:=(show(aP a2).m=(aP s).m from congrArg ak.m HB2.out).trans HS.out.m
   have hwz:∀(j:Nat) (h:j<a2.wraps.length),aiD a2.wraps[j]:=az8 hwr HSR.out
   rw[<-hwr]at pwl pun
   have Rk:=fun(i:Nat) (hi:i<4) (j:Nat) (hj:j<K.length) (ho:(K[j]==i)=false) (y:World) (hy:Q X y)=>az1 (aG i).1 a2 j (bV.lit []) y (hT1.q (Q.trans q1X hy)) (WC.wraps.q hy) hkd (by omega) (hwz j (by omega)) (by rw[pun i hi j hj (by omega) (by omega),ho];rfl)
   have hPy:=fun(i:Nat) (hi:i<4) (j:Nat) (hj:j<K.length) (ho:(K[j]==i)=true) (y:World) (hy:Q X y)=>az2 (aG i).1 a2 j (L[j]'(by omega)) y (hT1.q (Q.trans q1X hy)) (WC.wraps.q hy) hkd (by omega) (hwz j (by omega)) (pbd _ (List.getElem_mem _)) (by rw[pun i hi j hj (by omega) (by omega),ho];rfl)
   have hKi:=fun(i:Nat) (hi:i<4) (y:World) (hy:Q X y)=>Ib i y (hT1.q (Q.trans q1X hy)) (by omega)
   have hIi:=fun(i:Nat) (hi:i<4) (y:World) (hy:Q X y)=>Vb i y (hT1.q (Q.trans q1X hy)) (by omega)
   have hFX:Strs X FA F:=FB.q (Q.trans aK jv)
   have hFk:∀i,i<4->∀(j:Nat) (h:j<F.length) (h2:j<K.length),(F[j].toList==(dn i).toList)=(K[j]==i):=az9 HCE.out plt
   have HFK:Hid (F.length=nF):=Lib.hid HNF.out
   have HKF:Hid (nF=K.length):=Lib.hid Sr.out
   have aiS:=Lib.hid pln
   obtain⟨i0,avf,jq,avg,avh⟩:=info_parts Vd
   obtain⟨i1,aiV,hs0,hs1,hs2⟩:=info_parts aAa
   obtain⟨aAo,hx9⟩:=Wd.first X
   rw[hx9]
   clear hx9
   go_wp2_with fail
   go_loopw [19,20,21] (fun sv pv iv wr=>∃(i:Nat) (SA PA:Option Addr) (sc pc:Nat) (z:Wd X),sv= .slice SA (aaL co i).length sc/\pv= .slice PA (aaJ co K L i).length pc/\iv= .int .i64 i/\wr=z.w/\i<=4/\(aaL co i).length<=sc/\sc<=maxLen/\(aaJ co K L i).length<=pc/\pc<=maxLen/\aV z.w X.heap.size 3 1 (.slice SA (aaL co i).length sc) (aaL co i).length ((aaL co i).flatMap Ap)/\aV z.w X.heap.size 72 2 (.slice PA (aaJ co K L i).length pc) (aaJ co K L i).length ((aaJ co K L i).flatMap shC)) (fun _ _ iv _=>4-(intOf iv).toNat)
   case atStart=>exact⟨0,none,none,0,0,aAo,rfl,rfl,rfl,rfl,Nat.zero_le _,Nat.zero_le _,Nat.zero_le _,Nat.zero_le _,Nat.zero_le _,aV.nil_ _ _ _ _,aV.nil_ _ _ _ _⟩
   case round=>
    obtain⟨i,SA,PA,sc,pc,z,rfl,rfl,rfl,rfl,hi,hsc,hsm,hpc,hpm,hoS,II⟩:=hrel
    by_cases hlt:i<4
    ·have pX:(i:Int)<4:=by omega
     have hi0:(0:Int)<=(i:Int):=by omega
     have hoff:(bits .and .i64 (co/2^i) 1==0)=FX co i:=rfl
     have eS:aaL co (i+1)=aaL co i++if FX co i then[]else[(aG i).1]:=rfl
     have afU:aaJ co K L (i+1)=aaJ co K L i++if FX co i then[]else aaE K L i K.length:=rfl
     cases ho:FX co i
     rotate_left 1
     ·rw[ho,if_pos rfl,List.append_nil]at eS afU
      rw[ho]at hoff
      rw[<-eS]at hsc hoS⊢
      rw[<-afU]at hpc II⊢
      go_wp2_with fail
      exact⟨⟨i+1,SA,PA,sc,pc,z,rfl,rfl,by go_num,rfl,by omega,hsc,hsm,hpc,hpm,hoS,II⟩,by simp only[intOf];omega⟩
     ·rw[ho,if_neg (by simp)]at eS afU
      rw[ho]at hoff
      have hKz:=hKi i hlt
      have anY:=Rk i hlt
      have aoh:=hPy i hlt
      have Fv:=hIi i hlt
      have hFz:=hFk i hlt
      obtain⟨kk,hkk⟩:∃kk,aG i=kk:=⟨_,rfl⟩
      rw[hkk]at eS hKz anY aoh
      have hfl:=fun w=>NC 0 kk.1 kk.1 kk.2 w (.inl ⟨rfl,rfl⟩)
      replace hKz:∀(y:World),Q X y->Calls Tryz.prog 23 #[.int .i64 (i:Int)] y fun e w'=>e= .returned (.agg #[.int .i64 kk.1, .int .i64 kk.2])/\Q y w':=hKz
      clear hkk hKi Rk hPy hIi hFk
      have hn1:=asK co i
      have hn2:=alm co K L i
      have hn3:i*K.length<=4*4:=Nat.mul_le_mul hi HKN.out
      obtain⟨S0,hS0⟩:∃S0,aaL co i=S0:=⟨_,rfl⟩
      rw[hS0]at hn1 eS hsc hoS⊢
      obtain⟨P0,hP0⟩:∃P0,aaJ co K L i=P0:=⟨_,rfl⟩
      rw[hP0]at hn2 afU hpc II⊢
      have hn2:P0.length<=16:=by omega
      clear hS0 hP0 hn3
      have Wy:=Lib.hid eS
      have HEP:=Lib.hid afU
      have HOP:=Lib.hid II
      clear eS afU II
      go_wp2_with fail
      refine(hKz _ z.q).mono ?_
      rintro e w5 ⟨rfl,q5⟩
      have ai2:=hoS.q q5
      have JM:=Q.trans z.q q5
      have hs5:=JM.size
      clear hoS
      go_wp2_with (at_builtin;refine Jw Y6 ard rfl (.tmp 93) (.tmp 97) 49 3 i0 _ 8 rfl Tryz.underlying49 avf jq avg avh rfl (by decide) (by decide) X.heap.size (.slice SA S0.length sc) S0.length _ rfl (ai2.alloc (.cells #[.int .i64 kk.1] 3)) (some ⟨w5.heap.size,0,none⟩) 1 1 [kk.1] rfl (dS.one w5 3 kk.1 _ rfl) rfl (by omega) (by simp;omega) ?_)
      intro A9 c9 w9 kU jd eX bW
      have bD:Q X w9:=fB (Q.trans JM (aO _ _ _)) (Nat.le_refl _) (ai2.alloc _) bW
      have avm:=Wq ((HOP.out.q q5).alloc (.cells #[.int .i64 kk.1] 3)) (ai2.alloc _) (by decide) bW
      have eF:S0.flatMap Ap++Ap kk.1=(S0++[kk.1]).flatMap Ap:=by simp
      first|rw[eF]at eX|skip
      have HOS:=Lib.hid eX
      have avp:=Lib.hid avm
      clear eX avm HOP bW ai2
      obtain⟨x2,hx2⟩:∃u:Wd X,w9=u.w:=⟨⟨w9,bD⟩,rfl⟩
      rw[hx2]at HOS avp⊢
      clear hx2 bD
      go_wp2_with fail
      go_loopw [20,22] (fun pv aok wr=>∃(j:Nat) (PB:Option Addr) (pd:Nat) (y:Wd X),pv= .slice PB (P0++aaE K L i j).length pd/\aok= .int .i64 j/\wr=y.w/\j<=nF/\(P0++aaE K L i j).length<=pd/\pd<=maxLen/\Hid (aV y.w X.heap.size 3 1 (.slice A9 (S0.length+1) c9) (S0.length+1) ((S0++[kk.1]).flatMap Ap))/\Hid (aV y.w X.heap.size 72 2 (.slice PB (P0++aaE K L i j).length pd) (P0++aaE K L i j).length ((P0++aaE K L i j).flatMap shC))) (fun _ aok _=>nF-(intOf aok).toNat)
      case atStart=>exact⟨0,PA,pc,x2,by rw[akA,List.append_nil],rfl,rfl,Nat.zero_le _,by rw[akA,List.append_nil];exact hpc,hpm,HOS,by rw[akA,List.append_nil];exact avp⟩
      case round=>
       obtain⟨j,PB,pd,y,rfl,rfl,rfl,hj,KW,hpe,hoS,II⟩:=hrel
       by_cases hjl:j<nF
       rotate_left 1
       ·obtain rfl:j=nF:=by omega
        have hjn:¬(j:Int)<(j:Int):=by omega
        have hml:aaE K L i j=aaE K L i K.length:=by rw[<-HKF.out]
        rw[hml,<-HEP.out]at KW II⊢
        have hsl:S0.length+1=(aaL co (i+1)).length:=by rw[Wy.out,List.length_append];rfl
        rw[hsl,<-Wy.out]at hoS
        rw[hsl]at kU
        have HSL:=Lib.hid hsl
        clear hsl hml
        go_wp2_with fail
        exact⟨⟨i+1,A9,PB,c9,pd,y,by rw[HSL.out],rfl,by go_num,rfl,by omega,kU,jd,KW,hpe,hoS.out,II.out⟩,by simp only[intOf];omega⟩
       have hjI:(j:Int)<(nF:Int):=by omega
       have hj0:(0:Int)<=(j:Int):=by omega
       have hjK:j<K.length:=by rw[<-HKF.out];exact hjl
       have hjF:j<F.length:=by rw[HFK.out];exact hjl
       obtain⟨s1,o,hso,hFo,hPa⟩:∃(s1:Int×Int) (o:Bool),P0++aaE K L i (j+1)=P0++aaE K L i j++(if o then[s1]else[])/\(F[j].toList==(dn i).toList)=o/\∀(y:World) (hy:Q X y),Calls Tryz.prog 26 #[.int .i64 kk.1, .agg (au a2), .int .i64 (j:Int)] y fun e w'=>e= .returned (.tuple #[.agg (shA s1), .bool o])/\Q y w':=by
        have hm:=azM K L i j hjK aiS.out
        cases hb:(K[j]==i)
        ·exact⟨(0,0),false,by rw[hm,hb];simp,by rw[hFz j hjF hjK,hb],fun y hy=>anY j hjK hb y hy⟩
        ·exact⟨L[j]'(by rw[aiS.out];exact hjK),true,by rw[hm,hb,List.append_assoc],by rw[hFz j hjF hjK,hb],fun y hy=>aoh j hjK hb y hy⟩
       have hm2:=as7 K L i j
       have hk4:=HKN.out
       obtain⟨M0,hM0⟩:∃m,P0++aaE K L i j=m:=⟨_,rfl⟩
       have hlM:M0.length<=1000:=by rw[<-hM0,List.length_append];omega
       rw[hM0]at hso KW II⊢
       have HSO:=Lib.hid hso
       clear hM0 hso hm2 hk4 hjK anY aoh hFz
       obtain⟨afW,off,hFa,aol,hcs⟩:=hFX (by omega)
       have hcf:=hcs j hjF
       obtain⟨idf,avv⟩:∃d,F[j]=d:=⟨_,rfl⟩
       rw[avv]at hcf hFo
       obtain⟨idk,avz⟩:∃d,dn i=d:=⟨_,rfl⟩
       rw[avz]at hFo Fv
       have HFO:=Lib.hid hFo
       clear hcs avv avz hFo hjF
       subst hFa
       obtain⟨Y,hY⟩:∃Y,y.w=Y:=⟨_,rfl⟩
       have EG:Q X Y:=hY▸y.q
       rw[hY]at hoS II⊢
       clear hY
       have fA:∀z,Q Y z->(Instr.loadAt 37 (.pointer (some ⟨gb,0,none⟩))).run Tryz.prog z= .ok (.agg (au a2)) z:=fun z hz=>Wd.load (P:=Tryz.prog) (ty:=37) (hBX.q EG).lt (ah.range (hBX.q EG)) Tryz.underlying37 rfl (by kernel_rfl) ⟨z,hz⟩
       go_upto_region 22 with(fail)
       rename_i K22 afX
       have hz0:Q Y Y.drew:=(Q.refl _).drew
       refine uT (fun z=>Q Y z) (by kernel_rfl) ?_
       refine aS 0 (.int .i64 (i:Int)) hz0 ?_
       try simp only[aax]
       refine V7 3 (.agg (au a2)) rfl hz0 (fun z hz=>oV (fA z hz)) ?_
       try simp only[aax]
       refine aS 4 (.int .i64 (j:Int)) hz0 ?_
       try simp only[aax]
       refine kL 1 9 (fun K' hK'=> ?_) fun K' hK'=> ?_
       ·skip
        go_simp
        refine(hKz _ (Q.trans EG hz0)).mono ?_
        rintro e z1 ⟨rfl,hq⟩
        have hz1:=Q.trans hz0 hq
        have hsz1:=(hz0).size
        refine hK' _ _ hz1 ?_
        clear hK' K' hq
        try simp only[aax]
        refine aS 2 (.int .i64 kk.1) hz1 ?_
        try simp only[aax]
        refine kL 5 9 (fun K' hK'=> ?_) fun K' hK'=> ?_
        ·skip
         go_simp
         refine(hPa _ (Q.trans EG hz1)).mono ?_
         rintro e z2 ⟨rfl,hq⟩
         have hz2:=Q.trans hz1 hq
         have hsz5:=(hz1).size
         refine hK' _ _ hz2 ?_
         clear hK' K' hq
         try simp only[aax]
         refine aS 6 (.tuple #[.agg (shA s1), .bool o]) hz2 ?_
         try simp only[aax]
         refine aS 7 (.agg (shA s1)) hz2 ?_
         try simp only[aax]
         refine aS 8 (.bool o) hz2 ?_
         try simp only[aax]
         refine aW 9 fun K' hK'=> ?_
         refine sG 72 _ rfl (alu _) ?_
         have hb3:=ah.new z2 72 (shA (0,0))
         have akf:=aO z2 (shA (0,0)) 72
         have hz3:Q Y (z2.alloc (.cells (shA (0,0)) 72)):=Q.trans hz2 akf
         have hs3:=(hz2).size
         have hl3:=hb3.lt
         refine hK' _ _ hz3 ?_
         clear hK' K'
         try simp only[aax]
         obtain⟨gb9,abe⟩:∃g,z2.heap.size=g:=⟨_,rfl⟩
         have hge:=Nat.le_of_eq abe
         rw[abe]at hb3 hs3 hl3⊢
         clear abe
         obtain⟨z3,hzz⟩:∃z',z2.alloc (.cells (shA (0,0)) 72)=z':=⟨_,rfl⟩
         rw[hzz]at hb3 hz3 hl3 akf⊢
         clear hzz
         refine aW 10 fun K' hK'=> ?_
         refine oJ hb3 72 (.tmp 23) (.tmp 112) (shC s1) rfl rfl rfl (by kernel_rfl) (alA _) (Nat.le_refl 2) ?_
         intro V hV iD kD
         rw[bC _ _ (by rfl)]at hV
         have aK:Q Y V:=iD _ _ hs3 hz3
         refine hK' _ _ aK ?_
         clear hK' K'
         try simp only[aax]
         refine aS 11 (.bool o) aK ?_
         try simp only[aax]
         refine wpAnyH_done (by kernel_rfl) ?_ _
         refine afX _ _ ?_
         clear afX
         try dsimp only
         have qV0:Q X V:=Q.trans EG aK
         have ab3:=Lib.hid (hoS.out.q aK)
         have ab9:=Lib.hid (II.out.q aK)
         clear hoS II fA hPa
         have Qh:∀y:Wd V,Calls Tryz.prog 11 #[.int .i64 (i:Int)] y.w fun e w'=>e= .returned (.string idk)/\Q y.w w':=fun y=>Fv y.w (Q.trans qV0 y.q)
         have hcz:∀y:Wd V,y.w.cell? ⟨afW,off+j,none⟩=some (.string idf):=fun y=>((Q.trans qV0 y.q).cell (p:=⟨afW,off+j,none⟩) aol).trans hcf
         clear Fv
         obtain⟨x5,hx5⟩:=Wd.first V
         rw[hx5]
         clear hx5
         go_upto_region 23 with(fail)
         refine kJ x5 (by kernel_rfl) (by kernel_rfl) ?_
         repeat(go_big_quiet_step (first|(go_at_call 11;exact Wd.call _ (Qh _))))
         refine wpQuiet_nil ?_
         rintro w'' ⟨y5,rfl⟩
         have qy5:Q X y5.w:=Q.trans qV0 y5.q
         have hfo:=HFO.out
         rw[hfo]
         clear hfo
         cases o
         ·have hso:P0++aaE K L i (j+1)=M0:=by rw[HSO.out];simp
          have HS5:=Lib.hid (ab3.out.q y5.q)
          have HP5:=Lib.hid (ab9.out.q y5.q)
          have aaX:=Lib.hid hso
          clear hso HSO ab3 ab9 hV
          go_wp2_with fail
          exact⟨⟨j+1,PB,pd,⟨y5.w,qy5⟩,by rw[aaX.out],by go_num,rfl,by omega,by rw[aaX.out];exact KW,hpe,HS5,by rw[aaX.out];exact HP5⟩,by simp only[intOf];omega⟩
         ·have hso:P0++aaE K L i (j+1)=M0++[s1]:=by rw[HSO.out];simp
          have aaX:=Lib.hid hso
          have hBs:ah y5.w gb9 72 (shC s1).toArray:=y5.blk hV
          have hLs:(Instr.loadAt 72 (.pointer (some ⟨gb9,0,none⟩))).run Tryz.prog y5.w= .ok (.agg (shA s1)) y5.w:=Wd.load (P:=Tryz.prog) (w0:=y5.w) hBs.lt (ah.range hBs) Tryz.underlying72 rfl (by kernel_rfl) ⟨y5.w,Q.refl _⟩
          have hnew:dS (y5.w.alloc (.cells (shA s1) 72)) (some ⟨y5.w.heap.size,0,none⟩) 2 shC [s1]:=jW (x:=s1) (f:=shC) (ah.new y5.w 72 (shA s1))
          have yC:=(ab9.out.q y5.q).alloc (.cells (shA s1) 72)
          have avK:=qy5.size
          have HS5:=Lib.hid ((ab3.out.q y5.q).alloc (.cells (shA s1) 72))
          clear hso HSO ab3 ab9 hV hBs
          go_wp2_with (first|(refine aI (.tmp 23) hLs ?_)|(refine Uk 70 1 _ #[(0, .agg (shA s1))] _ rfl rfl (by simp only[List.map_toArray,List.map_cons,List.map_nil];rfl) (alv _ _) ?_)|(at_builtin;refine Jw avR alH rfl (.tmp 124) (.tmp 126) 70 72 i1 _ 16 rfl Tryz.underlying70 aiV hs0 hs1 hs2 rfl (by decide) (by decide) X.heap.size (.slice PB M0.length pd) M0.length M0 rfl yC (some ⟨y5.w.heap.size,0,none⟩) 1 1 [s1] rfl hnew rfl (by omega) (by simp only[World.size_alloc];omega) ?_))
          intro A7 c7 w7 hc7 hm7 acF Hy
          have hq7:Q X w7:=fB (Q.trans qy5 (aO _ _ _)) (Nat.le_refl _) yC Hy
          have HS7:=Lib.hid (Wq HS5.out yC (by decide) Hy)
          have hlen:(M0++[s1]).length=M0.length+1:=by simp
          have eF:M0.flatMap shC++shC s1=(M0++[s1]).flatMap shC:=by simp
          first|rw[eF]at acF|skip
          rw[<-hlen]at acF hc7
          have HP7:=Lib.hid acF
          have HLN:=Lib.hid hlen
          clear acF Hy hnew yC hLs HS5 hlen
          go_wp2_with fail
          exact⟨⟨j+1,A7,c7,⟨w7,hq7⟩,by rw[aaX.out,HLN.out],by go_num,rfl,by omega,by rw[aaX.out];exact hc7,hm7,HS7,by rw[aaX.out];exact HP7⟩,by simp only[intOf];omega⟩
        ·skip
         refine sG 72 _ rfl (alu _) ?_
         have hb4:=ah.new z1 72 (shA (0,0))
         have aeX:=aO z1 (shA (0,0)) 72
         have lG:Q Y (z1.alloc (.cells (shA (0,0)) 72)):=Q.trans hz1 aeX
         have hs4:=(hz1).size
         have hl4:=hb4.lt
         refine hK' _ _ lG ?_
         clear hK' K'
         try simp only[aax]
         obtain⟨gb9,abe⟩:∃g,z1.heap.size=g:=⟨_,rfl⟩
         have hge:=Nat.le_of_eq abe
         rw[abe]at hb4 hs4 hl4⊢
         clear abe
         obtain⟨z4,hzz⟩:∃z',z1.alloc (.cells (shA (0,0)) 72)=z':=⟨_,rfl⟩
         rw[hzz]at hb4 lG hl4 aeX⊢
         clear hzz
         refine aW 5 fun K' hK'=> ?_
         go_simp
         refine(hPa _ (Q.trans EG lG)).mono ?_
         rintro e z5 ⟨rfl,hq⟩
         have sU:=Q.trans lG hq
         have hsz5:=(lG).size
         have aAI:=hb4.lt
         have hb5:=hb4.q hq
         refine hK' _ _ sU ?_
         clear hK' K' hq
         try simp only[aax]
         refine aS 6 (.tuple #[.agg (shA s1), .bool o]) sU ?_
         try simp only[aax]
         refine aS 7 (.agg (shA s1)) sU ?_
         try simp only[aax]
         refine aS 8 (.bool o) sU ?_
         try simp only[aax]
         refine aW 10 fun K' hK'=> ?_
         refine oJ hb5 72 (.tmp 23) (.tmp 112) (shC s1) rfl rfl rfl (by kernel_rfl) (alA _) (Nat.le_refl 2) ?_
         intro V hV iD kD
         rw[bC _ _ (by rfl)]at hV
         have aK:Q Y V:=iD _ _ hs4 sU
         refine hK' _ _ aK ?_
         clear hK' K'
         try simp only[aax]
         refine aS 11 (.bool o) aK ?_
         try simp only[aax]
         refine wpAnyH_done (by kernel_rfl) ?_ _
         refine afX _ _ ?_
         clear afX
         try dsimp only
         have qV0:Q X V:=Q.trans EG aK
         have ab3:=Lib.hid (hoS.out.q aK)
         have ab9:=Lib.hid (II.out.q aK)
         clear hoS II fA hPa
         have Qh:∀y:Wd V,Calls Tryz.prog 11 #[.int .i64 (i:Int)] y.w fun e w'=>e= .returned (.string idk)/\Q y.w w':=fun y=>Fv y.w (Q.trans qV0 y.q)
         have hcz:∀y:Wd V,y.w.cell? ⟨afW,off+j,none⟩=some (.string idf):=fun y=>((Q.trans qV0 y.q).cell (p:=⟨afW,off+j,none⟩) aol).trans hcf
         clear Fv
         obtain⟨x5,hx5⟩:=Wd.first V
         rw[hx5]
         clear hx5
         go_upto_region 23 with(fail)
         refine kJ x5 (by kernel_rfl) (by kernel_rfl) ?_
         repeat(go_big_quiet_step (first|(go_at_call 11;exact Wd.call _ (Qh _))))
         refine wpQuiet_nil ?_
         rintro w'' ⟨y5,rfl⟩
         have qy5:Q X y5.w:=Q.trans qV0 y5.q
         have hfo:=HFO.out
         rw[hfo]
         clear hfo
         cases o
         ·have hso:P0++aaE K L i (j+1)=M0:=by rw[HSO.out];simp
          have HS5:=Lib.hid (ab3.out.q y5.q)
          have HP5:=Lib.hid (ab9.out.q y5.q)
          have aaX:=Lib.hid hso
          clear hso HSO ab3 ab9 hV
          go_wp2_with fail
          exact⟨⟨j+1,PB,pd,⟨y5.w,qy5⟩,by rw[aaX.out],by go_num,rfl,by omega,by rw[aaX.out];exact KW,hpe,HS5,by rw[aaX.out];exact HP5⟩,by simp only[intOf];omega⟩
         ·have hso:P0++aaE K L i (j+1)=M0++[s1]:=by rw[HSO.out];simp
          have aaX:=Lib.hid hso
          have hBs:ah y5.w gb9 72 (shC s1).toArray:=y5.blk hV
          have hLs:(Instr.loadAt 72 (.pointer (some ⟨gb9,0,none⟩))).run Tryz.prog y5.w= .ok (.agg (shA s1)) y5.w:=Wd.load (P:=Tryz.prog) (w0:=y5.w) hBs.lt (ah.range hBs) Tryz.underlying72 rfl (by kernel_rfl) ⟨y5.w,Q.refl _⟩
          have hnew:dS (y5.w.alloc (.cells (shA s1) 72)) (some ⟨y5.w.heap.size,0,none⟩) 2 shC [s1]:=jW (x:=s1) (f:=shC) (ah.new y5.w 72 (shA s1))
          have yC:=(ab9.out.q y5.q).alloc (.cells (shA s1) 72)
          have avK:=qy5.size
          have HS5:=Lib.hid ((ab3.out.q y5.q).alloc (.cells (shA s1) 72))
          clear hso HSO ab3 ab9 hV hBs
          go_wp2_with (first|(refine aI (.tmp 23) hLs ?_)|(refine Uk 70 1 _ #[(0, .agg (shA s1))] _ rfl rfl (by simp only[List.map_toArray,List.map_cons,List.map_nil];rfl) (alv _ _) ?_)|(at_builtin;refine Jw avR alH rfl (.tmp 124) (.tmp 126) 70 72 i1 _ 16 rfl Tryz.underlying70 aiV hs0 hs1 hs2 rfl (by decide) (by decide) X.heap.size (.slice PB M0.length pd) M0.length M0 rfl yC (some ⟨y5.w.heap.size,0,none⟩) 1 1 [s1] rfl hnew rfl (by omega) (by simp only[World.size_alloc];omega) ?_))
          intro A7 c7 w7 hc7 hm7 acF Hy
          have hq7:Q X w7:=fB (Q.trans qy5 (aO _ _ _)) (Nat.le_refl _) yC Hy
          have HS7:=Lib.hid (Wq HS5.out yC (by decide) Hy)
          have hlen:(M0++[s1]).length=M0.length+1:=by simp
          have eF:M0.flatMap shC++shC s1=(M0++[s1]).flatMap shC:=by simp
          first|rw[eF]at acF|skip
          rw[<-hlen]at acF hc7
          have HP7:=Lib.hid acF
          have HLN:=Lib.hid hlen
          clear acF Hy hnew yC hLs HS5 hlen
          go_wp2_with fail
          exact⟨⟨j+1,A7,c7,⟨w7,hq7⟩,by rw[aaX.out,HLN.out],by go_num,rfl,by omega,by rw[aaX.out];exact hc7,hm7,HS7,by rw[aaX.out];exact HP7⟩,by simp only[intOf];omega⟩
       ·skip
        refine sG 72 _ rfl (alu _) ?_
        have hb6:=ah.new Y.drew 72 (shA (0,0))
        have Xb:=aO Y.drew (shA (0,0)) 72
        have lg:Q Y (Y.drew.alloc (.cells (shA (0,0)) 72)):=Q.trans hz0 Xb
        have hs6:=(hz0).size
        have Rz:=hb6.lt
        refine hK' _ _ lg ?_
        clear hK' K'
        try simp only[aax]
        obtain⟨gb9,abe⟩:∃g,Y.drew.heap.size=g:=⟨_,rfl⟩
        have hge:=Nat.le_of_eq abe
        rw[abe]at hb6 hs6 Rz⊢
        clear abe
        obtain⟨z6,hzz⟩:∃z',Y.drew.alloc (.cells (shA (0,0)) 72)=z':=⟨_,rfl⟩
        rw[hzz]at hb6 lg Rz Xb⊢
        clear hzz
        refine aW 1 fun K' hK'=> ?_
        go_simp
        refine(hKz _ (Q.trans EG lg)).mono ?_
        rintro e z7 ⟨rfl,hq⟩
        have tu:=Q.trans lg hq
        have hsz1:=(lg).size
        have ay5:=hb6.lt
        have hb7:=hb6.q hq
        refine hK' _ _ tu ?_
        clear hK' K' hq
        try simp only[aax]
        refine aS 2 (.int .i64 kk.1) tu ?_
        try simp only[aax]
        refine aW 5 fun K' hK'=> ?_
        go_simp
        refine(hPa _ (Q.trans EG tu)).mono ?_
        rintro e z8 ⟨rfl,hq⟩
        have qx:=Q.trans tu hq
        have hsz5:=(tu).size
        have aAr:=hb7.lt
        have hb8:=hb7.q hq
        refine hK' _ _ qx ?_
        clear hK' K' hq
        try simp only[aax]
        refine aS 6 (.tuple #[.agg (shA s1), .bool o]) qx ?_
        try simp only[aax]
        refine aS 7 (.agg (shA s1)) qx ?_
        try simp only[aax]
        refine aS 8 (.bool o) qx ?_
        try simp only[aax]
        refine aW 10 fun K' hK'=> ?_
        refine oJ hb8 72 (.tmp 23) (.tmp 112) (shC s1) rfl rfl rfl (by kernel_rfl) (alA _) (Nat.le_refl 2) ?_
        intro V hV iD kD
        rw[bC _ _ (by rfl)]at hV
        have aK:Q Y V:=iD _ _ hs6 qx
        refine hK' _ _ aK ?_
        clear hK' K'
        try simp only[aax]
        refine aS 11 (.bool o) aK ?_
        try simp only[aax]
        refine wpAnyH_done (by kernel_rfl) ?_ _
        refine afX _ _ ?_
        clear afX
        try dsimp only
        have qV0:Q X V:=Q.trans EG aK
        have ab3:=Lib.hid (hoS.out.q aK)
        have ab9:=Lib.hid (II.out.q aK)
        clear hoS II fA hPa
        have Qh:∀y:Wd V,Calls Tryz.prog 11 #[.int .i64 (i:Int)] y.w fun e w'=>e= .returned (.string idk)/\Q y.w w':=fun y=>Fv y.w (Q.trans qV0 y.q)
        have hcz:∀y:Wd V,y.w.cell? ⟨afW,off+j,none⟩=some (.string idf):=fun y=>((Q.trans qV0 y.q).cell (p:=⟨afW,off+j,none⟩) aol).trans hcf
        clear Fv
        obtain⟨x5,hx5⟩:=Wd.first V
        rw[hx5]
        clear hx5
        go_upto_region 23 with(fail)
        refine kJ x5 (by kernel_rfl) (by kernel_rfl) ?_
        repeat(go_big_quiet_step (first|(go_at_call 11;exact Wd.call _ (Qh _))))
        refine wpQuiet_nil ?_
        rintro w'' ⟨y5,rfl⟩
        have qy5:Q X y5.w:=Q.trans qV0 y5.q
        have hfo:=HFO.out
        rw[hfo]
        clear hfo
        cases o
        ·have hso:P0++aaE K L i (j+1)=M0:=by rw[HSO.out];simp
         have HS5:=Lib.hid (ab3.out.q y5.q)
         have HP5:=Lib.hid (ab9.out.q y5.q)
         have aaX:=Lib.hid hso
         clear hso HSO ab3 ab9 hV
         go_wp2_with fail
         exact⟨⟨j+1,PB,pd,⟨y5.w,qy5⟩,by rw[aaX.out],by go_num,rfl,by omega,by rw[aaX.out];exact KW,hpe,HS5,by rw[aaX.out];exact HP5⟩,by simp only[intOf];omega⟩
        ·have hso:P0++aaE K L i (j+1)=M0++[s1]:=by rw[HSO.out];simp
         have aaX:=Lib.hid hso
         have hBs:ah y5.w gb9 72 (shC s1).toArray:=y5.blk hV
         have hLs:(Instr.loadAt 72 (.pointer (some ⟨gb9,0,none⟩))).run Tryz.prog y5.w= .ok (.agg (shA s1)) y5.w:=Wd.load (P:=Tryz.prog) (w0:=y5.w) hBs.lt (ah.range hBs) Tryz.underlying72 rfl (by kernel_rfl) ⟨y5.w,Q.refl _⟩
         have hnew:dS (y5.w.alloc (.cells (shA s1) 72)) (some ⟨y5.w.heap.size,0,none⟩) 2 shC [s1]:=jW (x:=s1) (f:=shC) (ah.new y5.w 72 (shA s1))
         have yC:=(ab9.out.q y5.q).alloc (.cells (shA s1) 72)
         have avK:=qy5.size
         have HS5:=Lib.hid ((ab3.out.q y5.q).alloc (.cells (shA s1) 72))
         clear hso HSO ab3 ab9 hV hBs
         go_wp2_with (first|(refine aI (.tmp 23) hLs ?_)|(refine Uk 70 1 _ #[(0, .agg (shA s1))] _ rfl rfl (by simp only[List.map_toArray,List.map_cons,List.map_nil];rfl) (alv _ _) ?_)|(at_builtin;refine Jw avR alH rfl (.tmp 124) (.tmp 126) 70 72 i1 _ 16 rfl Tryz.underlying70 aiV hs0 hs1 hs2 rfl (by decide) (by decide) X.heap.size (.slice PB M0.length pd) M0.length M0 rfl yC (some ⟨y5.w.heap.size,0,none⟩) 1 1 [s1] rfl hnew rfl (by omega) (by simp only[World.size_alloc];omega) ?_))
         intro A7 c7 w7 hc7 hm7 acF Hy
         have hq7:Q X w7:=fB (Q.trans qy5 (aO _ _ _)) (Nat.le_refl _) yC Hy
         have HS7:=Lib.hid (Wq HS5.out yC (by decide) Hy)
         have hlen:(M0++[s1]).length=M0.length+1:=by simp
         have eF:M0.flatMap shC++shC s1=(M0++[s1]).flatMap shC:=by simp
         first|rw[eF]at acF|skip
         rw[<-hlen]at acF hc7
         have HP7:=Lib.hid acF
         have HLN:=Lib.hid hlen
         clear acF Hy hnew yC hLs HS5 hlen
         go_wp2_with fail
         exact⟨⟨j+1,A7,c7,⟨w7,hq7⟩,by rw[aaX.out,HLN.out],by go_num,rfl,by omega,by rw[aaX.out];exact hc7,hm7,HS7,by rw[aaX.out];exact HP7⟩,by simp only[intOf];omega⟩
    ·have h4:i=4:=by omega
     have pX:¬(i:Int)<4:=by omega
     have hpn:((aaJ co K L i).length:Int)=(ps.countP (iR (iZ (aaL co i))):Int):=by rw[h4,HPN.out L aiS.out]
     have hjn:1<=t->t<=((aaJ co K L i).length:Int)->oG.aeh (aaJ co K L i) t=((keyS (aG b) (aN c)).1,true):=by rw[h4];exact HJN.out
     have hsx:=aAf co i
     have hRn:ug (iZ (aaL co i)) d nc=decide (t<=((aaJ co K L i).length:Int)):=by rw[hpn,<-HPS.out,<-au7];exact hRc _
     have hSi:Ints z.w SA (aaL co i):=bP.yQ (hoS.rows aAd rfl)
     have hPi:oG.RX z.w PA (aaJ co K L i):=aAb (II.rows aAc rfl)
     have hpl:(aaJ co K L i).length<=16:=by have h1:=alm co K L i;have h2:i*K.length<=4*4:=Nat.mul_le_mul hi HKN.out;omega
     have Fv:=hId.q z.q
     have hBz:=hBd.q z.q
     have apH:=hBX.q z.q
     have hAz:=WC.q z.q
     have hqz:Q w z.w:=Q.trans HQV.out (Q.trans jv z.q)
     have hTz:=hT1.q (Q.trans q1X z.q)
     have hsl:(aaL co i).length<=9223372036854775807:=by omega
     have air:Sign.keyOf (keyS (aG b) (aN c)).1=keyS (aG b) (aN c)/\_:=HKR.out
     have hkl2:=HKL.out
     generalize keyS (aG b) (aN c)=kr at hjn air hkl2 ham
     obtain⟨S4,hS4⟩:∃S4,aaL co i=S4:=⟨_,rfl⟩
     obtain⟨P4,hP4⟩:∃P4,aaJ co K L i=P4:=⟨_,rfl⟩
     rw[hS4]at hsx hRn hSi hsl hsc⊢
     rw[hP4]at hjn hRn hPi hpl hpc⊢
     clear hS4 hP4 hoS II hRc au7 HPN HJN aiS HPA HKR HKL HPS hFX hFk Rk hPy hKi hIi HFK HKF d1 hpn h4 HS HSR HSH HB2
     obtain⟨Z,hZ⟩:∃Z,z.w=Z:=⟨_,rfl⟩
     rw[hZ]at hSi hPi Fv hBz apH hAz hqz hTz⊢
     clear hZ
     obtain⟨y0,hy0⟩:=Wd.first Z
     have hDz:=Wd.load (P:=Tryz.prog) (ty:=41) hBz.lt (ah.range hBz) Tryz.underlying41 rfl (by kernel_rfl)
     have hRz:∀y:Wd Z,Calls Tryz.prog 19 #[.agg (aF d), .slice SA S4.length sc, .int .i64 (nc:Int)] y.w fun e w'=>e= .returned (.bool (decide (t<=(P4.length:Int))))/\Q y.w w':=fun y=>by rw[<-hRn];exact ajU d SA sc S4 nc y.w (Fv.q y.q) (hSi.q y.q) hsx (by omega)
     have hRy:∀y:Wd Z,Calls Tryz.prog 19 #[.agg (aF d), .slice SA S4.length sc, .int .i64 ((nc:Int)-1)] y.w fun e w'=>e= .returned (.bool (ug (iZ S4) d ((nc:Int)-1)))/\Q y.w w':=fun y=>ajU d SA sc S4 ((nc:Int)-1) y.w (Fv.q y.q) (hSi.q y.q) hsx (by omega)
     have eD:aF d= #[.string d.id, .slice d.aA (nc+1:Nat) d.aC, .slice d.kA d.keys.length d.kC, .string d.prev, .int .i64 d.gen, .bool d.fork]:=by rw[<-hdl];rfl
     rw[eD]at hRy
     clear eD
     have f0:=aB (.string d.id) hBz 0
     have f1:∀y:Wd Z,y.w.cell? ⟨gd,1,none⟩=some (.slice d.aA (nc+1:Nat) d.aC):=fun y=>by rw[<-hdl];exact(y.blk hBz).cell 1
     have f2:=aB (.slice d.kA d.keys.length d.kC) hBz 2
     have f3:=aB (.string d.prev) hBz 3
     have f4:=aB (.int .i64 d.gen) hBz 4
     have f5:=aB (.bool d.fork) hBz 5
     have gq:t<=(P4.length:Int)->∀y:Wd Z,Calls Tryz.prog 27 #[.agg (au a2), .slice PA P4.length pc] y.w fun e w'=>e= .returned (.tuple #[.agg (bH kr), .bool true])/\Q y.w w':=fun h y=>az5 a2 PA pc P4 kr y.w (hTz.q y.q) hkd (hPi.q y.q) hpc hpm (by omega) (by rw[han];exact hjn HT1.out h) ⟨hkl2.1,by omega⟩ air.1 air.2.1 ham
     have hAy:=Wd.load (P:=Tryz.prog) (ty:=37) apH.lt (ah.range apH) Tryz.underlying37 rfl (by kernel_rfl)
     have ao6:∀y:Wd Z,Calls Tryz.prog 28 #[.int .i64 37, .int .i64 kr.1] y.w fun e w'=>e= .returned (.int .i64 kr.2)/\Q y.w w':=fun y=>by rw[<-air.2.2];exact Tv 37 kr.1 y.w (by omega) (by omega)
     have c17:∀y:Wd Z,y.w.cell? ⟨gb,17,none⟩=some (.int .i64 kr.2):=fun y=>by rw[<-ham];exact(y.blk apH).cell 17
     have hcases:ug (iZ S4) d ((nc:Int)-1)=false∨∃m b5 o5,ug (iZ S4) d ((nc:Int)-1)=true/\nc=m+1/\d.aA=some ⟨b5,o5,none⟩/\∀y:Wd Z,y.w.cell? ⟨b5,o5+m*20+3,none⟩=some (.int .i64 19):=by
      cases hr:ug (iZ S4) d ((nc:Int)-1)
      ·exact .inl rfl
      ·obtain⟨m,hm1,hm2,MF⟩:=aAe hr
       obtain⟨b5,o5,eA,hb5,aAs⟩:=Fv.acts (by omega)
       exact .inr ⟨m,b5,o5,rfl,hm1,eA,fun y=>Wd.get hb5 (aAs m hm2) 3 (by rw[<-MF];rfl) y⟩
     have aAt:nc<=17:=by omega
     have hq0:True:=trivial
     have haC:(nc:Int)+1<=(d.aC:Int):=by have h:=Fv.aC;rw[hdl]at h;omega
     generalize S4.length=aAJ at*
     obtain⟨af2,hnP⟩:∃af2,P4.length=af2:=⟨_,rfl⟩
     rw[hnP]at hRz gq hpc hpl⊢
     have uj:=Lib.hid hqz
     clear hRn hSi hPi Fv hBz apH hAz hTz hqz hjn hsx hnP hdl hAt WC hBX hId hBd
     rw[hy0]
     clear hy0
     clear pkn plt pln pwl pbd pun hwz hwr hkd han ham avf jq avg avh aiV hs0 hs1 hs2 aAi aAj hfr ht hco hbw hb hbI hb4 hbl hf1 hf2 Fq FB aAl HF HNF MQ Sr HKN HCE HR HO HKK HPB HT1 HQV Gi aAh hmx hi air hkl2 hq0 aAt
     by_cases hcn:t<=(af2:Int)
     rotate_left 1
     ·have hdf:decide (t<=(af2:Int))=false:=decide_eq_false hcn
      rw[hdf]at hRz
      clear hdf gq hAy ao6 c17
      go_upto_region 28 with(first|(refine OC 41 (.tmp 17) (.pointer (some ⟨gd,0,none⟩)) (.agg (aF d)) ?_ ?_ ?_ ?_ ?_;rfl;kernel_rfl;rfl;exact hDz _)|(go_at_call 19;refine(hRz _).mono ?_;rintro e w' ⟨rfl,hq⟩;obtain⟨v1,rfl⟩:=Wd.next _ hq;clear hq))
      rcases hcases with hr|⟨m,b5,o5,hr,hm1,eA,e3⟩
      case' inl=>
       rw[hr]at hRy
       go_upto_region 30 with((go_at_call 19;refine(hRy _).mono ?_;rintro e w' ⟨rfl,hq⟩;obtain⟨v2,rfl⟩:=Wd.next _ hq;clear hq))
      case' inr=>
       rw[hr]at hRy
       rw[eA]at f1 hRy
       have hi0:(0:Int)<=(nc:Int)-1:=by omega
       have hi1:(nc:Int)-1<((nc+1:Nat):Int):=by omega
       have hi2:((nc:Int)-1).toNat=m:=by omega
       clear hm1 eA
       go_upto_region 30 with((go_at_call 19;refine(hRy _).mono ?_;rintro e w' ⟨rfl,hq⟩;obtain⟨v2,rfl⟩:=Wd.next _ hq;clear hq))
      all_goals
       go_wp2_with fail
       go_ret
       exact⟨rfl,Q.trans uj.out v2.q⟩
     have hdt:decide (t<=(af2:Int))=true:=decide_eq_true hcn
     rw[hdt]at hRz
     have hKz:=gq hcn
     clear hdt gq
     go_upto_region 28 with(first|(refine OC 41 (.tmp 17) (.pointer (some ⟨gd,0,none⟩)) (.agg (aF d)) ?_ ?_ ?_ ?_ ?_;rfl;kernel_rfl;rfl;exact hDz _)|(go_at_call 19;refine(hRz _).mono ?_;rintro e w' ⟨rfl,hq⟩;obtain⟨v1,rfl⟩:=Wd.next _ hq;clear hq))
     rcases hcases with hr|⟨m,b5,o5,hr,hm1,eA,e3⟩
     case' inl=>
      rw[hr]at hRy
      go_upto_region 32 with((go_at_call 19;refine(hRy _).mono ?_;rintro e w' ⟨rfl,hq⟩;obtain⟨v2,rfl⟩:=Wd.next _ hq;clear hq))
     case' inr=>
      rw[hr]at hRy
      rw[eA]at f1 hRy
      have hi0:(0:Int)<=(nc:Int)-1:=by omega
      have hi1:(nc:Int)-1<((nc+1:Nat):Int):=by omega
      have hi2:((nc:Int)-1).toNat=m:=by omega
      clear hm1 eA
      go_upto_region 32 with((go_at_call 19;refine(hRy _).mono ?_;rintro e w' ⟨rfl,hq⟩;obtain⟨v2,rfl⟩:=Wd.next _ hq;clear hq))
     all_goals
      clear hDz hRz hRy f0 f1 f2 f3 f4 f5
      replace hKz:∀y:Wd Z,Calls Tryz.prog 27 #[.agg (au a2), .slice PA af2 pc] y.w fun e w'=>e= .returned (.tuple #[.agg #[.int .i64 kr.1, .int .i64 kr.2], .bool true])/\Q y.w w':=hKz
      go_wp2_with (first|(refine aI (.tmp 15) (hAy _) ?_)|(go_at_call 27;refine(hKz _).mono ?_;rintro e w' ⟨rfl,hq⟩;obtain⟨v3,rfl⟩:=Wd.next _ hq;clear hq hKz hAy))
      have yh:=ah.new v3.w 66 #[.int .i64 kr.1, .int .i64 kr.2]
      have hq6:=Q.trans v3.q (aO v3.w #[.int .i64 kr.1, .int .i64 kr.2] 66)
      obtain⟨W6,hw6⟩:∃W6,v3.w.alloc (.cells #[.int .i64 kr.1, .int .i64 kr.2] 66)=W6:=⟨_,rfl⟩
      rw[hw6]at yh hq6⊢
      clear hw6
      generalize v3.w.heap.size=gk at*
      have kc0:=aB (.int .i64 kr.1) yh 0
      have kc1:=aB (.int .i64 kr.2) yh 1
      have kc2:∀y:Wd W6,y.w.cell? ⟨gb,17,none⟩=some (.int .i64 kr.2):=fun y=>c17 ⟨y.w,Q.trans hq6 y.q⟩
      have hGe:=fun y:Wd W6=>ao6 ⟨y.w,Q.trans hq6 y.q⟩
      clear c17 ao6
      obtain⟨y6,hy6⟩:=Wd.first W6
      rw[hy6]
      clear hy6
      refine kJ y6 (by kernel_rfl) (by kernel_rfl) ?_
      repeat(go_big_quiet_step (first|(go_at_call 28;exact Wd.call _ (hGe _))))
      refine wpQuiet_nil ?_
      rintro w'' ⟨y7,rfl⟩
      go_wp2_with fail
      go_ret
      exact⟨rfl,Q.trans uj.out (Q.trans hq6 y7.q)⟩
  have hz0:Q V V.drew:=(Q.refl _).drew
  refine uT (fun z=>Q V z) (by kernel_rfl) ?_
  refine aS 0 (.slice (some ⟨ba,oa,none⟩) 4 ca) hz0 ?_
  try simp only[aax]
  refine aS 1 (.int .i64 (b:Int)) hz0 ?_
  try simp only[aax]
  refine V7 2 (.pointer (some ⟨ba,oa+b*6,none⟩)) rfl hz0 (fun z hz=>BK 24 41 (.tmp 74) (.tmp 75) ba oa 4 ca b 6 rfl rfl rfl Tryz.underlying24 (by kernel_rfl) Tryz.sizeOf41 hb4) ?_
  try simp only[aax]
  refine V7 3 (.agg (aF c)) rfl hz0 (fun z hz=>oV (fC z hz)) ?_
  try simp only[aax]
  refine V7 4 (.agg (au a2)) rfl hz0 (fun z hz=>oV (fA z hz)) ?_
  try simp only[aax]
  refine kL 5 6 (fun K' hK'=> ?_) fun K' hK'=> ?_
  ·skip
   go_simp
   refine(hLo _ hz0).mono ?_
   rintro e z1 ⟨aa9,ln,rfl,⟨-,-,haC,-,-⟩,iw,hq⟩
   have hz1:=Q.trans hz0 hq
   have hsz5:=(hz0).size
   refine hK' _ _ hz1 ?_
   clear hK' K' hq
   try simp only[aax]
   refine aW 6 fun K' hK'=> ?_
   refine sG 41 _ rfl (ajV _) ?_
   have hb2:=ah.new z1 41 (aF fE)
   have abo:=aO z1 (aF fE) 41
   have hz2:Q V (z1.alloc (.cells (aF fE) 41)):=Q.trans hz1 abo
   have hs2:=(hz1).size
   have hl2:=hb2.lt
   refine hK' _ _ hz2 ?_
   clear hK' K'
   try simp only[aax]
   obtain⟨gb9,abe⟩:∃g,z1.heap.size=g:=⟨_,rfl⟩
   have hge:=Nat.le_of_eq abe
   rw[abe]at hb2 hs2 hl2⊢
   clear abe
   obtain⟨z2,hzz⟩:∃z',z1.alloc (.cells (aF fE) 41)=z':=⟨_,rfl⟩
   rw[hzz]at hb2 hz2 hl2 abo⊢
   clear hzz
   refine aW 7 fun K' hK'=> ?_
   refine oJ hb2 41 (.tmp 17) (.tmp 79) (dN c a2 aa9 ln).cells rfl rfl rfl (by kernel_rfl) (nJ _) (Nat.le_refl 6) ?_
   intro X hX ai3 aaW
   rw[bC _ _ (by rfl)]at hX
   have jv:Q V X:=ai3 _ _ hs2 hz2
   refine hK' _ _ jv ?_
   clear hK' K'
   try simp only[aax]
   refine wpAnyH_done (by kernel_rfl) ?_ _
   replace iw:=iw.q (ai3 _ _ hge abo)
   have hcX:=aiI.q jv
   have abp:gX X (dN c a2 aa9 ln):=⟨iw.rows,fun a ha=>(by rcases List.mem_append.1 ha with ha|ha;exact hcX.each a ha;rw[List.mem_singleton.1 ha];exact hA2.q jv),haC,hcX.keys,hcX.kC⟩
   exact aj8 X gb9 aa9 ln _ _ _ _ _ _ _ _ _ _ _ _ _ _ _ _ _ _ _ _ _ _ _ _ _ _ _ _ _ _ _ _ _ _ _ _ _ _ _ _ _ _ _ _ _ _ _ _ _ _ _ _ _ _ _ _ _ _ _ _ _ _ _ _ _ _ _ _ _ _ _ _ _ _ _ _ _ _ _ _ _ _ _ _ _ _ _ _ _ _ _ _ _ _ _ _ _ _ _ _ _ _ _ _ _ _ _ _ _ _ _ _ _ _ _ _ _ _ _ _ _ _ _ _ _ _ _ _ _ _ _ _ _ _ _ _ _ _ _ _ _ _ _ _ _ _ _ _ _ _ _ _ _ _ _ _ _ _ _ _ _ _ _ _ _ _ _ _ _ _ _ _ jv hX abp
  ·skip
   refine sG 41 _ rfl (ajV _) ?_
   have hb3:=ah.new V.drew 41 (aF fE)
   have akf:=aO V.drew (aF fE) 41
   have hz3:Q V (V.drew.alloc (.cells (aF fE) 41)):=Q.trans hz0 akf
   have hs3:=(hz0).size
   have hl3:=hb3.lt
   refine hK' _ _ hz3 ?_
   clear hK' K'
   try simp only[aax]
   obtain⟨gb9,abe⟩:∃g,V.drew.heap.size=g:=⟨_,rfl⟩
   have hge:=Nat.le_of_eq abe
   rw[abe]at hb3 hs3 hl3⊢
   clear abe
   obtain⟨z3,hzz⟩:∃z',V.drew.alloc (.cells (aF fE) 41)=z':=⟨_,rfl⟩
   rw[hzz]at hb3 hz3 hl3 akf⊢
   clear hzz
   refine aW 5 fun K' hK'=> ?_
   go_simp
   refine(hLo _ hz3).mono ?_
   rintro e z4 ⟨aa9,ln,rfl,⟨-,-,haC,-,-⟩,iw,hq⟩
   have lG:=Q.trans hz3 hq
   have hsz5:=(hz3).size
   have ay4:=hb3.lt
   have hb4:=hb3.q hq
   refine hK' _ _ lG ?_
   clear hK' K' hq
   try simp only[aax]
   refine aW 7 fun K' hK'=> ?_
   refine oJ hb4 41 (.tmp 17) (.tmp 79) (dN c a2 aa9 ln).cells rfl rfl rfl (by kernel_rfl) (nJ _) (Nat.le_refl 6) ?_
   intro X hX ai3 aaW
   rw[bC _ _ (by rfl)]at hX
   have jv:Q V X:=ai3 _ _ hs3 lG
   refine hK' _ _ jv ?_
   clear hK' K'
   try simp only[aax]
   refine wpAnyH_done (by kernel_rfl) ?_ _
   replace iw:=iw.far (w':=X) fun b hb=>aaW b (by omega)
   have hcX:=aiI.q jv
   have abp:gX X (dN c a2 aa9 ln):=⟨iw.rows,fun a ha=>(by rcases List.mem_append.1 ha with ha|ha;exact hcX.each a ha;rw[List.mem_singleton.1 ha];exact hA2.q jv),haC,hcX.keys,hcX.kC⟩
   exact aj8 X gb9 aa9 ln _ _ _ _ _ _ _ _ _ _ _ _ _ _ _ _ _ _ _ _ _ _ _ _ _ _ _ _ _ _ _ _ _ _ _ _ _ _ _ _ _ _ _ _ _ _ _ _ _ _ _ _ _ _ _ _ _ _ _ _ _ _ _ _ _ _ _ _ _ _ _ _ _ _ _ _ _ _ _ _ _ _ _ _ _ _ _ _ _ _ _ _ _ _ _ _ _ _ _ _ _ _ _ _ _ _ _ _ _ _ _ _ _ _ _ _ _ _ _ _ _ _ _ _ _ _ _ _ _ _ _ _ _ _ _ _ _ _ _ _ _ _ _ _ _ _ _ _ _ _ _ _ _ _ _ _ _ _ _ _ _ _ _ _ _ _ _ _ _ _ _ _ jv hX abp
 have hz0:Q W W.drew:=(Q.refl _).drew
 refine uT (fun z=>Q W z) (by kernel_rfl) ?_
 refine aS 0 (.int .i64 (b:Int)) hz0 ?_
 try simp only[aax]
 refine aS 2 (.slice (some ⟨ba,oa,none⟩) 4 ca) hz0 ?_
 try simp only[aax]
 refine aS 3 (.int .i64 (b:Int)) hz0 ?_
 try simp only[aax]
 refine V7 4 (.pointer (some ⟨ba,oa+b*6,none⟩)) rfl hz0 (fun z hz=>BK 24 41 (.tmp 45) (.tmp 46) ba oa 4 ca b 6 rfl rfl rfl Tryz.underlying24 (by kernel_rfl) Tryz.sizeOf41 hb4) ?_
 try simp only[aax]
 refine V7 5 (.agg (aF c)) rfl hz0 (fun z hz=>oV (fC z hz)) ?_
 try simp only[aax]
 refine aS 6 (.slice FA nF fc) hz0 ?_
 try simp only[aax]
 refine aS 7 (.slice FA nF fc) hz0 ?_
 try simp only[aax]
 refine aS 9 (.int .i64 t) hz0 ?_
 try simp only[aax]
 refine kL 1 14 (fun K' hK'=> ?_) fun K' hK'=> ?_
 ·skip
  go_simp
  refine(gq _ (Q.trans aeI hz0)).mono ?_
  rintro e z1 ⟨rfl,hq⟩
  have hz1:=Q.trans hz0 hq
  have hsz1:=(hz0).size
  refine hK' _ _ hz1 ?_
  clear hK' K' hq
  try simp only[aax]
  refine kL 8 14 (fun K' hK'=> ?_) fun K' hK'=> ?_
  ·skip
   go_simp
   refine(uJ _ hz1).mono ?_
   rintro e z2 ⟨PA,pc,rfl,hp1,hp2,hP,hq⟩
   have hz2:=Q.trans hz1 hq
   have awN:=(hz1).size
   refine hK' _ _ hz2 ?_
   clear hK' K' hq
   try simp only[aax]
   refine kL 10 14 (fun K' hK'=> ?_) fun K' hK'=> ?_
   ·skip
    go_simp
    refine(Gu PA pc _ hz2 (bP.yQ hP.rows)).mono ?_
    rintro e z3 ⟨a2,rfl,hb2,⟨r1,r2⟩,hI2,hq⟩
    have hz3:=Q.trans hz2 hq
    have apn:=(hz2).size
    replace hP:=hP.q hq
    refine hK' _ _ hz3 ?_
    clear hK' K' hq
    try simp only[aax]
    refine aS 11 (.tuple #[.agg (au a2), .int .i64 R.2]) hz3 ?_
    try simp only[aax]
    refine aS 12 (.agg (au a2)) hz3 ?_
    try simp only[aax]
    refine aS 13 (.int .i64 R.2) hz3 ?_
    try simp only[aax]
    refine aW 14 fun K' hK'=> ?_
    refine sG 37 _ rfl (Sz _) ?_
    have hb4:=ah.new z3 37 (au aH)
    have aeX:=aO z3 (au aH) 37
    have lG:Q W (z3.alloc (.cells (au aH) 37)):=Q.trans hz3 aeX
    have hs4:=(hz3).size
    have hl4:=hb4.lt
    refine hK' _ _ lG ?_
    clear hK' K'
    try simp only[aax]
    obtain⟨gb,hgb⟩:∃g,z3.heap.size=g:=⟨_,rfl⟩
    have hge:=Nat.le_of_eq hgb
    rw[hgb]at hb4 hs4 hl4⊢
    clear hgb
    obtain⟨z4,hzz⟩:∃z',z3.alloc (.cells (au aH) 37)=z':=⟨_,rfl⟩
    rw[hzz]at hb4 lG hl4 aeX⊢
    clear hzz
    refine aW 15 fun K' hK'=> ?_
    refine oJ hb4 37 (.tmp 15) (.tmp 54) a2.cells rfl rfl rfl (by kernel_rfl) (dL _) (Nat.le_refl 20) ?_
    intro V hV iD kD
    rw[bC _ _ (by rfl)]at hV
    have aK:Q W V:=iD _ _ hs4 lG
    refine hK' _ _ aK ?_
    clear hK' K'
    try simp only[aax]
    refine aS 16 (.int .i64 R.2) aK ?_
    try simp only[aax]
    refine wpAnyH_done (by kernel_rfl) ?_ _
    replace r1:=r1.q (iD _ _ hge aeX)
    replace r2:=r2.q (iD _ _ hge aeX)
    exact aiH V a2 gb _ _ _ _ _ _ _ _ _ _ _ _ _ _ _ _ _ _ _ _ _ _ _ _ _ _ _ _ _ _ _ _ _ _ _ _ _ _ _ _ _ _ _ _ _ _ _ _ _ _ _ _ _ _ _ _ _ _ _ _ _ _ _ _ _ _ _ _ _ _ _ _ _ _ _ _ _ _ _ _ _ _ _ _ _ _ _ _ _ _ _ _ _ _ _ _ _ _ _ _ _ _ _ _ _ _ _ _ _ _ _ _ _ _ _ _ _ _ _ _ _ _ _ _ _ _ _ _ _ _ _ _ _ _ _ _ _ _ _ _ _ _ _ _ _ _ _ _ _ _ _ _ _ _ _ _ _ _ _ _ _ _ _ _ _ _ _ _ _ _ _ _ _ aK hV hb2 ⟨gB r1.rows,lY r2.rows,hI2.toC,hI2.dF⟩
   ·skip
    refine sG 37 _ rfl (Sz _) ?_
    have hb5:=ah.new z2 37 (au aH)
    have Xa:=aO z2 (au aH) 37
    have sU:Q W (z2.alloc (.cells (au aH) 37)):=Q.trans hz2 Xa
    have hs5:=(hz2).size
    have hl5:=hb5.lt
    replace hP:=hP.q Xa
    refine hK' _ _ sU ?_
    clear hK' K'
    try simp only[aax]
    obtain⟨gb,hgb⟩:∃g,z2.heap.size=g:=⟨_,rfl⟩
    have hge:=Nat.le_of_eq hgb
    rw[hgb]at hb5 hs5 hl5⊢
    clear hgb
    obtain⟨z5,hzz⟩:∃z',z2.alloc (.cells (au aH) 37)=z':=⟨_,rfl⟩
    rw[hzz]at hb5 sU hl5 Xa hP⊢
    clear hzz
    refine aW 10 fun K' hK'=> ?_
    go_simp
    refine(Gu PA pc _ sU (bP.yQ hP.rows)).mono ?_
    rintro e z6 ⟨a2,rfl,hb2,⟨r1,r2⟩,hI2,hq⟩
    have lg:=Q.trans sU hq
    have apn:=(sU).size
    replace hP:=hP.q hq
    have aAM:=hb5.lt
    have hb6:=hb5.q hq
    refine hK' _ _ lg ?_
    clear hK' K' hq
    try simp only[aax]
    refine aS 11 (.tuple #[.agg (au a2), .int .i64 R.2]) lg ?_
    try simp only[aax]
    refine aS 12 (.agg (au a2)) lg ?_
    try simp only[aax]
    refine aS 13 (.int .i64 R.2) lg ?_
    try simp only[aax]
    refine aW 15 fun K' hK'=> ?_
    refine oJ hb6 37 (.tmp 15) (.tmp 54) a2.cells rfl rfl rfl (by kernel_rfl) (dL _) (Nat.le_refl 20) ?_
    intro V hV iD kD
    rw[bC _ _ (by rfl)]at hV
    have aK:Q W V:=iD _ _ hs5 lg
    refine hK' _ _ aK ?_
    clear hK' K'
    try simp only[aax]
    refine aS 16 (.int .i64 R.2) aK ?_
    try simp only[aax]
    refine wpAnyH_done (by kernel_rfl) ?_ _
    replace r1:=r1.far (w':=V) fun b hb=>kD b (by omega)
    replace r2:=r2.far (w':=V) fun b hb=>kD b (by omega)
    exact aiH V a2 gb _ _ _ _ _ _ _ _ _ _ _ _ _ _ _ _ _ _ _ _ _ _ _ _ _ _ _ _ _ _ _ _ _ _ _ _ _ _ _ _ _ _ _ _ _ _ _ _ _ _ _ _ _ _ _ _ _ _ _ _ _ _ _ _ _ _ _ _ _ _ _ _ _ _ _ _ _ _ _ _ _ _ _ _ _ _ _ _ _ _ _ _ _ _ _ _ _ _ _ _ _ _ _ _ _ _ _ _ _ _ _ _ _ _ _ _ _ _ _ _ _ _ _ _ _ _ _ _ _ _ _ _ _ _ _ _ _ _ _ _ _ _ _ _ _ _ _ _ _ _ _ _ _ _ _ _ _ _ _ _ _ _ _ _ _ _ _ _ _ _ _ _ _ aK hV hb2 ⟨gB r1.rows,lY r2.rows,hI2.toC,hI2.dF⟩
  ·skip
   refine sG 37 _ rfl (Sz _) ?_
   have hb7:=ah.new z1 37 (au aH)
   have awP:=aO z1 (au aH) 37
   have tu:Q W (z1.alloc (.cells (au aH) 37)):=Q.trans hz1 awP
   have hs7:=(hz1).size
   have hl7:=hb7.lt
   refine hK' _ _ tu ?_
   clear hK' K'
   try simp only[aax]
   obtain⟨gb,hgb⟩:∃g,z1.heap.size=g:=⟨_,rfl⟩
   have hge:=Nat.le_of_eq hgb
   rw[hgb]at hb7 hs7 hl7⊢
   clear hgb
   obtain⟨z7,hzz⟩:∃z',z1.alloc (.cells (au aH) 37)=z':=⟨_,rfl⟩
   rw[hzz]at hb7 tu hl7 awP⊢
   clear hzz
   refine aW 8 fun K' hK'=> ?_
   go_simp
   refine(uJ _ tu).mono ?_
   rintro e z8 ⟨PA,pc,rfl,hp1,hp2,hP,hq⟩
   have qx:=Q.trans tu hq
   have awN:=(tu).size
   have aAr:=hb7.lt
   have hb8:=hb7.q hq
   refine hK' _ _ qx ?_
   clear hK' K' hq
   try simp only[aax]
   refine aW 10 fun K' hK'=> ?_
   go_simp
   refine(Gu PA pc _ qx (bP.yQ hP.rows)).mono ?_
   rintro e z9 ⟨a2,rfl,hb2,⟨r1,r2⟩,hI2,hq⟩
   have zh:=Q.trans qx hq
   have apn:=(qx).size
   replace hP:=hP.q hq
   have ay6:=hb8.lt
   have iO:=hb8.q hq
   refine hK' _ _ zh ?_
   clear hK' K' hq
   try simp only[aax]
   refine aS 11 (.tuple #[.agg (au a2), .int .i64 R.2]) zh ?_
   try simp only[aax]
   refine aS 12 (.agg (au a2)) zh ?_
   try simp only[aax]
   refine aS 13 (.int .i64 R.2) zh ?_
   try simp only[aax]
   refine aW 15 fun K' hK'=> ?_
   refine oJ iO 37 (.tmp 15) (.tmp 54) a2.cells rfl rfl rfl (by kernel_rfl) (dL _) (Nat.le_refl 20) ?_
   intro V hV iD kD
   rw[bC _ _ (by rfl)]at hV
   have aK:Q W V:=iD _ _ hs7 zh
   refine hK' _ _ aK ?_
   clear hK' K'
   try simp only[aax]
   refine aS 16 (.int .i64 R.2) aK ?_
   try simp only[aax]
   refine wpAnyH_done (by kernel_rfl) ?_ _
   replace r1:=r1.far (w':=V) fun b hb=>kD b (by omega)
   replace r2:=r2.far (w':=V) fun b hb=>kD b (by omega)
   exact aiH V a2 gb _ _ _ _ _ _ _ _ _ _ _ _ _ _ _ _ _ _ _ _ _ _ _ _ _ _ _ _ _ _ _ _ _ _ _ _ _ _ _ _ _ _ _ _ _ _ _ _ _ _ _ _ _ _ _ _ _ _ _ _ _ _ _ _ _ _ _ _ _ _ _ _ _ _ _ _ _ _ _ _ _ _ _ _ _ _ _ _ _ _ _ _ _ _ _ _ _ _ _ _ _ _ _ _ _ _ _ _ _ _ _ _ _ _ _ _ _ _ _ _ _ _ _ _ _ _ _ _ _ _ _ _ _ _ _ _ _ _ _ _ _ _ _ _ _ _ _ _ _ _ _ _ _ _ _ _ _ _ _ _ _ _ _ _ _ _ _ _ _ _ _ _ _ aK hV hb2 ⟨gB r1.rows,lY r2.rows,hI2.toC,hI2.dF⟩
 ·skip
  refine sG 37 _ rfl (Sz _) ?_
  have abf:=ah.new W.drew 37 (au aH)
  have awV:=aO W.drew (au aH) 37
  have Au:Q W (W.drew.alloc (.cells (au aH) 37)):=Q.trans hz0 awV
  have hs10:=(hz0).size
  have aw3:=abf.lt
  refine hK' _ _ Au ?_
  clear hK' K'
  try simp only[aax]
  obtain⟨gb,hgb⟩:∃g,W.drew.heap.size=g:=⟨_,rfl⟩
  have hge:=Nat.le_of_eq hgb
  rw[hgb]at abf hs10 aw3⊢
  clear hgb
  obtain⟨z10,hzz⟩:∃z',W.drew.alloc (.cells (au aH) 37)=z':=⟨_,rfl⟩
  rw[hzz]at abf Au aw3 awV⊢
  clear hzz
  refine aW 1 fun K' hK'=> ?_
  go_simp
  refine(gq _ (Q.trans aeI Au)).mono ?_
  rintro e z11 ⟨rfl,hq⟩
  have zy:=Q.trans Au hq
  have hsz1:=(Au).size
  have aAN:=abf.lt
  have Ld:=abf.q hq
  refine hK' _ _ zy ?_
  clear hK' K' hq
  try simp only[aax]
  refine aW 8 fun K' hK'=> ?_
  go_simp
  refine(uJ _ zy).mono ?_
  rintro e z12 ⟨PA,pc,rfl,hp1,hp2,hP,hq⟩
  have Ja:=Q.trans zy hq
  have awN:=(zy).size
  have ay8:=Ld.lt
  have WU:=Ld.q hq
  refine hK' _ _ Ja ?_
  clear hK' K' hq
  try simp only[aax]
  refine aW 10 fun K' hK'=> ?_
  go_simp
  refine(Gu PA pc _ Ja (bP.yQ hP.rows)).mono ?_
  rintro e z13 ⟨a2,rfl,hb2,⟨r1,r2⟩,hI2,hq⟩
  have EJ:=Q.trans Ja hq
  have apn:=(Ja).size
  replace hP:=hP.q hq
  have ay9:=WU.lt
  have WV:=WU.q hq
  refine hK' _ _ EJ ?_
  clear hK' K' hq
  try simp only[aax]
  refine aS 11 (.tuple #[.agg (au a2), .int .i64 R.2]) EJ ?_
  try simp only[aax]
  refine aS 12 (.agg (au a2)) EJ ?_
  try simp only[aax]
  refine aS 13 (.int .i64 R.2) EJ ?_
  try simp only[aax]
  refine aW 15 fun K' hK'=> ?_
  refine oJ WV 37 (.tmp 15) (.tmp 54) a2.cells rfl rfl rfl (by kernel_rfl) (dL _) (Nat.le_refl 20) ?_
  intro V hV iD kD
  rw[bC _ _ (by rfl)]at hV
  have aK:Q W V:=iD _ _ hs10 EJ
  refine hK' _ _ aK ?_
  clear hK' K'
  try simp only[aax]
  refine aS 16 (.int .i64 R.2) aK ?_
  try simp only[aax]
  refine wpAnyH_done (by kernel_rfl) ?_ _
  replace r1:=r1.far (w':=V) fun b hb=>kD b (by omega)
  replace r2:=r2.far (w':=V) fun b hb=>kD b (by omega)
  exact aiH V a2 gb _ _ _ _ _ _ _ _ _ _ _ _ _ _ _ _ _ _ _ _ _ _ _ _ _ _ _ _ _ _ _ _ _ _ _ _ _ _ _ _ _ _ _ _ _ _ _ _ _ _ _ _ _ _ _ _ _ _ _ _ _ _ _ _ _ _ _ _ _ _ _ _ _ _ _ _ _ _ _ _ _ _ _ _ _ _ _ _ _ _ _ _ _ _ _ _ _ _ _ _ _ _ _ _ _ _ _ _ _ _ _ _ _ _ _ _ _ _ _ _ _ _ _ _ _ _ _ _ _ _ _ _ _ _ _ _ _ _ _ _ _ _ _ _ _ _ _ _ _ _ _ _ _ _ _ _ _ _ _ _ _ _ _ _ _ _ _ _ _ _ _ _ _ aK hV hb2 ⟨gB r1.rows,lY r2.rows,hI2.toC,hI2.dF⟩
end Rel
end Go.Proofs.YtbemmjnjoabadaaGreatDoor
