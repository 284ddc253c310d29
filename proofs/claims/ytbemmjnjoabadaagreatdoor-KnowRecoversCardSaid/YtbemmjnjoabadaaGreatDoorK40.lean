/- part 40 -/
import Derived.Test.YtbemmjnjoabadaaGreatDoorK36
import Derived.Test.YtbemmjnjoabadaaGreatDoorK39
set_option linter.unusedVariables false
set_option linter.unusedSimpArgs false
namespace Go.Proofs.YtbemmjnjoabadaaGreatDoor
namespace Rel
open Go.RowKit aQ Mem _root_.Go.Proofs.YtbemmjnjoabadaaGreatDoor.Code aY Sign _root_.Go.Proofs.YtbemmjnjoabadaaGreatDoor.Item _root_.Go.Proofs.YtbemmjnjoabadaaGreatDoor.Known _root_.Go.Proofs.YtbemmjnjoabadaaGreatDoor.bP
theorem ajd(key n s:ByteArray)(hn:n.size=32)(hs:s.size<=500):Bj (bV.sK key n s).1 (bV.sK key n s).2.1 (bV.sK key n s).2.2=true:=by
 unfold bV.sK Bj tN
 dsimp only
 rw[bV.UN,bV.apV,hn,decide_eq_true hs]
 rfl
theorem aje(p:Int)(seed s:ByteArray)(hp:1<=p/\p<=2305843009213693950)(hs:s.size<=500):oH (je (bV.wZ p seed s))=true:=by
 have he:=bV.YP seed p
 have hg:=bV.UO (bV.BO seed p) (by omega) (by omega)
 have h1:wP p=true:=by unfold wP eU;rw[decide_eq_true hp.1,decide_eq_true hp.2];rfl
 have h2:wP (dW 37 (bV.BO seed p))=true:=hg
 unfold bV.wZ je oH
 dsimp only
 rw[h1,h2,ajd _ _ s (bV.JO _) hs]
 rfl
theorem WI{i:Nat}{c:ay}(hO:Own i c)(hi:i<4)(hn:c.acts.length<=1073741824)(p:ak)(e1:p.author=c.id)(e2:p.seq=c.acts.length)(e3:p.prev=c.prev)(e4:eU p.time 0 1099511627776=true)(e5:p.kind≠0)(e6:sF p=true)(e7:p.e=0)(e8:p.s=0):bT p=true:=by
 rw[VZ]
 have hp:=hO.pos
 refine⟨?_,?_,e4,by rw[e7];rfl,by rw[e8];rfl,e6⟩
 ·rw[e1,hO.id]
  exact VT i hi
 ·unfold yN zX eU
  rw[if_neg (by rw[e2];omega),e2,e3,decide_eq_true hO.prev,decide_eq_true e5,decide_eq_true (by omega:(1:Int)<=(c.acts.length:Int)),decide_eq_true (by omega:(c.acts.length:Int)<=1073741824)]
  rfl
theorem ajf{i:Nat}{c:ay}(hO:Own i c)(p:ak)(e1:p.author=c.id)(e2:p.seq=c.acts.length)(e3:p.prev=c.prev)(e5:p.kind≠0)(h6:p.kind≠6)(h13:p.kind≠13)(h14:p.kind≠14)(hr:bT p=true):ig c p=true:=by
 have hp:=hO.pos
 unfold ig Me
 rw[hr,e1,e2,e3,beq_self_eq_true,beq_self_eq_true,beq_self_eq_true,beq_eq_false_iff_ne.2 e5,beq_eq_false_iff_ne.2 (by omega:((c.acts.length:Int))≠0),beq_eq_false_iff_ne.2 h6,beq_eq_false_iff_ne.2 h13,beq_eq_false_iff_ne.2 h14]
 rfl
def oP(c:ay)(d:ByteArray):ak:=bP.NG (iW c 8 0) d
theorem avS(c:ay)(d:ByteArray)(hd:jO d=true):sF (oP c d)=true:=by
 have h:fG d=false:=by
  have h2:=Uc hd
  unfold fG
  exact decide_eq_false (by omega)
 have hu:wQ (oP c d)=2:=by
  show dQ (dQ (dQ (dQ (dQ (dQ (dQ (dQ (dQ (dQ (dQ 0 1 true) 2 (fG d)) 4 true) 8 true) 16 true) 32 true) 64 true) 128 true) 256 true) 512 true) 1024 true=2
  rw[h]
  decide+kernel
 unfold sF
 rw[hu]
 show(true&&(true&&(decide (bits .andNot .i64 2 2=0)&&jO d)))=true
 rw[hd]
 decide+kernel
theorem ajg{i:Nat}{c:ay}(hO:Own i c)(hi:i<4)(hn:c.acts.length<=1073741824)(d:ByteArray)(hd:jO d=true):bT (oP c d)=true/\ig c (gQ (aG i) (oP c d))=true/\gU (aG i) (oP c d)=gQ (aG i) (oP c d):=by
 have hr:=WI hO hi hn (oP c d) rfl rfl rfl (show eU 0 0 1099511627776=true by decide+kernel) (by show(8:Int)≠0;decide) (avS c d hd) rfl rfl
 have h2:=Ir _ hr
 have h3:=NU (aG i) (oP c d) (vH i) h2
 have hk:(oP c d).kind=8:=rfl
 refine⟨hr,ajf hO (gQ (aG i) (oP c d)) rfl rfl rfl ?_ ?_ ?_ ?_ h3,Iu _ _ (vH i) h2⟩<;>rw[yD,hk]<;>decide
theorem avT(s:ByteArray)(hs:s.size<=500)(ps:List Int)(hp:∀p∈ps,1<=p/\p<=2305843009213693950):(jr s ps ps.length).all oH=true:=by
 rw[List.all_eq_true]
 intro x hx
 obtain⟨j,hj,rfl⟩:=List.mem_map.1 hx
 have hj:=List.mem_range.1 hj
 unfold FT
 refine aje _ _ _ ?_ hs
 rw[List.getD_eq_getElem?_getD,List.getElem?_eq_getElem hj]
 exact hp _ (List.getElem_mem hj)
theorem avU(k:Int×Int)(c:ay)(L:List ByteArray)(ps:List Int)(t:Int)(hl:ps.length=L.length)(h0:0<L.length)(tH:kG L=true)(hp:∀p∈ps,1<=p/\p<=2305843009213693950)(hE:zl c 1 bK=0):sF (wG k c 1 bK L ps t)=true:=by
 unfold wG
 rw[hE]
 have hw:=avT (jY k.1 1 bK 0) (by rw[show(jY k.1 1 bK 0).size=32 from yJ _];decide) ps hp
 have hwl:=J9 (jY k.1 1 bK 0) ps ps.length
 generalize jr (jY k.1 1 bK 0) ps ps.length=W at*
 have h1:decide (L.length=0)=false:=decide_eq_false (by omega)
 have h2:decide (W.length=0)=false:=decide_eq_false (by omega)
 have hu:wQ (iF W none 0 (mD 0 (oL L none 0 (pG bK (Ea 1 (iW c 16 t))))))=276:=by
  show dQ (dQ (dQ (dQ (dQ (dQ (dQ (dQ (dQ (dQ (dQ 0 1 true) 2 true) 4 false) 8 true) 16 (decide (L.length=0))) 32 true) 64 true) 128 true) 256 (decide (W.length=0))) 512 true) 1024 true=276
  rw[h1,h2]
  decide+kernel
 unfold sF
 rw[hu]
 show(true&&(true&&(decide (bits .andNot .i64 276 412=0)&&(Dz 1 bK&&(eU 0 0 1073741824&&(kG L&&(W.all oH&&decide (W.length=L.length))))))))=true
 rw[tH,hw,decide_eq_true (hwl.trans hl)]
 decide+kernel
theorem avV{i:Nat}{c:ay}(hO:Own i c)(hi:i<4)(hn:c.acts.length<=1073741824)(L:List ByteArray)(tH:kG L=true)(h0:0<L.length)(hL:∀d∈L,jL d)(hE:zl c 1 bK=0):bT (wG (aG i) c 1 bK L (dZ L) 0)=true:=by
 have hf:=avU (aG i) c L (dZ L) 0 (VX L hL) h0 tH (VY L hL) hE
 generalize aG i=k at*
 exact WI hO hi hn _ rfl rfl rfl (show eU 0 0 1099511627776=true by decide+kernel) (show(16:Int)≠0 by decide) hf rfl rfl
theorem avW(s:ByteArray)(c d:ay)(a:ak)(t:ByteArray)(E:Int)(hk:a.kind=1)(hs:a.scope=1)(hg:a.group=bK)(ht:a.to=[])(ho:a.object=bK)(hE:E=0)(hz:t.size<=500):sF (setBody (wI s d t) (mD E (yx c a)))=true:=by
 have hb:Bj (wI s d t).1 (wI s d t).2.1 (wI s d t).2.2=true:=ajd s _ t (yJ _) hz
 have hn:fG (wI s d t).1=false:=by
  unfold fG wI bV.sK
  dsimp only
  rw[yJ]
  rfl
 generalize wI s d t=b at*
 subst hE
 unfold yx
 rw[hk,hs,hg,ht,ho]
 have hu:wQ (setBody b (mD 0 (oL [] none 0 (pG bK (Ea 1 (bP.setObj (iW c 1 a.time) bK))))))=68:=by
  show dQ (dQ (dQ (dQ (dQ (dQ (dQ (dQ (dQ (dQ (dQ 0 1 true) 2 true) 4 false) 8 true) 16 true) 32 true) 64 (fG b.1&&(fG b.2.1&&fG b.2.2))) 128 true) 256 true) 512 true) 1024 true=68
  rw[hn,Bool.false_and]
  decide+kernel
 unfold sF
 rw[hu]
 show(true&&(true&&(decide (bits .andNot .i64 68 252=0)&&(kG []&&(true&&(Dz 1 bK&&(eU 0 0 1073741824&&(fG bK&&Bj b.1 b.2.1 b.2.2))))))))=true
 rw[hb]
 decide+kernel
theorem avX(s:ByteArray)(ps:List Int)(L:List (Int×Int))(hp:∀p∈ps,1<=p/\p<=2305843009213693950):(jM s ps L ps.length).all oH=true:=by
 rw[List.all_eq_true]
 intro x hx
 obtain⟨j,hj,rfl⟩:=List.mem_map.1 hx
 have hj:=List.mem_range.1 hj
 unfold RZ
 refine aje _ _ _ ?_ ?_
 ·rw[List.getD_eq_getElem?_getD,List.getElem?_eq_getElem hj]
  exact hp _ (List.getElem_mem hj)
 ·unfold WH
  rw[ByteArray.size_append]
  have h1:=iI (L.getD j (0,0)).1
  have h2:=iI (L.getD j (0,0)).2
  omega
theorem avY(k:Int×Int)(c:ay)(F:List ByteArray)(ps:List Int)(t time:Int)(hl:ps.length=F.length)(tH:kG F=true)(hp:∀p∈ps,1<=p/\p<=2305843009213693950)(hm:wP (keyS k c).2=true)(hok:yI ps.length t=true):sF (tC k c F ps t time)=true:=by
 unfold tC
 have hw:=avX (nN k c) ps (Dn (nN k c) (keyS k c).1 t ps.length) hp
 have hwl:=KZ (nN k c) ps (Dn (nN k c) (keyS k c).1 t ps.length) ps.length
 generalize jM (nN k c) ps (Dn (nN k c) (keyS k c).1 t ps.length) ps.length=W at*
 generalize (keyS k c).2=m at*
 unfold yI at hok
 simp only[Bool.and_eq_true,Bool.not_eq_true',decide_eq_false_iff_not]at hok
 obtain⟨h0,h3,h4⟩:=hok
 have h1:decide (F.length=0)=false:=decide_eq_false (by omega)
 have h2:decide (W.length=0)=false:=decide_eq_false (by omega)
 have h5:decide (t=0)=false:=decide_eq_false (by omega)
 have h6:decide (m=0)=false:=decide_eq_false fun e=>by
  rw[e]at hm
  exact absurd hm (by decide+kernel)
 have hu:wQ (iF W none 0 (DV m (La t (oL F none 0 (iW c 19 time)))))=1808:=by
  show dQ (dQ (dQ (dQ (dQ (dQ (dQ (dQ (dQ (dQ (dQ 0 1 true) 2 true) 4 true) 8 true) 16 (decide (F.length=0))) 32 true) 64 true) 128 true) 256 (decide (W.length=0))) 512 (decide (t=0))) 1024 (decide (m=0))=1808
  rw[h1,h2,h5,h6]
  decide+kernel
 unfold sF
 rw[hu]
 show(true&&(true&&(decide (bits .andNot .i64 1808 1808=0)&&(decide (0<F.length)&&(kG F&&((W.all oH&&decide (W.length=F.length))&&(eU t 1 F.length&&wP m)))))))=true
 have h7:eU t 1 F.length=true:=by
  unfold eU
  rw[decide_eq_true (by omega:(1:Int)<=t),decide_eq_true (by omega:t<=(F.length:Int))]
  rfl
 rw[tH,hw,hm,h7,decide_eq_true (hwl.trans hl),decide_eq_true (by omega:0<F.length)]
 decide+kernel
theorem avZ(k:Int×Int)(c:ay):wP (keyS k c).2=true:=by
 have h:=Oq (lU (Bh (nN k c)))
 rw[<-aac]at h
 unfold keyS Sign.keyOf
 rw[if_neg (by omega)]
 exact bV.UO _ (by omega) (by omega)
theorem av1{i:Nat}{c:ay}(hO:Own i c)(hi:i<4)(hn:c.acts.length<=1073741824)(F:List ByteArray)(t time:Int)(tH:kG F=true)(hF:∀d∈F,jL d)(ht:eU time 0 1099511627776=true)(hok:yI (dZ F).length t=true):
 bT (tC (aG i) c F (dZ F) t time)=true:=by
 have hf:=avY (aG i) c F (dZ F) t time (VX F hF) tH (VY F hF) (avZ _ c) hok
 generalize aG i=k at*
 exact WI hO hi hn _ rfl rfl rfl ht (show(19:Int)≠0 by decide) hf rfl rfl
def helloT:ByteArray:=⟨#[104,101,108,108,111]⟩
def EI(who:Int):iG:=⟨⟨0,8,who,0,bK,0⟩,0,0⟩
def wL:iG:=⟨⟨0,1,0,0,helloT,0⟩,1,0⟩
def pJ:List iG:=[EI 1,wL,EI 2]
theorem ajh(d:ByteArray):jl [d]=[d]:=(X6 (by simp[Asc]) fun x=>Iff.rfl).symm
theorem aji{c:ay}{b x:ak}{d:ByteArray}(h0:c.acts[0]?=some b)(hb:b.kind=0)(h1:c.acts[1]?=some x)(hx:x.kind=8)(hd:x.target=d):gV c 2=⟨[],[d],[],[]⟩:=by
 have e1:gV c 1=⟨[],[],[],[]⟩:=by
  rw[gV,h0]
  show lZ c 0 b (gV c 0)=_
  unfold lZ
  rw[hb]
  rfl
 rw[gV,h1,e1]
 show lZ c 1 x _=_
 unfold lZ
 rw[hx,hd]
 rfl
theorem ajj{c:ay}{b x g:ak}{d:ByteArray}(h0:c.acts[0]?=some b)(hb:b.kind=0)(h1:c.acts[1]?=some x)(hx:x.kind=8)(hd:x.target=d)(h2:c.acts[2]?=some g)(hg:g.kind=16):gV c 3=⟨[],[d],[],[]⟩:=by
 rw[gV,h2,aji h0 hb h1 hx hd]
 show lZ c 2 g _=_
 unfold lZ
 rw[hg]
 rfl
theorem aa4{c:ay}{n:Nat}{d:ByteArray}(hn:n<=c.acts.length)(ht:gV c n=⟨[],[d],[],[]⟩)(hd:(d.toList==c.id.toList)=false):iM c n 1 bK []=[d]:=by
 have h1:yX c n 1 bK []=[d]:=by
  unfold yX
  rw[if_pos (by decide),CU c hn,ht]
  exact ajh d
 have h2:Ah c n d=true:=by
  unfold Ah
  rw[CU c hn,ht,hd]
  rfl
 unfold iM
 rw[h1,List.filter_cons_of_pos h2]
 exact ajh d
theorem aa5(s:Int)(g:ByteArray)(l:List ak):∀n,(∀j a,j<n->l[j]?=some a->a.kind≠16)->gG s g l n=(0,0)
 |0,_=>rfl
 |n+1,h=>by
  rw[gG,aa5 s g l n fun j a hj=>h j a (by omega)]
  cases hn:l[n]? with
  |none=>rfl
  |some a=>
   show Af s g (0,0) n a=(0,0)
   unfold Af Fb
   rw[beq_eq_false_iff_ne.2 (h n a (Nat.lt_succ_self n) hn)]
   rfl
theorem ajk{i:Nat}{c:ay}(hO:Own i c)(hi:i<4)(hn:c.acts.length<=1073741824)(who:Int)(l:List ByteArray):jg i c (EI who) l=(dK c (gQ (aG i) (oP c (dn (who%4).toNat))),none):=by
 have e:mP c (EI who).wish l=oP c (dn (who%4).toNat):=by
  unfold mP mO mM mJ
  rw[show(EI who).wish.do_=8 from rfl,if_neg (show¬pI 8=true by decide),if_neg (show¬(oM 8&&decide (0<l.length))=true by rw[show oM 8=false by decide,Bool.false_and];simp),if_pos (show oN 8=true by decide)]
  rfl
 obtain⟨h1,h2,h3⟩:=ajg hO hi hn (dn (who%4).toNat) (VT _ (by omega))
 unfold jg
 rw[show(EI who).wish.do_=8 from rfl,if_neg (show¬((8:Int)==1)=true by decide),if_neg (show¬((8:Int)==15)=true by decide),e,h3,if_pos h2]
theorem ajl{i:Nat}{c:ay}(hO:Own i c)(hi:i<4)(hn:c.acts.length<=1073741824)(m:Nat)(hm:m<4):Own i (dK c (gQ (aG i) (oP c (dn m)))):=by
 obtain⟨h1,h2,h3⟩:=ajg hO hi hn (dn m) (VT m hm)
 have hk:(gQ (aG i) (oP c (dn m))).kind=8:=yD _ _
 have ht:(gQ (aG i) (oP c (dn m))).target=dn m:=aam _ _
 have hr:=NU (aG i) (oP c (dn m)) (vH i) (Ir _ h1)
 generalize gQ (aG i) (oP c (dn m))=p at*
 exact hO.long p hr (fun _=>⟨m,hm,ht⟩) (fun h=>absurd (hk.symm.trans h) (by decide)) (fun h=>absurd (hk.symm.trans h) (by decide))
theorem av2:(gW wL).kind=1/\(gW wL).scope=1/\(gW wL).group=bK/\(gW wL).to=[]/\(gW wL).object=bK/\(gW wL).time=0:=⟨rfl,rfl,rfl,rfl,rfl,rfl⟩
theorem av3{c:ay}(hO:Own 0 c)(hl:c.acts.length=2){b x:ak}(h0:c.acts[0]?=some b)(hb:b.kind=0)(h1:c.acts[1]?=some x)(hx:x.kind=8)(hd:x.target=dn 1):
 ∃g p,jf (aG 0) c (gW wL) helloT=(dK (dK c g) p,true)/\g.kind=16/\p.kind=1/\p.scope=1/\p.group=bK/\p.to=[]:=by
 obtain⟨a1,a2,a3,a4,a5,a6⟩:=av2
 have hne:((dn 1).toList==c.id.toList)=false:=by
  rw[hO.id,beq_eq_false_iff_ne]
  exact fun e=>absurd (Ri 1 (by omega) 0 (by omega) (rY e)) (by decide)
 have hI:jL (dn 1):=⟨1,by omega,rfl⟩
 have hok:=VT 1 (by omega)
 generalize gW wL=a at*
 generalize dn 1=d at*
 have hgn:∀s g,bZ c c.acts.length s g=(0,false):=fun s g=>by
  unfold bZ
  rw[CU c (Nat.le_refl _),hl,aa5]
  ·rfl
  ·intro j y hj hy e
   rcases(by omega:j=0∨j=1)with rfl|rfl
   ·rw[h0]at hy;injection hy with hy;rw[<-hy,hb]at e;exact absurd e (by decide)
   ·rw[h1]at hy;injection hy with hy;rw[<-hy,hx]at e;exact absurd e (by decide)
 have hm:iM c c.acts.length 1 bK []=[d]:=aa4 (Nat.le_refl _) (by rw[hl];exact aji h0 hb h1 hx hd) hne
 have hE:zl c 1 bK=0:=by unfold zl;rw[hgn];rfl
 have tH:kG [d]=true:=by unfold kG;simp[hok,zW]
 have hr:=avV hO (by omega) (by omega) [d] tH Nat.one_pos (fun y hy=>by rw[List.mem_singleton.1 hy];exact hI) hE
 have hN:Ip c a=true:=by
  unfold Ip pq
  rw[a2,hgn]
  rfl
 have hG:CQ (aG 0) c a=(gQ (aG 0) (wG (aG 0) c 1 bK [d] (dZ [d]) 0),0):=by
  unfold CQ zn
  rw[a2,a3,a4,a6,hm,if_pos hr,Iu _ _ (vH 0) (Ir _ hr)]
 have hK:lS (aG 0) c a=(dK c (gQ (aG 0) (wG (aG 0) c 1 bK [d] (dZ [d]) 0)),true):=by
  unfold lS
  rw[hN,hG]
  rfl
 obtain⟨hO2,hp2,-⟩:=aak hO a (by rw[a4];intro y hy;cases hy) (by rw[hK])
 rw[hK]at hO2 hp2
 dsimp only at hO2 hp2
 have gk:(wG (aG 0) c 1 bK [d] (dZ [d]) 0).kind=16:=rfl
 have gs:(wG (aG 0) c 1 bK [d] (dZ [d]) 0).scope=1:=rfl
 have gg:(wG (aG 0) c 1 bK [d] (dZ [d]) 0).group=bK:=rfl
 have gt:(wG (aG 0) c 1 bK [d] (dZ [d]) 0).to=[d]:=rfl
 have ge:(wG (aG 0) c 1 bK [d] (dZ [d]) 0).epoch=0:=hE
 rw[<-yD (aG 0)]at gk
 rw[<-Wh (aG 0)]at gs
 rw[<-aal (aG 0)]at gg
 rw[<-Rj (aG 0)]at gt
 rw[<-ah4 (aG 0)]at ge
 generalize gQ (aG 0) (wG (aG 0) c 1 bK [d] (dZ [d]) 0)=g at*
 have ajm:=hO.ED g
 have adB:(dK c g).id=c.id:=rfl
 have k0:=(pre_at hp2 (by omega:0<c.acts.length)).trans h0
 have k1:=(pre_at hp2 (by omega:1<c.acts.length)).trans h1
 have k2:(dK c g).acts[2]?=some (aP g):=by
  rw[ajm,List.getElem?_append_right (by omega),hl]
  rfl
 have hl2:(dK c g).acts.length=3:=by
  rw[ajm,List.length_append,hl]
  rfl
 refine⟨g,gQ (aG 0) (jI (aG 0) (dK c g) a helloT),?_,gk,?_,?_,?_,?_⟩
 ·rw[<-adB]at hne
  have hK2:=hK
  generalize dK c g=e at*
  have hg3:bZ e e.acts.length 1 bK=(2,true):=by
   unfold bZ
   rw[CU e (Nat.le_refl _),hl2,gG,k2]
   have h2:gG 1 bK e.acts 2=(0,0):=aa5 _ _ _ _ fun j y hj hy ey=>by
    rcases(by omega:j=0∨j=1)with rfl|rfl
    ·rw[k0]at hy;injection hy with hy;rw[<-hy,hb]at ey;exact absurd ey (by decide)
    ·rw[k1]at hy;injection hy with hy;rw[<-hy,hx]at ey;exact absurd ey (by decide)
   rw[h2]
   have h3:Fb 1 bK 0 (aP g)=true:=by
    show((g.kind==16)&&((g.scope==1)&&((g.group.toList==bK.toList)&&(g.epoch==((0:Nat):Int)))))=true
    rw[gk,gs,gg,ge]
    decide+kernel
   show(((Af 1 bK (0,0) 2 (aP g)).1,decide (0<(Af 1 bK (0,0) 2 (aP g)).2)):Nat×Bool)=_
   unfold Af
   rw[if_pos h3]
   rfl
  have hA:vY e e.acts.length 1 bK=some (aP g):=by
   unfold vY
   rw[hg3]
   exact k2
  have MF:iM e e.acts.length 1 bK []=[d]:=aa4 (Nat.le_refl _) (by rw[hl2];exact ajj k0 hb k1 hx hd k2 gk) hne
  have hF:pq e e.acts.length 1 bK []=false:=by
   unfold pq vZ
   rw[hg3,hA,MF]
   show(!true|| !(decide (g.to=[d])))=false
   rw[gt]
   simp
  have hC:mF (aG 0) e a=(0,true):=by
   have hkk:=hO2.key 2 (by omega)
   unfold mF l9
   rw[a2,a3,a4,hF,hg3,hA,hkk]
   generalize (aG 0).2=q at*
   show(if(false:Bool)=true then((0:Int),false)else if(true&&(q==q))=true then(g.epoch,true)else(0,false))=_
   rw[beq_self_eq_true,ge]
   rfl
  have hs0:¬(a.scope==0)=true:=by rw[a2];decide
  have hP:jI (aG 0) e a helloT=setBody (wI (jY (aG 0).1 a.scope a.group 0) e helloT) (mD 0 (yx e a)):=by
   unfold jI
   have fU:(mF (aG 0) e a).1=0:=by rw[hC]
   rw[if_neg hs0,fU]
  have hf:=avW (jY (aG 0).1 a.scope a.group 0) e e a helloT 0 a1 a2 a3 a4 a5 rfl (by decide)
  have hR:bT (setBody (wI (jY (aG 0).1 a.scope a.group 0) e helloT) (mD 0 (yx e a)))=true/\ig e (setBody (wI (jY (aG 0).1 a.scope a.group 0) e helloT) (mD 0 (yx e a)))=true:=by
   generalize wI (jY (aG 0).1 a.scope a.group 0) e helloT=bx at*
   have kk:(setBody bx (mD 0 (yx e a))).kind=1:=a1
   have h:=WI hO2 (by omega) (by omega) (setBody bx (mD 0 (yx e a))) rfl rfl rfl (by show eU a.time 0 1099511627776=true;rw[a6];decide+kernel) (by rw[kk];decide) hf rfl rfl
   exact⟨h,ajf hO2 _ rfl rfl rfl (by rw[kk];decide) (by rw[kk];decide) (by rw[kk];decide) (by rw[kk];decide) h⟩
  unfold jf jK
  rw[hK2]
  dsimp only
  rw[hC,hP,hR.1,hR.2,Iu _ _ (vH 0) (Ir _ hR.1)]
  simp
 ·rw[yD,ah6];exact a1
 ·rw[Wh,ah7];exact a2
 ·rw[aal,ah8];exact a3
 ·rw[Rj,ah9];exact a4
theorem aa6{s:F9}{x:iG}{i:Nat}{c d:ay}{o:Option jH}(hb:vF x=i)(hc:s.cs.getD i fE=c)(hd:jg i c x s.earlier=(d,o)):CS s x=⟨s.cs.set i d,s.earlier++(d.acts.drop c.acts.length).map bY,s.texts++o.toList⟩:=by
 unfold CS
 rw[hb,hc,hd]
theorem av4:yj 4=[jD 0,jD 1,jD 2,jD 3]:=by
 unfold yj
 rw[show List.range 4=[0,1,2,3]from rfl]
 rfl
theorem ajn(i:Nat):(jD i).acts=[aP (uG i)]:=by unfold jD;exact Eq.refl _
theorem ajo(i:Nat)(hi:i<4):(uG i).kind=0:=by
 have hs:uG i=gQ (aG i) (qj i):=Iu (aG i) (qj i) (vH i) (aif i hi)
 rw[hs,yD]
 exact(aan i).1
theorem ajp(a:ak)(h:a.kind=0):(aP a).kind=0:=h
theorem av5{c d:ay}(l:List ByteArray)(h:jf (aG 0) c (gW wL) helloT=(d,true)):jg 0 c wL l=(d,some ⟨0,(d.acts.length:Int)-1,helloT⟩):=by
 unfold jg
 rw[show wL.wish.do_=1 from rfl,show wL.wish.text=helloT from rfl,if_pos (show((1:Int)==1)=true by decide),h]
 rfl
structure WJ(C:ay):Prop where
 cs:(vG pJ).cs=[C,jD 1,jD 2,jD 3]
 texts:(vG pJ).texts=[⟨0,3,helloT⟩]
 own:Own 0 C
 len:C.acts.length=5
 no:∀j a,j≠3->C.acts[j]?=some a->nT a.kind=false
 post:∃p,C.acts[3]?=some p/\p.kind=1/\p.scope=1/\p.group=bK/\p.to=[]
 mem:iM C 3 1 bK []=[dn 1]
theorem av6:∃C,WJ C:=by
 have Si:=aii 0 (by omega)
 have ha0:=ajn 0
 have hb0:(aP (uG 0)).kind=0:=ajp _ (ajo 0 (by omega))
 have hs0:(⟨yj 4,[],[]⟩:F9)=⟨[jD 0,jD 1,jD 2,jD 3],[],[]⟩:=by rw[av4]
 have ayW:(jD 0).id=dn 0:=Si.id
 generalize jD 0=c0 at*
 generalize aP (uG 0)=b at*
 have hl0:c0.acts.length=1:=by rw[ha0];rfl
 have hd1:=ajk Si (by omega) (by omega) 1 []
 have NV:=ajl Si (by omega) (by omega) 1 (by omega)
 rw[show((1:Int)%4).toNat=1 from rfl]at hd1
 have hx1:(gQ (aG 0) (oP c0 (dn 1))).kind=8:=yD _ _
 have ht1:(gQ (aG 0) (oP c0 (dn 1))).target=dn 1:=aam _ _
 generalize gQ (aG 0) (oP c0 (dn 1))=x1 at*
 have ha1:=Si.ED x1
 rw[ha0]at ha1
 obtain⟨c1,hc1⟩:∃c1,dK c0 x1=c1:=⟨_,rfl⟩
 rw[hc1]at hd1 NV ha1
 have hl1:c1.acts.length=2:=by rw[ha1];rfl
 obtain⟨g,p,hp,hg,hp1,hp2,hp3,yw⟩:=av3 NV hl1 (by rw[ha1];rfl) hb0 (show c1.acts[1]?=some (aP x1) by rw[ha1];rfl) hx1 ht1
 obtain⟨hO3,hpre,-,-,hT⟩:=aib NV wL helloT (by rw[hp])
 rw[hp]at hO3 hpre hT
 dsimp only at hO3 hpre hT
 have hd2:=av5 ([]++(c1.acts.drop c0.acts.length).map bY) hp
 have kV:(dK (dK c1 g) p).acts=[b,aP x1,aP g,aP p]:=by
  show((c1.acts.map aP++[aP g]).map aP++[aP p])=_
  rw[NV.acts,ha1]
  have hb2:aP b=b:=by
   have h:=Si.acts
   rw[ha0]at h
   injection h
  show[aP b,aP (aP x1),aP (aP g),aP p]=_
  rw[hb2]
  rfl
 obtain⟨c3,hc3⟩:∃c3,dK (dK c1 g) p=c3:=⟨_,rfl⟩
 rw[hc3]at hp hd2 hO3 hpre hT kV
 have hl3:c3.acts.length=4:=by rw[kV];rfl
 have MF:iM c3 ((3:Nat):Int) 1 bK []=[dn 1]:=aa4 (n:=3) (by omega) (ajj (by rw[kV];rfl) hb0 (show c3.acts[1]?=some (aP x1) by rw[kV];rfl) hx1 ht1 (show c3.acts[2]?=some (aP g) by rw[kV];rfl) hg) (by
  rw[hO3.id,beq_eq_false_iff_ne]
  exact fun e=>absurd (Ri 1 (by omega) 0 (by omega) (rY e)) (by decide))
 have hd4:=ajk hO3 (by omega) (by omega) 2 (([]++(c1.acts.drop c0.acts.length).map bY)++(c3.acts.drop c1.acts.length).map bY)
 have hO4:=ajl hO3 (by omega) (by omega) 2 (by omega)
 rw[show((2:Int)%4).toNat=2 from rfl]at hd4
 have hx4:(gQ (aG 0) (oP c3 (dn 2))).kind=8:=yD _ _
 generalize gQ (aG 0) (oP c3 (dn 2))=x4 at*
 have qo:=hO3.ED x4
 have ajq:(dK c3 x4).id=c3.id:=rfl
 have ajr:=hO3.pre x4
 rw[kV]at qo
 obtain⟨c4,hc4⟩:∃c4,dK c3 x4=c4:=⟨_,rfl⟩
 rw[hc4]at hd4 hO4 qo ajq ajr
 have e:vG pJ=⟨[c4,jD 1,jD 2,jD 3],(([]++(c1.acts.drop c0.acts.length).map bY)++(c3.acts.drop c1.acts.length).map bY)++(c4.acts.drop c3.acts.length).map bY,[⟨0,3,helloT⟩]⟩:=by
  have e1:qm pJ 1=⟨[c1,jD 1,jD 2,jD 3],[]++(c1.acts.drop c0.acts.length).map bY,[]⟩:=by
   show CS ⟨yj 4,[],[]⟩ (EI 1)=_
   rw[hs0]
   exact aa6 (i:=0) (c:=c0) (d:=c1) (o:=none) rfl rfl hd1
  have e2:qm pJ 2=⟨[c3,jD 1,jD 2,jD 3],([]++(c1.acts.drop c0.acts.length).map bY)++(c3.acts.drop c1.acts.length).map bY,[⟨0,3,helloT⟩]⟩:=by
   show CS (qm pJ 1) wL=_
   rw[e1]
   rw[hl3]at hd2
   exact aa6 (i:=0) (c:=c1) (d:=c3) (o:=some ⟨0,3,helloT⟩) rfl rfl hd2
  show CS (qm pJ 2) (EI 2)=_
  rw[e2]
  exact aa6 (i:=0) (c:=c3) (d:=c4) (o:=none) rfl rfl hd4
 refine⟨c4,?_,?_,hO4,?_,?_,?_,?_⟩
 ·rw[e]
 ·rw[e]
 ·rw[qo];rfl
 ·intro j a hj ha
  rw[qo]at ha
  rcases j with _|_|_|_|_|j
  ·injection ha with ha;rw[<-ha,hb0];rfl
  ·injection ha with ha;rw[<-ha,show(aP x1).kind=x1.kind from rfl,hx1];rfl
  ·injection ha with ha;rw[<-ha,show(aP g).kind=g.kind from rfl,hg];rfl
  ·exact absurd rfl hj
  ·injection ha with ha;rw[<-ha,show(aP x4).kind=x4.kind from rfl,hx4];rfl
  ·cases ha
 ·exact⟨aP p,by rw[qo];rfl,hp1,hp2,hp3,yw⟩
 ·have h5:=ZR ajr ajq (n:=3) (by omega) 1 bK []
  exact h5.trans MF
def Sj(mask:Int):List Nat:=[2,3,0,1].filter fun k=> !FX mask k
theorem ajs(mask:Int):lK mask=(Sj mask).map dn/\kG (lK mask)=true:=by
 unfold lK Sj
 simp only[sW,List.filter_cons,List.filter_nil]
 generalize FX mask 0=b0
 generalize FX mask 1=b1
 generalize FX mask 2=b2
 generalize FX mask 3=b3
 cases b0<;>cases b1<;>cases b2<;>cases b3<;>simp only[Bool.not_true,Bool.not_false,if_true,Bool.false_eq_true,if_false,List.map_cons,List.map_nil,VL,id_1,VP,VR]<;>decide+kernel
theorem av7(mask:Int):∀k∈Sj mask,k<4:=by
 intro k hk
 have h:=(List.mem_filter.1 hk).1
 simp at h
 omega
theorem av8(ks:List Nat)(h:∀k∈ks,k<4):dZ (ks.map dn)=ks.map fun k=>(aG k).2:=by
 induction ks with
 |nil=>rfl
 |cons k ks ih=>
  show Aq (dn k) 4++dZ (ks.map dn)=_
  rw[ih fun x hx=>h x (List.mem_cons_of_mem _ hx),ahX k (h k (List.mem_cons_self ..))]
  rfl
theorem av9(mask:Int):dZ (lK mask)=(Sj mask).map fun k=>(aG k).2:=by rw[(ajs mask).1,av8 _ (av7 mask)]
theorem awc(s:ByteArray)(ps:List Int)(L:List (Int×Int))(i:Nat):(RZ s ps L i).to=ps.getD i 0:=rfl
theorem awd(s:ByteArray)(ps:List Int)(L:List (Int×Int)):((jM s ps L ps.length).map fun x=>x.to)=ps:=by
 unfold jM
 rw[List.map_map]
 refine List.ext_getElem (by simp) fun i h1 h2=> ?_
 rw[List.getElem_map,List.getElem_range,Function.comp_apply,awc,List.getD_eq_getElem?_getD,List.getElem?_eq_getElem h2]
 rfl
theorem awe(qs ps:List Int)(a:ak)(h:(a.wraps.map fun x=>x.to)=ps):LY qs a=ps.countP (iR qs):=by
 unfold LY
 rw[<-h,List.countP_map]
 rfl
theorem awf(k:Int×Int)(c:ay)(F:List ByteArray)(ps:List Int)(t time:Int):(tC k c F ps t time).wraps=jM (nN k c) ps (Dn (nN k c) (keyS k c).1 t ps.length) ps.length:=rfl
theorem awg(k:Int×Int)(c:ay)(F:List ByteArray)(ps:List Int)(t time:Int):(tC k c F ps t time).kind=19/\(tC k c F ps t time).n=t/\(tC k c F ps t time).m=(keyS k c).2/\(tC k c F ps t time).to=F:=⟨rfl,rfl,rfl,rfl⟩
structure ajt(i:Nat)(c:ay)(F:List ByteArray)(t:Int)(s:ak):Prop where
 kind:s.kind=19
 n:s.n=t
 m:s.m=(keyS (aG i) c).2
 to:s.to=F
 wraps:s.wraps=jM (nN (aG i) c) (dZ F) (Dn (nN (aG i) c) (keyS (aG i) c).1 t (dZ F).length) (dZ F).length
 right:bT s=true
theorem awh{i:Nat}{c:ay}(hO:Own i c)(hi:i<4)(hn:c.acts.length<=1073741824)(F:List ByteArray)(t time:Int)(tH:kG F=true)(hF:∀d∈F,jL d)(ht:eU time 0 1099511627776=true)(hok:yI (dZ F).length t=true):
 ∃s,AY (aG i) c F (dZ F) t time=(s,0)/\ajt i c F t s:=by
 have hr:=av1 hO hi hn F t time tH hF ht hok
 refine⟨gQ (aG i) (tC (aG i) c F (dZ F) t time),?_,?_⟩
 ·unfold AY
  rw[if_pos hok,if_pos hr,Iu _ _ (vH i) (Ir _ hr)]
 ·have h2:=NU (aG i) (tC (aG i) c F (dZ F) t time) (vH i) (Ir _ hr)
  obtain⟨e1,e2,e3,e4⟩:=awg (aG i) c F (dZ F) t time
  have e5:=awf (aG i) c F (dZ F) t time
  generalize tC (aG i) c F (dZ F) t time=a at*
  exact⟨by rw[yD];exact e1,by rw[ah5];exact e2,by rw[atF];exact e3,by rw[Rj];exact e4,by rw[atE];exact e5,h2⟩
theorem awi(qs:List Int){i:Nat}{c:ay}{F:List ByteArray}{t:Int}{s:ak}(h:ajt i c F t s)(d:ay)(j:Nat)(hd:d.acts[j]?=some (aP s)):ug qs d (j:Int)=decide (t<=((dZ F).countP (iR qs):Int)):=by
 unfold ug
 rw[Wi,hd]
 have hc:LY qs (aP s)=(dZ F).countP (iR qs):=awe qs (dZ F) (aP s) (by
  show(s.wraps.map fun x=>x.to)=dZ F
  rw[h.wraps]
  exact awd _ _ _)
 show((s.kind==19)&&decide (s.n<=(LY qs (aP s):Int)))=_
 rw[h.kind,h.n,hc]
 rfl
theorem awt{C:ay}(h:WJ C):AQ 0 C 3 helloT:=by
 obtain⟨i,hi,hb,c,hc,m,hm,hT⟩:=(aij pJ).txt ⟨0,3,helloT⟩ (by rw[h.texts];exact List.mem_singleton.2 rfl)
 obtain rfl:i=0:=by
  have hb:(0:Int)=(i:Int):=hb
  omega
 obtain rfl:m=3:=by
  have hm:(3:Int)=(m:Int):=hm
  omega
 rw[h.cs]at hc
 injection hc with hc
 rw[hc]
 exact hT
theorem awu(r:Nat)(hr:r<4):Fa 0 [dn 1] 1 r=(decide (r=0)||decide (r=1)):=by
 unfold Fa
 have h:hasB (dn r) [dn 1]=decide (r=1):=by
  rw[Bool.eq_iff_iff,aap,List.mem_singleton,decide_eq_true_eq]
  exact⟨fun e=>Ri r hr 1 (by omega) e,fun e=>by rw[e]⟩
 rw[h]
 rfl
theorem ajz{C:ay}(h:WJ C)(r:Nat)(hr:r<4):(xB C ⟨0,3,helloT⟩ r).1=(decide (r=0)||decide (r=1))/\(xB C ⟨0,3,helloT⟩ r).2.1=(decide (r=0)||decide (r=1))/\(r=1->(xB C ⟨0,3,helloT⟩ r).2.2=true)/\jA [] C 3=false:=by
 obtain⟨a,h1,h2,h3,h4⟩:=aug h.own (by omega) ⟨0,3,helloT⟩ 3 rfl (awt h) r hr
 obtain⟨p,p1,p2,p3,p4,p5⟩:=h.post
 obtain rfl:a=p:=by rw[h1]at p1;injection p1
 have hm:=h.mem
 rw[p3,p4,p5]at h2 h3
 rw[show iM C ((3:Nat):Int) 1 bK []=[dn 1]from hm,awu r hr]at h2 h3
 rw[p3]at h4
 rw[h2]
 refine⟨rfl,rfl,fun e=>h3 ?_,h4⟩
 rw[e]
 rfl
theorem ajA(ps:List Int){c:ay}{j:Nat}{a:ak}(h:c.acts[j]?=some a)(hk:nT a.kind=false):jA ps c (j:Int)=false:=by
 unfold jA
 rw[Wi,h]
 show Bz ps c j a=false
 unfold Bz
 rw[hk]
 rfl
theorem aa7(ps:List Int)(i:Nat)(hi:i<4):xI ps (jD i) (jD i).acts.length=[]:=by
 have ha:=ajn i
 have hk:(aP (uG i)).kind=0:=ajp _ (ajo i hi)
 generalize aP (uG i)=b at*
 generalize jD i=c at*
 have h0:=ajA ps (c:=c) (j:=0) (a:=b) (by rw[ha];rfl) (by rw[hk];rfl)
 unfold xI
 rw[ha]
 show(List.filter _ [0]).map _=_
 rw[List.filter_cons_of_neg (by rw[h0];simp)]
 rfl
theorem awv{C:ay}(h:WJ C):xJ (iZ [(aG 1).1]) (vG pJ).cs=[⟨C.id,3⟩]:=by
 have h3:jA (iZ [(aG 1).1]) C ((3:Nat):Int)=true:=(ajz h 1 (by omega)).1
 generalize iZ [(aG 1).1]=ps at*
 have hno:∀j:Nat,j≠3->j<5->jA ps C (j:Int)=false:=fun j hj hl=>by
  have hl:j<C.acts.length:=by rw[h.len];exact hl
  exact ajA ps (List.getElem?_eq_getElem hl) (h.no j _ hj (List.getElem?_eq_getElem hl))
 unfold xJ
 rw[h.cs,List.flatMap_cons,List.flatMap_cons,List.flatMap_cons,List.flatMap_cons,List.flatMap_nil,aa7 ps 1 (by omega),aa7 ps 2 (by omega),aa7 ps 3 (by omega),h.len]
 unfold xI
 rw[show List.range 5=[0,1,2,3,4]from rfl,List.filter_cons_of_neg (by rw[hno 0 (by omega) (by omega)];simp),List.filter_cons_of_neg (by rw[hno 1 (by omega) (by omega)];simp),List.filter_cons_of_neg (by rw[hno 2 (by omega) (by omega)];simp),List.filter_cons_of_pos (by rw[h3]),List.filter_cons_of_neg (by rw[hno 4 (by omega) (by omega)];simp)]
 rfl
theorem aww:Sj 14=[2,3,1]:=by decide+kernel
theorem awx:((dZ (lK 14)).countP (iR (iZ [(aG 1).1]))=1)/\((dZ (lK 14)).countP (iR (iZ [(aG 1).1,(aG 3).1]))=2)/\(dZ (lK 14)).length=3:=by
 have h2:iZ [(aG 1).1,(aG 3).1]=[(aG 1).2,(aG 3).2]:=by
  unfold iZ
  rw[List.filter_cons_of_pos (aad 1),List.filter_cons_of_pos (aad 3)]
  simp[Rh]
 rw[av9,aww,ahV,h2]
 simp only[List.map_cons,List.map_nil,VN,VO,VQ]
 decide+kernel
end Rel
end Go.Proofs.YtbemmjnjoabadaaGreatDoor
