/- part 33 -/
import Derived.Test.YtbemmjnjoabadaaGreatDoorK32
import Derived.Test.YtbemmjnjoabadaaGreatDoorK27
import Derived.Test.YtbemmjnjoabadaaGreatDoorK28
import Derived.Test.YtbemmjnjoabadaaGreatDoorK29
import Derived.Test.YtbemmjnjoabadaaGreatDoorK30
set_option linter.unusedVariables false
set_option linter.unusedSimpArgs false
set_option maxHeartbeats 8000000
set_option maxRecDepth 100000
namespace Go.Proofs.YtbemmjnjoabadaaGreatDoor
namespace bP
open Go.RowKit aQ Mem _root_.Go.Proofs.YtbemmjnjoabadaaGreatDoor.Code aY Sign _root_.Go.Proofs.YtbemmjnjoabadaaGreatDoor.Item _root_.Go.Proofs.YtbemmjnjoabadaaGreatDoor.Known
structure jH where
 mG:Int
 at_:Int
 text:ByteArray
def jH.cells(x:jH):List Value:=[.int .i64 x.mG, .int .i64 x.at_, .string x.text]
def af9(x:jH):Array Value:=x.cells.toArray
def xB(c:ay)(x:jH)(r:Nat):Bool×Bool×Bool:=(jA (iZ [(aG r).1]) c x.at_,(oO c [(aG r).1] x.at_).isSome,((oO c [(aG r).1] x.at_).getD bK).toList==x.text.toList)
theorem arZ{fn:Func}{t u v:Tmp}(h:fn.results= #[.tmp t, .tmp u, .tmp v])(tmps:Array Value)(P:Program)(w:World):(results fn tmps).run P w= .ok (.tuple #[tmps.getD t undef,tmps.getD u undef,tmps.getD v undef]) w:=by
 simp[results,h]
theorem ar0{ρ:Operand->Value}{o:Oper}{w:World}(t yt:TypeId)(x y:Operand)(a b:ByteArray)(ho:o.op= .binOp .eql t x y yt)(hx:ρ x= .string a)(hy:ρ y= .string b):(execOp ρ o).run Tryz.prog w= .ok (.value (.bool (a.toList==b.toList))) w:=by
 unfold execOp
 simp only[ho,hx,hy]
 go_simp
theorem ar1(A:Option Addr)(lc:Nat)(cs:List ay)(x:jH)(n r:Nat)(w:World)(hT:Tab w)(hC:JL w A cs)(hn:x.mG=(n:Int))(hl:n<cs.length)(hlm:cs.length<=1000)(hr:r<256)(hz:Zl cs[n] [(aG r).1])(LZ:I64 (aG r).1):
 Calls Tryz.prog 12 #[.slice A cs.length lc, .agg (af9 x), .int .i64 r] w fun e w'=>e= .returned (.tuple #[.bool (xB cs[n] x r).1, .bool (xB cs[n] x r).2.1, .bool (xB cs[n] x r).2.2])/\Q w w':=by
 have hmx:maxLen=9223372036854775807:=by decide
 obtain⟨w1,y1,hy1,hq1,hbk⟩:=boxedB w 29 x.cells
 have hy1:w.alloc (.cells (af9 x) 29)=y1.w:=hy1
 have d0:∀y:Wd w1,y.w.cell? ⟨w.heap.size,0,none⟩=some (.int .i64 (n:Int)):=fun y=>hn▸(y.blk hbk).cell 0
 have d1:=aB (.int .i64 x.at_) hbk 1
 have d2:=aB (.string x.text) hbk 2
 have Vp:=fun y:Wd w1=>hC.q (Q.trans hq1 y.q)
 have hTy:=fun y:Wd w1=>hT.q (Q.trans hq1 y.q)
 have gq:=fun y:Wd w1=>Ib r y.w (hTy y) hr
 have hfl:=fun w=>NC 0 (aG r).1 (aG r).1 (aG r).2 w (.inl ⟨rfl,rfl⟩)
 have HR:=Lib.hid (show xB cs[n] x r=(jA (iZ [(aG r).1]) cs[n] x.at_,(oO cs[n] [(aG r).1] x.at_).isSome,((oO cs[n] [(aG r).1] x.at_).getD bK).toList==x.text.toList)from rfl)
 have HQ:=Lib.hid hq1
 unfold bH at gq
 generalize xB cs[n] x r=R at*
 generalize aG r=kk at*
 obtain⟨c,hc⟩:∃c,cs[n]=c:=⟨_,rfl⟩
 rw[hc]at hz HR
 have hcm:c∈cs:=hc▸List.getElem_mem hl
 obtain⟨b,o,eA,hb0,hcs⟩:=(Vp y1).rows (by omega)
 have dh:∀y:Wd w1,(Instr.loadAt 41 (.pointer (some ⟨b,o+n*6,none⟩))).run Tryz.prog y.w= .ok (.agg (aF c)) y.w:=fun y=>by
  obtain⟨b2,o2,G9,hb2,hcs2⟩:=(Vp y).rows (by omega)
  rw[eA]at G9
  injection G9 with h1
  injection h1 with h1 h2
  subst h1 h2
  have h3:=hcs2 n hl
  rw[hc]at h3
  exact Wd.load (P:=Tryz.prog) (ty:=41) hb2 h3 Tryz.underlying41 rfl (by kernel_rfl) ⟨y.w,Q.refl _⟩
 have MH:=fun y:Wd w1=>(Vp y).each c hcm
 obtain⟨nl,hnl⟩:∃nl,cs.length=nl:=⟨_,rfl⟩
 rw[hnl]at hl hlm
 rw[hnl,eA]
 clear hbk hq1 hT hC hcs Vp hcm hc eA
 go_enter Tryz.func12,Tryz.ntmps12
 go_upto_region 2 with(first|(go_at_call 23;refine(gq _).mono ?_;rintro e w' ⟨rfl,hq⟩;obtain⟨v1,rfl⟩:=Wd.next _ hq;clear hq))
 have hX:Ints (v1.w.alloc (.cells #[.int .i64 kk.1] 3)) (some ⟨v1.w.heap.size,0,none⟩) [kk.1]:=yQ (dS.one v1.w 3 kk.1 _ rfl)
 have jv:Q w1 (v1.w.alloc (.cells #[.int .i64 kk.1] 3)):=Q.trans v1.q (aO _ _ _)
 generalize v1.w.heap.size=gs at*
 generalize v1.w.alloc (.cells #[.int .i64 kk.1] 3)=W at*
 have Ky:∀y:World,Q W y->Calls Tryz.prog 15 #[.slice (some ⟨gs,0,none⟩) 1 1, .agg (aF c), .int .i64 x.at_] y (Ku (oO c [kk.1] x.at_) y):=fun y hy=>UR (some ⟨gs,0,none⟩) 1 [kk.1] c x.at_ y (hTy ⟨y,Q.trans jv hy⟩) (MH ⟨y,Q.trans jv hy⟩) (hX.q hy) (by simpa using LZ) (show 1<=maxLen by decide) hz
 have iw:∀y:World,Q W y->Calls Tryz.prog 13 #[.agg (aF c), .slice (some ⟨gs,0,none⟩) 1 1, .int .i64 x.at_] y fun e w'=>e= .returned (.bool (jA (iZ [kk.1]) c x.at_))/\Q y w':=fun y hy=>aei c (some ⟨gs,0,none⟩) 1 [kk.1] x.at_ y (MH ⟨y,Q.trans jv hy⟩) (hX.q hy) (by simpa using LZ) (show 1<=maxLen by decide)
 unfold Ku at Ky
 generalize jA (iZ [kk.1]) c x.at_=rr at*
 generalize oO c [kk.1] x.at_=oo at*
 have f0:∀z,Q W z->z.cell? ⟨w.heap.size,0,none⟩=some (.int .i64 (n:Int)):=fun z hz=>d0 ⟨z,Q.trans jv hz⟩
 have f1:∀z,Q W z->z.cell? ⟨w.heap.size,1,none⟩=some (.int .i64 x.at_):=fun z hz=>d1 ⟨z,Q.trans jv hz⟩
 have f2:∀z,Q W z->z.cell? ⟨w.heap.size,2,none⟩=some (.string x.text):=fun z hz=>d2 ⟨z,Q.trans jv hz⟩
 have fL:∀z,Q W z->(Instr.loadAt 41 (.pointer (some ⟨b,o+n*6,none⟩))).run Tryz.prog z= .ok (.agg (aF c)) z:=fun z hz=>dh ⟨z,Q.trans jv hz⟩
 clear d0 d1 d2 dh MH hTy gq hz hX
 refine uT (fun z=>Q W z) (by kernel_rfl) ?_
 have hz0:Q W W.drew:=(Q.refl _).drew
 refine aS 0 (.slice (some ⟨gs,0,none⟩) 1 1) hz0 ?_
 try simp only[aax]
 refine aS 1 (.slice (some ⟨b,o,none⟩) nl lc) hz0 ?_
 try simp only[aax]
 refine aS 2 (.pointer (some ⟨w.heap.size,0,none⟩)) hz0 ?_
 try simp only[aax]
 refine V7 3 (.int .i64 (n:Int)) rfl hz0 (fun z hz=>oK Tryz.underlying3 (f0 z hz)) ?_
 try simp only[aax]
 refine V7 4 (.pointer (some ⟨b,o+n*6,none⟩)) rfl hz0 (fun z hz=>BK 24 41 (.tmp 18) (.tmp 20) b o nl lc n 6 rfl rfl rfl Tryz.underlying24 (by kernel_rfl) Tryz.sizeOf41 hl) ?_
 try simp only[aax]
 refine V7 5 (.agg (aF c)) rfl hz0 (fun z hz=>oV (fL z hz)) ?_
 try simp only[aax]
 refine aS 6 (.pointer (some ⟨w.heap.size,1,none⟩)) hz0 ?_
 try simp only[aax]
 refine V7 7 (.int .i64 x.at_) rfl hz0 (fun z hz=>oK Tryz.underlying3 (f1 z hz)) ?_
 try simp only[aax]
 refine aW 8 fun K' hK'=> ?_
 go_simp
 refine(Ky _ hz0).mono ?_
 rintro e z1 ⟨rfl,hq1⟩
 have hz1:=Q.trans hz0 hq1
 refine hK' _ _ hz1 ?_
 clear hK' K'
 try simp only[aax]
 refine aS 9 (.tuple #[.string (oo.getD bK), .bool oo.isSome]) hz1 ?_
 try simp only[aax]
 refine aS 10 (.string (oo.getD bK)) hz1 ?_
 try simp only[aax]
 refine aS 11 (.bool oo.isSome) hz1 ?_
 try simp only[aax]
 refine aS 12 (.string (oo.getD bK)) hz1 ?_
 try simp only[aax]
 refine aS 13 (.bool oo.isSome) hz1 ?_
 try simp only[aax]
 refine wpAnyH_done (by kernel_rfl) ?_ _
 go_upto_region 3 with(fail)
 refine uT (fun z=>Q W z) (by kernel_rfl) ?_
 have hz2:Q W z1.drew:=hz1.drew
 refine aS 0 (.slice (some ⟨b,o,none⟩) nl lc) hz2 ?_
 try simp only[aax]
 refine aS 1 (.pointer (some ⟨w.heap.size,0,none⟩)) hz2 ?_
 try simp only[aax]
 refine V7 2 (.int .i64 (n:Int)) rfl hz2 (fun z hz=>oK Tryz.underlying3 (f0 z hz)) ?_
 try simp only[aax]
 refine V7 3 (.pointer (some ⟨b,o+n*6,none⟩)) rfl hz2 (fun z hz=>BK 24 41 (.tmp 28) (.tmp 30) b o nl lc n 6 rfl rfl rfl Tryz.underlying24 (by kernel_rfl) Tryz.sizeOf41 hl) ?_
 try simp only[aax]
 refine V7 4 (.agg (aF c)) rfl hz2 (fun z hz=>oV (fL z hz)) ?_
 try simp only[aax]
 refine aS 5 (.slice (some ⟨gs,0,none⟩) 1 1) hz2 ?_
 try simp only[aax]
 refine aS 6 (.pointer (some ⟨w.heap.size,1,none⟩)) hz2 ?_
 try simp only[aax]
 refine V7 7 (.int .i64 x.at_) rfl hz2 (fun z hz=>oK Tryz.underlying3 (f1 z hz)) ?_
 try simp only[aax]
 refine aS 9 (.bool oo.isSome) hz2 ?_
 try simp only[aax]
 refine aS 10 (.string (oo.getD bK)) hz2 ?_
 try simp only[aax]
 refine aS 11 (.pointer (some ⟨w.heap.size,2,none⟩)) hz2 ?_
 try simp only[aax]
 refine V7 12 (.string x.text) rfl hz2 (fun z hz=>oK Tryz.underlying9 (f2 z hz)) ?_
 try simp only[aax]
 refine V7 13 (.bool ((oo.getD bK).toList==x.text.toList)) rfl hz2 (fun z hz=>ar0 _ _ (.tmp 38) (.tmp 40) _ _ rfl rfl rfl) ?_
 try simp only[aax]
 refine aW 8 fun K' hK'=> ?_
 go_simp
 refine(iw _ hz2).mono ?_
 rintro e z3 ⟨rfl,hq3⟩
 have hz3:=Q.trans hz2 hq3
 refine hK' _ _ hz3 ?_
 clear hK' K'
 try simp only[aax]
 refine aS 14 (.bool rr) hz3 ?_
 try simp only[aax]
 refine aS 15 (.bool oo.isSome) hz3 ?_
 try simp only[aax]
 refine aS 16 (.bool ((oo.getD bK).toList==x.text.toList)) hz3 ?_
 try simp only[aax]
 refine wpAnyH_done (by kernel_rfl) ?_ _
 have HF:Hid (R=(rr,oo.isSome,(oo.getD bK).toList==x.text.toList)):=HR
 have dD:Q w z3:=Q.trans HQ.out (Q.trans jv hz3)
 clear HR
 go_wp2_with fail
 refine bodyPost_ret (arZ rfl _ _ _) rfl ⟨?_,dD⟩
 rw[HF.out]
 rfl
end bP
namespace Rel
open Go.RowKit aQ Mem _root_.Go.Proofs.YtbemmjnjoabadaaGreatDoor.Code aY Sign _root_.Go.Proofs.YtbemmjnjoabadaaGreatDoor.Item _root_.Go.Proofs.YtbemmjnjoabadaaGreatDoor.Known _root_.Go.Proofs.YtbemmjnjoabadaaGreatDoor.bP
def zD:ByteArray:=⟨#[102,114,105,101,110,100,115]⟩
def AP:ByteArray:=⟨#[112,111,115,116]⟩
def setBody(b:bV.BN)(a:ak):ak:={a with bn:=b.1,bd:=b.2.1,bt:=b.2.2}
def yx(c:ay)(a:ak):ak:=oL a.to none 0 (pG a.group (Ea a.scope (bP.setObj (iW c a.kind a.time) a.object)))
def NP(s:ByteArray)(c:ay)(text:ByteArray):ByteArray:=(((aZ AP++aZ s)++aU (c.acts.length:Int))++aZ c.prev)++aZ text
def wI(s:ByteArray)(c:ay)(text:ByteArray):bV.BN:=bV.sK s (su (NP s c text)) text
def jI(k:Int×Int)(c:ay)(a:ak)(text:ByteArray):ak:=
 if a.scope==0 then jZ (yx c a) text
 else setBody (wI (jY k.1 a.scope a.group (mF k c a).1) c text) (mD (mF k c a).1 (yx c a))
def jK(k:Int×Int)(c:ay)(a:ak)(text:ByteArray):ak×Int:=
 if !(a.scope==0)&& !(mF k c a).2 then(aH,11)
 else if bT (jI k c a text)then(if ig c (jI k c a text)then(gU k (jI k c a text),0)else(aH,4))else(aH,1)
def CQ(k:Int×Int)(c:ay)(a:ak):ak×Int:=
 zn k c a.scope a.group (iM c c.acts.length a.scope a.group a.to) (dZ (iM c c.acts.length a.scope a.group a.to)) a.time
def Ip(c:ay)(a:ak):Bool:= !(a.scope==0)&&pq c c.acts.length a.scope a.group a.to
def lS(k:Int×Int)(c:ay)(a:ak):ay×Bool:=
 if Ip c a then(if(CQ k c a).2==0 then(dK c (CQ k c a).1,true)else(aN c,false))else(aN c,true)
def jf(k:Int×Int)(c:ay)(a:ak)(text:ByteArray):ay×Bool:=
 if(lS k c a).2 then
  if(jK k (lS k c a).1 a text).2==0 then(dK (lS k c a).1 (jK k (lS k c a).1 a text).1,true)else((lS k c a).1,false)
 else(aN c,false)
structure iG where
 wish:vg
 scope:Int
 mask:Int
def iG.cells(x:iG):List Value:=[.int .i64 x.wish.mG, .int .i64 x.wish.do_, .int .i64 x.wish.who, .int .i64 x.wish.what, .string x.wish.text, .int .i64 x.wish.time, .int .i64 x.scope, .int .i64 x.mask]
def gW(x:iG):ak:=
 {aH with kind:=1,time:=x.wish.time,scope:=x.scope%4,group:=if x.scope%4==2 then zD else bK,to:=if x.scope%4==3 then lK x.mask else[]}
def KD(c:ay)(x:iG):ak:=oL (lK x.mask) none 0 (pG zD (iW c 15 x.wish.time))
structure F9 where
 cs:List ay
 earlier:List ByteArray
 texts:List jH
def jg(mG:Nat)(c:ay)(x:iG)(earlier:List ByteArray):ay×Option jH:=
 if x.wish.do_==1 then
  (if(jf (aG mG) c (gW x) x.wish.text).2 then((jf (aG mG) c (gW x) x.wish.text).1,some ⟨mG,((jf (aG mG) c (gW x) x.wish.text).1.acts.length:Int)-1,x.wish.text⟩)else(aN c,none))
 else if x.wish.do_==15 then(if ig c (gU (aG mG) (KD c x))then dK c (gU (aG mG) (KD c x))else aN c,none)
 else(if ig c (gU (aG mG) (mP c x.wish earlier))then dK c (gU (aG mG) (mP c x.wish earlier))else aN c,none)
def vF(x:iG):Nat:=(x.wish.mG%4).toNat
def CS(s:F9)(x:iG):F9:=
 {cs:=s.cs.set (vF x) (jg (vF x) (s.cs.getD (vF x) fE) x s.earlier).1
  earlier:=s.earlier++((jg (vF x) (s.cs.getD (vF x) fE) x s.earlier).1.acts.drop (s.cs.getD (vF x) fE).acts.length).map bY
  texts:=s.texts++(jg (vF x) (s.cs.getD (vF x) fE) x s.earlier).2.toList}
def qm(l:List iG):Nat->F9
 |0=>⟨yj 4,[],[]⟩
 |j+1=>match l[j]? with
  |some x=>CS (qm l j) x
  |none=>qm l j
theorem ahx(l:List iG)(j:Nat)(h:j<l.length):qm l (j+1)=CS (qm l j) l[j]:=by rw[qm,List.getElem?_eq_getElem h]
def vG(l:List iG):F9:=qm l l.length
theorem QO{a b:ak}(h:aP a=aP b):a.scope=b.scope:=by
 have h2:=congrArg ak.scope h
 exact h2
theorem QS{a b:ak}(h:aP a=aP b):a.group=b.group:=by
 have h2:=congrArg ak.group h
 exact h2
theorem ahy{a b:ak}(h:aP a=aP b):a.kind=b.kind:=by
 have h2:=congrArg ak.kind h
 exact h2
theorem ahz{a b:ak}(h:aP a=aP b):a.time=b.time:=by
 have h2:=congrArg ak.time h
 exact h2
theorem asL{a b:ak}(h:aP a=aP b):a.object=b.object:=by
 have h2:=congrArg ak.object h
 exact h2
theorem yA(c:ay):(aN c).acts=c.acts.map aP:=rfl
theorem ng(c:ay):(aN c).acts.length=c.acts.length:=by rw[yA,List.length_map]
theorem ZL(c:ay)(n:Int):fH (aN c) n=fH c n:=by unfold fH;rw[ng]
theorem asM(a:ak):bY (aP a)=bY a:=Pj rfl
theorem ZM(a:ak):bT (aP a)=bT a:=JB rfl
theorem ahA(s:Int)(g:ByteArray)(l:List ak):∀j,gG s g (l.map aP) j=gG s g l j
 |0=>rfl
 |j+1=>by
  rw[gG,gG,List.getElem?_map,ahA s g l j]
  cases l[j]?<;>rfl
theorem NQ(c:ay)(n s:Int)(g:ByteArray):bZ (aN c) n s g=bZ c n s g:=by
 unfold bZ
 rw[ZL,yA,ahA]
theorem ahB(c:ay)(n s:Int)(g:ByteArray):vY (aN c) n s g=(vY c n s g).map aP:=by
 unfold vY
 rw[NQ,yA,List.getElem?_map]
 split<;>rfl
theorem ahC(c:ay)(n s:Int)(g:ByteArray):l9 (aN c) n s g=l9 c n s g:=by
 unfold l9
 rw[ahB]
 cases vY c n s g<;>rfl
theorem asN(c:ay)(n s:Int)(g:ByteArray):vZ (aN c) n s g=vZ c n s g:=by
 unfold vZ
 rw[ahB]
 cases vY c n s g<;>rfl
theorem ahD(g:ByteArray)(l:List ak):∀j,l7 g (l.map aP) j=l7 g l j
 |0=>rfl
 |j+1=>by
  rw[l7,l7,List.getElem?_map,ahD g l j]
  cases l[j]?<;>rfl
theorem findIdx_map{α β:Type}(f:α->β)(p:β->Bool)(q:α->Bool)(h:∀x,p (f x)=q x)(l:List α):(l.map f).findIdx? p=l.findIdx? q:=by
 rw[List.findIdx?_map]
 congr 1
 funext x
 exact h x
theorem ahE(c:ay)(d:ByteArray):jF (aN c) d=jF c d:=by
 unfold jF
 rw[yA]
 exact findIdx_map aP _ _ (fun x=>by unfold Fj;rw[asM]) c.acts
theorem asO(c:ay)(i:Nat)(d:ByteArray)(s:jV):xX (aN c) i d s=xX c i d s:=by
 unfold xX
 rw[ahE]
 cases jF c d with
 |none=>rfl
 |some j=>
  dsimp only
  rw[yA,List.getElem?_map]
  cases c.acts[j]?<;>rfl
theorem asP(c:ay)(i:Nat)(x:ak)(s:jV):lZ (aN c) i (aP x) s=lZ c i x s:=by
 unfold lZ
 rw[asO]
 rfl
theorem ZN(c:ay):∀j,gV (aN c) j=gV c j
 |0=>rfl
 |j+1=>by
  rw[gV,gV,yA,List.getElem?_map,ZN c j]
  cases c.acts[j]? with
  |none=>rfl
  |some x=>exact asP c j x _
theorem ZO(c:ay)(n s:Int)(g:ByteArray)(to:List ByteArray):iM (aN c) n s g to=iM c n s g to:=by
 have h1:yX (aN c) n s g to=yX c n s g to:=by
  unfold yX
  rw[ZL,ZN,yA,ahD]
 have h2:Ah (aN c) n=Ah c n:=by
  funext d
  unfold Ah
  rw[ZL,ZN]
  rfl
 unfold iM
 rw[h1,h2]
theorem ahF(c:ay)(n s:Int)(g:ByteArray)(to:List ByteArray):pq (aN c) n s g to=pq c n s g to:=by
 unfold pq
 rw[NQ,asN,ZO]
theorem QT(c:ay)(i:Int):eP (aN c) i=eP c i:=by
 unfold eP
 rw[ng]
 rfl
theorem asQ(k:Int×Int)(c:ay):Am k (aN c)=Am k c:=by
 unfold Am
 rw[ng,QT]
theorem ahG(k:Int×Int)(c:ay)(a b:ak)(h1:a.scope=b.scope)(h2:a.group=b.group)(h3:a.to=b.to):mF k (aN c) a=mF k c b:=by
 unfold mF
 rw[ng,ahF,NQ,QT,ahC,h1,h2,h3]
theorem asR(c:ay)(s:Int)(g:ByteArray):zl (aN c) s g=zl c s g:=by
 unfold zl
 rw[ng,NQ,ahC]
theorem QU(c:ay)(k t:Int):iW (aN c) k t=iW c k t:=by
 unfold iW
 rw[ng]
 rfl
theorem asT(k:Int×Int)(c:ay)(s:Int)(g:ByteArray)(L:List ByteArray)(ps:List Int)(t:Int):zn k (aN c) s g L ps t=zn k c s g L ps t:=by
 unfold zn wG
 rw[asR,QU]
theorem asU(c:ay)(a b:ak)(h:aP a=aP b):yx (aN c) a=yx c b:=by
 have h1:a.scope=b.scope:=QO h
 have h2:a.group=b.group:=QS h
 have h3:a.to=b.to:=J6 h
 have h4:a.kind=b.kind:=ahy h
 have h5:a.time=b.time:=ahz h
 have h6:a.object=b.object:=asL h
 unfold yx
 rw[QU,h1,h2,h3,h4,h5,h6]
theorem asV(k:Int×Int)(c:ay)(a b:ak)(h:aP a=aP b)(t:ByteArray):jI k (aN c) a t=jI k c b t:=by
 have h1:a.scope=b.scope:=QO h
 have h2:a.group=b.group:=QS h
 have h3:a.to=b.to:=J6 h
 unfold jI wI NP
 rw[asU c a b h,ahG k c a b h1 h2 h3,h1,h2,ng]
 rfl
theorem ahH(p:Int->Bool)(c:ay)(d:ByteArray):G8 p (aN c) d=G8 p c d:=by
 rw[UC,UC,ahE,yA,List.getElem?_map]
 cases c.acts[(jF c d).getD 0]?<;>rfl
theorem KE(c:ay)(a b:ak)(h:aP a=aP b):ig (aN c) a=ig c b:=by
 have e:a=ak.wr' (ak.to' b a.toA a.toC) a.gy a.dF:=Uy h
 have h1:bT a=bT b:=JB h
 unfold ig Me
 rw[ahH,ahH,ng,h1,e]
 rfl
theorem QV(k:Int×Int)(c:ay)(a b:ak)(h:aP a=aP b)(t:ByteArray):jK k (aN c) a t=jK k c b t:=by
 have h1:a.scope=b.scope:=QO h
 have h2:a.group=b.group:=QS h
 have h3:a.to=b.to:=J6 h
 unfold jK
 rw[asV k c a b h t,ahG k c a b h1 h2 h3,KE c _ _ rfl,h1]
theorem ZP(ps:List Int)(c:ay)(i:Int):jA ps (aN c) i=jA ps c i:=by
 have h1:∀a,DR ps (aN c) i (aP a)=DR ps c i a:=fun a=>by
  unfold DR
  rw[show(aP a).scope=a.scope from rfl,show(aP a).group=a.group from rfl,NQ,yA,List.getElem?_map]
  congr 1
  cases c.acts[(bZ c i a.scope a.group).1]? with
  |none=>rfl
  |some ga=>
   show((aP ga).epoch==(aP a).epoch&&(wY ps (aN c) _||yS ps (aP ga)))=_
   unfold wY
   rw[QT]
   rfl
 unfold jA uf
 rw[yA,List.getElem?_map]
 split
 ·rename_i a he
  split at he
  ·cases he
  ·rename_i hi
   simp only[if_neg hi]
   cases hc:c.acts[i.toNat]? with
   |none=>rw[hc]at he;cases he
   |some x=>
    rw[hc]at he
    injection he with he
    subst he
    show Bz ps (aN c) i (aP x)=Bz ps c i x
    unfold Bz
    rw[h1]
    rfl
 ·rename_i he
  split at he
  ·rename_i hi
   simp only[if_pos hi]
  ·rename_i hi
   simp only[if_neg hi]
   cases hc:c.acts[i.toNat]? with
   |none=>rfl
   |some x=>rw[hc]at he;cases he
theorem asW(c:ay)(xs:List Int)(i:Int):oO (aN c) xs i=oO c xs i:=by
 have h1:∀a,Ih (aN c) xs i (aP a)=Ih c xs i a:=fun a=>by
  unfold Ih
  rw[show(aP a).scope=a.scope from rfl,show(aP a).group=a.group from rfl,NQ,yA,List.getElem?_map,QT]
  cases c.acts[(bZ c i a.scope a.group).1]?<;>rfl
 unfold oO uf
 rw[yA,List.getElem?_map]
 split
 ·rename_i a he
  split at he
  ·cases he
  ·rename_i hi
   simp only[if_neg hi]
   cases hc:c.acts[i.toNat]? with
   |none=>rw[hc]at he;cases he
   |some x=>
    rw[hc]at he
    injection he with he
    subst he
    show FW (aN c) xs i (aP x)=FW c xs i x
    unfold FW
    rw[h1]
    rfl
 ·rename_i he
  split at he
  ·rename_i hi
   simp only[if_pos hi]
  ·rename_i hi
   simp only[if_neg hi]
   cases hc:c.acts[i.toNat]? with
   |none=>rfl
   |some x=>rw[hc]at he;cases he
theorem asX(ps:List Int)(c:ay)(i:Int):ug ps (aN c) i=ug ps c i:=by
 unfold ug uf
 rw[yA,List.getElem?_map]
 by_cases hi:decide (i<0)=true
 ·simp only[if_pos hi]
 ·simp only[if_neg hi]
  cases c.acts[i.toNat]?<;>rfl
section
variable {l m:List ak}
theorem pre_at(h:l<+:m){j:Nat}(hj:j<l.length):m[j]?=l[j]?:=by
 obtain⟨t,rfl⟩:=h
 rw[List.getElem?_append_left hj]
theorem ahI(s:Int)(g:ByteArray)(h:l<+:m):∀j,j<=l.length->gG s g m j=gG s g l j
 |0,_=>rfl
 |j+1,hj=>by
  rw[gG,gG,pre_at h (by omega),ahI s g h j (by omega)]
theorem ahJ(g:ByteArray)(h:l<+:m):∀j,j<=l.length->l7 g m j=l7 g l j
 |0,_=>rfl
 |j+1,hj=>by
  rw[l7,l7,pre_at h (by omega),ahJ g h j (by omega)]
end
section
variable {c d:ay}
theorem CU(c:ay){n:Nat}(h:n<=c.acts.length):fH c n=n:=by unfold fH;omega
theorem ahK(h:c.acts<+:d.acts){n:Nat}(hn:n<=c.acts.length)(s:Int)(g:ByteArray):bZ d n s g=bZ c n s g:=by
 unfold bZ
 rw[CU c hn,CU d (Nat.le_trans hn h.length_le),ahI s g h n hn]
theorem asY(h:c.acts<+:d.acts)(x:ByteArray):jF d x=jF c x∨(jF c x=none/\∀j,jF d x=some j->c.acts.length<=j):=by
 obtain⟨t,ht⟩:=h
 unfold jF
 rw[<-ht,List.findIdx?_append]
 cases hf:c.acts.findIdx? (Fj x)with
 |some j=>exact .inl rfl
 |none=>
  refine .inr ⟨rfl,fun j hj=> ?_⟩
  cases hg:t.findIdx? (Fj x)with
  |none=>rw[hg]at hj;cases hj
  |some q=>
   rw[hg]at hj
   simp at hj
   omega
theorem asZ(h:c.acts<+:d.acts){i:Nat}(hi:i<=c.acts.length)(x:ByteArray)(s:jV):xX d i x s=xX c i x s:=by
 unfold xX
 rcases asY h x with e|⟨e1,e2⟩
 ·rw[e]
  cases hx:jF c x with
  |none=>rfl
  |some j=>
   dsimp only
   rw[pre_at h (Yt hx)]
 ·rw[e1]
  cases hx:jF d x with
  |none=>rfl
  |some j=>
   have:=e2 j hx
   dsimp only
   rw[if_neg (by simp;omega)]
theorem as1(h:c.acts<+:d.acts){i:Nat}(hi:i<=c.acts.length)(x:ak)(s:jV):lZ d i x s=lZ c i x s:=by
 unfold lZ
 rw[asZ h hi]
theorem ZQ(h:c.acts<+:d.acts):∀j,j<=c.acts.length->gV d j=gV c j
 |0,_=>rfl
 |j+1,hj=>by
  rw[gV,gV,pre_at h (by omega),ZQ h j (by omega)]
  cases c.acts[j]? with
  |none=>rfl
  |some x=>exact as1 h (by omega) x _
theorem ZR(h:c.acts<+:d.acts)(hid:d.id=c.id){n:Nat}(hn:n<=c.acts.length)(s:Int)(g:ByteArray)(to:List ByteArray):iM d n s g to=iM c n s g to:=by
 have hl:=h.length_le
 have h1:yX d n s g to=yX c n s g to:=by
  unfold yX
  rw[CU c hn,CU d (by omega),ZQ h n hn,ahJ g h n hn]
 have h2:Ah d n=Ah c n:=by
  funext x
  unfold Ah
  rw[CU c hn,CU d (by omega),ZQ h n hn,hid]
 unfold iM
 rw[h1,h2]
end
end Rel
end Go.Proofs.YtbemmjnjoabadaaGreatDoor
