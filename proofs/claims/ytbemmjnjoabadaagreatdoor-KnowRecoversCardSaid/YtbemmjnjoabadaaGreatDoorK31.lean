/- part 31 -/
import Derived.Test.YtbemmjnjoabadaaGreatDoorK23
import Derived.Test.YtbemmjnjoabadaaGreatDoorK14
import Derived.Test.YtbemmjnjoabadaaGreatDoorK18
set_option linter.unusedVariables false
set_option linter.unusedSimpArgs false
set_option maxHeartbeats 8000000
set_option maxRecDepth 100000
namespace Go.Proofs.YtbemmjnjoabadaaGreatDoor
namespace bP
open Go.RowKit aQ Mem _root_.Go.Proofs.YtbemmjnjoabadaaGreatDoor.Code aY Sign _root_.Go.Proofs.YtbemmjnjoabadaaGreatDoor.Item _root_.Go.Proofs.YtbemmjnjoabadaaGreatDoor.Known BQ
attribute [local go_sem] Oper.semAt_some
def Ie(k:Option iJ)(x:Int):Bool:=k.isSome&&(iP (Sign.keyOf x)&&((Sign.keyOf x).2==(k.getD gK).pub))
def vk(k:Option iJ)(a:ak)(x:Int):List ByteArray:=if Ie k x then[jY (Sign.keyOf x).1 a.scope a.group a.epoch]else[]
def nK(x:Int)(v:bQ):List ByteArray:=if(bV.BP x v.kH).2 then[(bV.BP x v.kH).1]else[]
def Kr(k:Option iJ)(a:ak)(x:Int):List ByteArray:=vk k a x++a.wraps.flatMap (nK x)
def jk(k:Option iJ)(a:ak)(xs:List Int):List ByteArray:=xs.flatMap (Kr k a)
theorem Zc{α β:Type}(f:α->List β)(l:List α)(j:Nat)(h:j<l.length):(l.take (j+1)).flatMap f=(l.take j).flatMap f++f l[j]:=by
 rw[List.take_succ_eq_append_getElem h,List.flatMap_append]
 simp
theorem afQ{α β:Type}(f:α->List β)(l:List α)(j:Nat):(l.take j).flatMap f<+:l.flatMap f:=by
 refine⟨(l.drop j).flatMap f,?_⟩
 rw[<-List.flatMap_append,List.take_append_drop]
theorem arF(k:Option iJ)(a:ak)(xs:List Int)(j:Nat)(h:j<xs.length)(m:Nat):(jk k a (xs.take j)++(vk k a xs[j]++(a.wraps.take m).flatMap (nK xs[j])))<+:jk k a xs:=by
 refine List.IsPrefix.trans ?_ (afQ (Kr k a) xs (j+1))
 rw[Zc _ _ _ h]
 refine(List.prefix_append_right_inj _).2 ?_
 unfold Kr
 exact(List.prefix_append_right_inj _).2 (afQ _ _ _)
structure Vk(a:ak):Prop where
 scope:a.scope<=9223372036854775807
 group:a.group.size<=140737488350000
 epoch:a.epoch<=9223372036854775807
 wraps:∀v∈a.wraps,I64 v.to/\I64 v.lV/\v.n.size+v.d.size<=140737488353000
theorem arG(x:Int)(h:I64 x):(Sign.keyOf x).1<=9223372036854775807:=by
 unfold Sign.keyOf
 have:=h.2
 split<;>dsimp only<;>omega
theorem arH(n:Nat)(hn:2<=n)(l bc bg bs:Nat)(w0:World)(c:ay)(g:Nat)(hg:g<c.acts.length)(A:Option Addr)(cx:Nat)(xs:List Int)(J Jx:List ByteArray->World->Prop)(W:World)(hq0:Q w0 W)(hT:Tab w0)(hI:gX w0 c)(hX:Ints w0 A xs)(hx:∀x∈xs,I64 x)(hlm:xs.length<=maxLen)(hsz:Vk c.acts[g])
 (hbc:ah W bc 41 (aF c)) (hbg:ah W bg 3 #[.int .i64 g]) (hbs:ah W bs 49 #[.slice A xs.length cx]) (hJ:AbidesFrom W.heap.size J)
 (hY:∀pre x W1,J pre W1->(pre++[x])<+:jk (eP c g) c.acts[g] xs->YieldAt Fence.wide (n-1) Tryz.prog l #[.string x] W1 fun e W'=>
   (e= .returned (.bool true)/\J (pre++[x]) W'/\sS w0.heap.size W1 W')∨(e= .returned (.bool false)/\Jx (pre++[x]) W'))
 (h0:J [] W):
 CallsIn Fence.wide n Tryz.prog 94 #[.func (.yield l) #[] #[], .pointer (some ⟨bc,0,none⟩), .pointer (some ⟨bg,0,none⟩), .pointer (some ⟨bs,0,none⟩)] W fun e W'=>(∃v,e= .returned v)/\((∃ys,ys=jk (eP c g) c.acts[g] xs/\J ys W')∨(∃pre,pre<+:jk (eP c g) c.acts[g] xs/\Jx pre W')):=by
 have hwf:∀f,Fence.wide.fn f:=fun _=>trivial
 have hn1:1<=n:=by omega
 have hn2:1<=n-1:=by omega
 have hmx:maxLen=9223372036854775807:=by decide
 have hal:=hI.aC
 obtain⟨b,o,eA,hb0,hcs⟩:=(hI.acts.q hq0) (by omega)
 have hld:=Wd.load (P:=Tryz.prog) (ty:=37) hb0 (hcs g hg) Tryz.underlying37 rfl (by kernel_rfl)
 have c1:∀y:Wd W,y.w.cell? ⟨bc,1,none⟩=some (.slice (some ⟨b,o,none⟩) c.acts.length c.aC):=fun y=>eA▸(y.blk hbc).cell 1
 have cg:=aB (.int .i64 g) hbg 0
 have cs0:=aB (.slice A xs.length cx) hbs 0
 have cZ:=dX (P:=Tryz.prog) (aF c) hbc Tryz.underlying41
 have gq:=fun y:Wd W=>O9 c g y.w (hI.q (Q.trans hq0 y.q))
 unfold BD at gq
 have hwr:tX w0 c.acts[g].gy c.acts[g].wraps:=(hI.each _ (List.getElem_mem hg)).wraps
 have hwc:=(hI.each _ (List.getElem_mem hg)).dF
 clear hcs hbc hbg hbs eA
 obtain⟨nl,hnl⟩:∃nl,c.acts.length=nl:=⟨_,rfl⟩
 have hgN:g<nl:=by omega
 have hg0:(0:Int)<=(g:Int):=by omega
 rw[hnl]at c1 hal
 obtain⟨a,ha⟩:∃a,c.acts[g]=a:=⟨_,rfl⟩
 rw[ha]at hld hsz hY hwr hwc⊢
 obtain⟨nw,hnw⟩:∃nw,a.wraps.length=nw:=⟨_,rfl⟩
 rw[hnw]at hwc
 obtain⟨WA,Qu⟩:∃WA,a.gy=WA:=⟨_,rfl⟩
 rw[Qu]at hwr
 obtain⟨ky,hky⟩:∃ky,eP c g=ky:=⟨_,rfl⟩
 rw[hky]at gq hY⊢
 clear hky ha hg hI hnl
 obtain⟨x0,hx0⟩:=Wd.first W
 refine callsIn_of_wp Tryz.func94 rfl trivial ?_ rfl
 simp only[Tryz.ntmps94,List.size_toArray,List.length_cons,List.length_nil,Nat.reduceAdd,Nat.reduceSub,Array.replicate_succ,Array.replicate_zero,List.push_toArray,List.append_toArray,List.nil_append,List.cons_append]
 refine(show Code.wpIn _ _ _ _ _ _ x0.w->Code.wpIn _ _ _ _ _ _ W from fun h=>by rw[hx0];exact h) ?_
 refine wpIn_seq ?_
 refine wpIn_wide.2 ?_
 go_wp2_with (first|(refine kR 38 37 (.tmp 16) (.tmp 17) b o nl c.aC g 20 rfl rfl rfl rfl Tryz.underlying38 (by kernel_rfl) Tryz.sizeOf37 hgN ?_)|(refine aI (.tmp 18) (hld _) ?_)|(refine fM (ah.new x0.w 37 aH.cells.toArray) rfl 37 (.tmp 5) (.tmp 19) a.cells rfl rfl rfl (by kernel_rfl) (dL _) (Nat.le_refl 20) ?_))
 intro W1 hW1 CJ
 rw[bC _ _ (by rfl)]at hW1
 have hq1:Q W W1:=CJ _ _ x0.q.size (Q.trans x0.q (aO _ _ _))
 have FU:∀y:Wd W1,(Instr.loadAt 41 (.pointer (some ⟨bc,0,none⟩))).run Tryz.prog y.w= .ok (.agg (aF c)) y.w:=fun y=>cZ ⟨y.w,Q.trans hq1 y.q⟩
 have cg1:∀y:Wd W1,y.w.cell? ⟨bg,0,none⟩=some (.int .i64 g):=fun y=>cg ⟨y.w,Q.trans hq1 y.q⟩
 have cs1:∀y:Wd W1,y.w.cell? ⟨bs,0,none⟩=some (.slice A xs.length cx):=fun y=>cs0 ⟨y.w,Q.trans hq1 y.q⟩
 have afR:=fun y:Wd W1=>gq ⟨y.w,Q.trans hq1 y.q⟩
 have ax2:=hW1.lt
 clear CJ cZ cg cs0 c1 gq hld hb0
 generalize x0.w.heap.size=g1 at*
 obtain⟨x1,hx1⟩:=Wd.first W1
 rw[hx1]
 clear hx1 hx0
 refine wpIn_seq ?_
 refine wpIn_wide.2 ?_
 go_wp2_with (first|(refine aI (.tmp 1) (FU _) ?_)|(go_at_call 55;refine(afR _).mono ?_;rintro e w' ⟨rfl,hq2⟩;obtain⟨y,rfl⟩:=Wd.next x1 hq2;clear hq2)|(refine fM (ah.new y.w 111 gK.cells.toArray) rfl 111 (.tmp 6) (.tmp 24) (ky.getD gK).cells rfl rfl rfl (by kernel_rfl) (vP _) (Nat.le_refl 3) ?_))
 intro W2 hW2 fJ
 rw[bC _ _ (by rfl)]at hW2
 have hq2:Q W1 W2:=fJ _ _ y.q.size (Q.trans y.q (aO _ _ _))
 have cs2:∀y:Wd W2,y.w.cell? ⟨bs,0,none⟩=some (.slice A xs.length cx):=fun z=>cs1 ⟨z.w,Q.trans hq2 z.q⟩
 have hW1:=hW1.q hq2
 have afS:=Q.trans hq0 (Q.trans hq1 hq2)
 have hJ0:J [] W2:=hJ _ _ _ none h0 (CG (Q.trans hq1 hq2)) (fun r e=>by cases e)
 have hJ:AbidesFrom W2.heap.size J:=fun i X Y row h hg hr=>hJ i X Y row h hg (fun r e=>by have:=hr r e;exact⟨Nat.le_trans (Q.trans hq1 hq2).size this.1,this.2⟩)
 have arJ:=hW2.lt
 have arK:=hW1.lt
 clear fJ FU cg1 cs1 afR hq1 hq2 hq0 h0
 generalize y.w.heap.size=g2 at*
 obtain⟨nx,hnx⟩:∃nx,xs.length=nx:=⟨_,rfl⟩
 rw[hnx]at cs2 hlm
 obtain⟨x2,hx2⟩:=Wd.first W2
 rw[hx2]
 go_wp2_with fail
 refine wpIn_seq ?_
 refine wpIn_wide.2 ?_
 go_wp2_with fail
 refine wpIn_block ?_
 gi_loopw [28] (fun i wr=>∃j:Nat,i= .int .i64 j/\j<=nx/\Q w0 wr/\ah wr g1 37 a.cells.toArray/\ah wr g2 111 (ky.getD gK).cells.toArray/\J (jk ky a (xs.take j)) wr) (fun i _=>nx-(intOf i).toNat)
 case atStart=>exact⟨0,rfl,Nat.zero_le _,hx2▸afS,hx2▸hW1,hx2▸hW2,hx2▸hJ0⟩
 case round=>
  clear cs2 hx2 x2 hW1 hW2 afS hJ0 arJ arK
  obtain⟨j,rfl,hj,hqr,hB1,hB2,hJs⟩:=hrel
  by_cases hlt:j<nx
  ·have dM:j<xs.length:=by omega
   have pX:(j:Int)<(nx:Int):=by omega
   have hpos:(0:Int)<=(j:Int):=by omega
   obtain⟨b,o,rfl,hb0,hcs⟩:=(hX.q hqr) (by omega)
   have cx:=hcs j dM
   have hix:=hx _ (List.getElem_mem dM)
   have afT:=Lib.hid (arF ky a xs j dM)
   have arL:=Lib.hid (show jk ky a (xs.take (j+1))=jk ky a (xs.take j)++Kr ky a xs[j]from Zc _ _ _ dM)
   have HYY:=Lib.hid hY
   have NI:=Lib.hid hJ
   clear hcs hY hJ
   generalize xs[j]=x at*
   have Ag:=fun y:Wd wr=>Sign.acC x y.w
   have hkl:=arG x hix
   obtain⟨kk,hkk⟩:∃kk,Sign.keyOf x=kk:=⟨_,rfl⟩
   rw[hkk]at Ag hkl
   obtain⟨v0,hv0⟩:=Wd.first wr
   refine(show Code.wpIn _ _ _ _ _ _ v0.w->Code.wpIn _ _ _ _ _ _ wr from fun h=>by rw[hv0];exact h) ?_
   refine(show _->_ from fun cx=> ?_) (show∀y:Wd wr,y.w.cell? _=_ from fun y=>(y.q.cell hb0).trans cx)
   refine wpIn_seq ?_
   refine wpIn_wide.2 ?_
   go_wp2_with fail
   refine wpIn_seq ?_
   refine wpIn_cond_true rfl ?_
   refine wpIn_skip ?_
   refine wpIn_seq ?_
   refine wpIn_block ?_
   refine wpIn_seq ?_
   refine wpIn_wide.2 ?_
   go_wp2_with fail
   refine wpIn_seq ?_
   refine wpIn_wide.2 ?_
   go_wp2_with (first|(go_at_call 72;refine(Ag _).mono ?_;rintro e w' ⟨rfl,hq2⟩;obtain⟨y,rfl⟩:=Wd.next v0 hq2;clear hq2)|(refine fM (ah.new y.w 66 #[.int .i64 0, .int .i64 0]) rfl 66 (.tmp 10) (.tmp 33) [.int .i64 kk.1, .int .i64 kk.2] rfl rfl rfl (by kernel_rfl) (Sign.vP kk) (Nat.le_refl 2) ?_))
   intro W3 hW3 kQ
   rw[bC _ _ (by rfl)]at hW3
   have hq3:Q wr W3:=kQ _ _ y.q.size (Q.trans y.q (aO _ _ _))
   have p0:=aB (.int .i64 kk.1) hW3 0
   have p1:=aB (.int .i64 kk.2) hW3 1
   have hB1:=hB1.q hq3
   have hB2:=hB2.q hq3
   have hJs:=NI.out _ _ _ none hJs (CG hq3) (fun r e=>by cases e)
   have hqr:=Q.trans hqr hq3
   have q1:=aB (.int .i64 (ky.getD gK).pub) hB2 1
   have e7:=aB (.int .i64 a.scope) hB1 7
   have e8:=aB (.string a.group) hB1 8
   have e14:=aB (.int .i64 a.epoch) hB1 14
   have hRk:∀z:Wd W3,Calls Tryz.prog 58 #[.agg (bH kk)] z.w fun e w'=>e= .returned (.bool (iP kk))/\Q z.w w':=fun z=>Ji kk z.w
   have zq:=fun z:Wd W3=>Y3 kk a.scope a.group a.epoch z.w (hT.q (Q.trans hqr z.q)) hkl hsz.scope hsz.epoch hsz.group
   have hLk:=dX (P:=Tryz.prog) (bH kk) hW3 Tryz.underlying66
   have HO:=Lib.hid (show vk ky a x=if Ie ky x then[jY kk.1 a.scope a.group a.epoch]else[] by rw[<-hkk];rfl)
   have HB:=Lib.hid (show Ie ky x=(ky.isSome&&(iP kk&&(kk.2==(ky.getD gK).pub))) by rw[<-hkk];rfl)
   have hgy:y.w.heap.size<W3.heap.size:=hW3.lt
   clear kQ hW3 Ag cx hkk
   generalize y.w.heap.size=g3 at*
   obtain⟨z0,hz0⟩:=Wd.first W3
   rw[hz0]
   go_wp2_with fail
   have Kt:Hid (∀z:Wd W3,vk ky a x=[]->Q w0 z.w/\ah z.w g1 37 a.cells.toArray/\ah z.w g2 111 (ky.getD gK).cells.toArray/\J (jk ky a (xs.take j)++(vk ky a x++(a.wraps.take 0).flatMap (nK x))) z.w):=Lib.hid (fun z h=>⟨Q.trans hqr z.q,hB1.q z.q,hB2.q z.q,by rw[h];simpa using NI.out _ _ _ none hJs (CG z.q) (fun r e=>by cases e)⟩)
   have HJ3:=Lib.hid hJs
   have E8:=Lib.hid hqr
   have HB1:=Lib.hid hB1
   have HB2:=Lib.hid hB2
   clear hJs hqr hB1 hB2 hz0
   refine wpIn_seq ?_
   refine wpIn_seq ?_
   refine wpIn_wide.2 ?_
   rcases(show ky.isSome=false∨(ky.isSome=true/\iP kk=false)∨(ky.isSome=true/\iP kk=true/\(kk.2==(ky.getD gK).pub)=false)∨(ky.isSome=true/\iP kk=true/\(kk.2==(ky.getD gK).pub)=true) by cases ky.isSome<;>cases iP kk<;>cases(kk.2==(ky.getD gK).pub)<;>simp)with h1|⟨h1,h2⟩|⟨h1,h2,h3⟩|⟨h1,h2,h3⟩
   case' inr.inr.inr=>
    rw[h2]at hRk
    have Zd:=Lib.hid (show vk ky a x=[jY kk.1 a.scope a.group a.epoch] by rw[HO.out,HB.out,h1,h2,h3];rfl)
    go_wp2_with (first|(refine aI (.tmp 10) (hLk _) ?_)|(go_at_call 58;refine(hRk _).mono ?_;rintro e w' ⟨rfl,hq2⟩;obtain⟨z1,rfl⟩:=Wd.next z0 hq2;clear hq2))
    have H1:=Lib.hid h1
    have Ig:=afT.out 0
    rw[Zd.out,List.take_zero,List.flatMap_nil,List.append_nil]at Ig
    refine wpIn_cond_true rfl ?_
    refine wpIn_seq ?_
    gi_wp2_with (first|(refine ars 66 (.tmp 10) (.pointer (some ⟨g3,0,none⟩)) (.agg (bH kk)) ?_ ?_ ?_ ?_ ?_;rfl;rfl;rfl;exact hLk _)|(gi_at_call 95;refine(callsIn_wide.2 (zq _)).mono ?_;rintro e w' ⟨rfl,hq2⟩;obtain⟨z2,rfl⟩:=Wd.next z1 hq2;clear hq2;obtain⟨fn,tmps,assign,body,hy,hR⟩:=HYY.out _ _ z2.w (NI.out _ _ _ none HJ3.out (CG z2.q) (fun r e=>by cases e)) Ig))
    refine hR.mono ?_
    rintro e W5 (⟨rfl,uD,hk5⟩|⟨rfl,arN⟩)
    rotate_left 1
    ·gi_wp2
     refine bodyPost_ret (results_none rfl _ _ _) rfl ?_
     exact⟨⟨_,rfl⟩, .inr ⟨_,Ig,arN⟩⟩
    have hq5:Q w0 W5:=afP (Q.trans E8.out z2.q) hk5
    have fU:=ah.kept (HB1.out.q z2.q) hk5.2
    have hC2:=ah.kept (HB2.out.q z2.q) hk5.2
    have uD:J (jk ky a (xs.take j)++(vk ky a x++(a.wraps.take 0).flatMap (nK x))) W5:=by rw[Zd.out];simpa using uD
    have e15:W5.cell? ⟨g1,15,none⟩=some (.slice WA nw a.dF):=Qu▸hnw▸fU.cell 15
    clear hk5 hR hy q1 e7 e8 e14 p0 p1 hLk zq hRk Zd HO HB h1 h2 h3 Ig Kt
    gi_wp2_with fail
   case' inl=>
    have vw:vk ky a x=[]:=by rw[HO.out,HB.out,h1];rfl
    go_wp2_with (first|(refine aI (.tmp 10) (hLk _) ?_)|(go_at_call 58;refine(hRk _).mono ?_;rintro e w' ⟨rfl,hq2⟩;obtain⟨z1,rfl⟩:=Wd.next z0 hq2;clear hq2))
    obtain⟨hq5,fU,hC2,uD⟩:=Kt.out z0 vw
    obtain⟨W5,mV⟩:∃W5,z0.w=W5:=⟨_,rfl⟩
    rw[mV]at hq5 fU hC2 uD⊢
    have e15:W5.cell? ⟨g1,15,none⟩=some (.slice WA nw a.dF):=Qu▸hnw▸fU.cell 15
    clear q1 e7 e8 e14 p0 p1 hLk zq hRk vw HO HB Kt mV
    refine wpIn_cond_false rfl ?_
    refine wpIn_skip ?_
    gi_wp2_with fail
   case' inr.inl=>
    rw[h2]at hRk
    have vw:vk ky a x=[]:=by rw[HO.out,HB.out,h1,h2];rfl
    go_wp2_with (first|(refine aI (.tmp 10) (hLk _) ?_)|(go_at_call 58;refine(hRk _).mono ?_;rintro e w' ⟨rfl,hq2⟩;obtain⟨z1,rfl⟩:=Wd.next z0 hq2;clear hq2))
    obtain⟨hq5,fU,hC2,uD⟩:=Kt.out z1 vw
    obtain⟨W5,mV⟩:∃W5,z1.w=W5:=⟨_,rfl⟩
    rw[mV]at hq5 fU hC2 uD⊢
    have e15:W5.cell? ⟨g1,15,none⟩=some (.slice WA nw a.dF):=Qu▸hnw▸fU.cell 15
    clear q1 e7 e8 e14 p0 p1 hLk zq hRk vw HO HB Kt mV
    refine wpIn_cond_false rfl ?_
    refine wpIn_skip ?_
    gi_wp2_with fail
   case' inr.inr.inl=>
    rw[h2]at hRk
    have vw:vk ky a x=[]:=by rw[HO.out,HB.out,h1,h2,h3];rfl
    go_wp2_with (first|(refine aI (.tmp 10) (hLk _) ?_)|(go_at_call 58;refine(hRk _).mono ?_;rintro e w' ⟨rfl,hq2⟩;obtain⟨z1,rfl⟩:=Wd.next z0 hq2;clear hq2))
    obtain⟨hq5,fU,hC2,uD⟩:=Kt.out z1 vw
    obtain⟨W5,mV⟩:∃W5,z1.w=W5:=⟨_,rfl⟩
    rw[mV]at hq5 fU hC2 uD⊢
    have e15:W5.cell? ⟨g1,15,none⟩=some (.slice WA nw a.dF):=Qu▸hnw▸fU.cell 15
    clear q1 e7 e8 e14 p0 p1 hLk zq hRk vw HO HB Kt mV
    refine wpIn_cond_false rfl ?_
    refine wpIn_skip ?_
    gi_wp2_with fail
   all_goals
    clear e15
    gi_loopw [60] (fun i wr=>∃m:Nat,i= .int .i64 m/\m<=nw/\Q w0 wr/\ah wr g1 37 a.cells.toArray/\ah wr g2 111 (ky.getD gK).cells.toArray/\J (jk ky a (xs.take j)++(vk ky a x++(a.wraps.take m).flatMap (nK x))) wr) (fun i _=>nw-(intOf i).toNat)
    case atStart=>exact⟨0,rfl,Nat.zero_le _,hq5,fU,hC2,uD⟩
    case round=>
     clear hq5 fU hC2 uD
     obtain⟨m,rfl,hm,hq5,fU,hC2,uD⟩:=hrel
     by_cases arO:m<nw
     ·have hmL:m<a.wraps.length:=by omega
      have PD:(m:Int)<(nw:Int):=by omega
      have ax4:(0:Int)<=(m:Int):=by omega
      obtain⟨b3,o3,rfl,hb3,hcs3⟩:=(hwr.q hq5) (by omega)
      have hld:=Wd.load (P:=Tryz.prog) (ty:=115) hb3 (hcs3 m hmL) Tryz.underlying115 rfl (by kernel_rfl)
      have hsx:=hsz.wraps _ (List.getElem_mem hmL)
      have HP2:=Lib.hid (afT.out (m+1))
      have HW2:=Lib.hid (Zc (nK x) a.wraps m hmL)
      clear hcs3
      generalize a.wraps[m]=v at*
      obtain⟨p,ok,hpo⟩:∃p ok,bV.BP x v.kH=(p,ok):=⟨_,_,rfl⟩
      obtain⟨y0,hy0⟩:=Wd.first wr
      refine(show Code.wpIn _ _ _ _ _ _ y0.w->Code.wpIn _ _ _ _ _ _ wr from fun h=>by rw[hy0];exact h) ?_
      refine wpIn_seq ?_
      refine wpIn_wide.2 ?_
      go_wp2_with fail
      refine wpIn_seq ?_
      refine wpIn_cond_true rfl ?_
      refine wpIn_skip ?_
      refine wpIn_seq ?_
      refine wpIn_block ?_
      refine wpIn_seq ?_
      refine wpIn_wide.2 ?_
      go_wp2_with (first|(refine kR 33 115 (.tmp 58) (.tmp 60) b3 o3 nw a.dF m 5 rfl rfl rfl rfl Tryz.underlying33 (by kernel_rfl) Tryz.sizeOf115 arO ?_)|(refine aI (.tmp 62) (hld _) ?_)|(refine fM (ah.new y0.w 115 o7.cells.toArray) rfl 115 (.tmp 12) (.tmp 63) v.cells rfl rfl rfl (by kernel_rfl) (DT _) (Nat.le_refl 5) ?_))
      intro W6 yh afV
      rw[bC _ _ (by rfl)]at yh
      have hq6:Q wr W6:=afV _ _ y0.q.size (Q.trans y0.q (aO _ _ _))
      have fU:=fU.q hq6
      have hC2:=hC2.q hq6
      have uD:=NI.out _ _ _ none uD (CG hq6) (fun r e=>by cases e)
      have hq5:=Q.trans hq5 hq6
      have hLw:=dX (P:=Tryz.prog) #[.int .i64 v.to, .int .i64 v.lV, .string v.n, .string v.d, .string v.t] yh Tryz.underlying115
      have Fp:=fun z:Wd W6=>bV.arE x v.to v.lV v.n v.d v.t p ok z.w (hT.q (Q.trans hq5 z.q)) hsx.1.2 hsx.2.1.2 hsx.2.2 hpo
      have HC1:=Lib.hid fU
      have HC2:=Lib.hid hC2
      have HJ6:=Lib.hid uD
      have HQ6:=Lib.hid hq5
      clear afV yh hld fU hC2 uD hq5 hq6
      generalize y0.w.heap.size=g5 at*
      obtain⟨z5,sU⟩:=Wd.first W6
      rw[sU]
      clear sU hy0
      go_wp2_with fail
      refine wpIn_seq ?_
      refine wpIn_wide.2 ?_
      go_wp2_with (first|(refine aI (.tmp 12) (hLw _) ?_)|(go_at_call 67;refine(Fp _).mono ?_;rintro e w' ⟨rfl,hq2⟩;obtain⟨z6,rfl⟩:=Wd.next z5 hq2;clear hq2))
      cases ok
      ·have hu:nK x v=[]:=by unfold nK;rw[hpo];rfl
       rw[hu,List.append_nil]at HW2
       have FV:Hid (Q w0 z6.w/\ah z6.w g1 37 a.cells.toArray/\ah z6.w g2 111 (ky.getD gK).cells.toArray/\J (jk ky a (xs.take j)++(vk ky a x++(a.wraps.take (m+1)).flatMap (nK x))) z6.w):=Lib.hid ⟨Q.trans HQ6.out z6.q,HC1.out.q z6.q,HC2.out.q z6.q,by rw[HW2.out];exact NI.out _ _ _ none HJ6.out (CG z6.q) (fun r e=>by cases e)⟩
       clear hLw Fp
       refine wpIn_seq ?_
       refine wpIn_wide.2 ?_
       go_wp2_with fail
       refine wpIn_cond_false rfl ?_
       refine wpIn_skip ?_
       gi_wp2_with fail
       exact⟨⟨m+1,by go_num,by omega,FV.out.1,FV.out.2.1,FV.out.2.2.1,FV.out.2.2.2⟩,by simp only[intOf];omega⟩
      ·have hu:nK x v=[p]:=by unfold nK;rw[hpo];rfl
       have Ig:(jk ky a (xs.take j)++(vk ky a x++(a.wraps.take m).flatMap (nK x)))++[p]<+:jk ky a xs:=by
        have h:=HP2.out
        rw[HW2.out,hu]at h
        simpa only[List.append_assoc]using h
       rw[hu]at HW2
       clear hLw Fp
       obtain⟨fn,tmps,assign,body,hy,hR⟩:=HYY.out _ p z6.w (NI.out _ _ _ none HJ6.out (CG z6.q) (fun r e=>by cases e)) Ig
       gi_wp2_with fail
       refine hR.mono ?_
       rintro e W7 (⟨rfl,Qv,Vl⟩|⟨rfl,arP⟩)
       rotate_left 1
       ·gi_wp2
        refine bodyPost_ret (results_none rfl _ _ _) rfl ?_
        exact⟨⟨_,rfl⟩, .inr ⟨_,Ig,arP⟩⟩
       have FV:Hid (Q w0 W7/\ah W7 g1 37 a.cells.toArray/\ah W7 g2 111 (ky.getD gK).cells.toArray/\J (jk ky a (xs.take j)++(vk ky a x++(a.wraps.take (m+1)).flatMap (nK x))) W7):=Lib.hid ⟨afP (Q.trans HQ6.out z6.q) Vl,ah.kept (HC1.out.q z6.q) Vl.2,ah.kept (HC2.out.q z6.q) Vl.2,by rw[HW2.out];simpa only[List.append_assoc]using Qv⟩
       clear hR hy Vl Qv Ig
       gi_wp2_with fail
       exact⟨⟨m+1,by go_num,by omega,FV.out.1,FV.out.2.1,FV.out.2.2.1,FV.out.2.2.2⟩,by simp only[intOf];omega⟩
     ·have PD:¬((m:Int)<(nw:Int)):=by omega
      obtain rfl:m=nw:=by omega
      have htk:a.wraps.take m=a.wraps:=by rw[<-hnw,List.take_length]
      rw[htk]at uD
      have Qv:J (jk ky a (xs.take (j+1))) wr:=by rw[arL.out];exact uD
      clear uD htk hnw
      gi_wp2_with fail
      first
      |exact⟨⟨.int .i64 x, .pointer (some ⟨g3,0,none⟩),_,_,_, .int .i64 ((j:Int)+1),⟨j+1,by go_num,by omega,Qv⟩,rfl,rfl,rfl,rfl,rfl,rfl⟩,by simp only[intOf];omega⟩
      |exact⟨⟨.int .i64 x, .pointer (some ⟨g3,0,none⟩),_,_,_, .int .i64 ((j:Int)+1),⟨j+1,by go_num,by omega,Qv⟩,H1.out,rfl,rfl,rfl,rfl,rfl,H1.out,rfl⟩,by simp only[intOf];omega⟩
  ·have hlI:¬((j:Int)<(nx:Int)):=by omega
   obtain rfl:j=nx:=by omega
   rw[<-hnx,List.take_length]at hJs
   gi_wp2
   go_end0
   exact⟨⟨_,rfl⟩, .inl hJs⟩
end bP
namespace bP
open Go.RowKit aQ Mem _root_.Go.Proofs.YtbemmjnjoabadaaGreatDoor.Code aY Sign _root_.Go.Proofs.YtbemmjnjoabadaaGreatDoor.Item _root_.Go.Proofs.YtbemmjnjoabadaaGreatDoor.Known BQ
def sV(a:ak):ByteArray×ByteArray×ByteArray:=(a.bn,a.bd,a.bt)
def nX(b:ByteArray×ByteArray×ByteArray):List ByteArray->Option ByteArray
 |[]=>none
 |d::t=>if(bV.nR d b).2 then some (bV.nR d b).1 else nX b t
def Ih(c:ay)(xs:List Int)(i:Int)(a:ak):Option ByteArray:=if(bZ c i a.scope a.group).2 then
 match c.acts[(bZ c i a.scope a.group).1]? with
 |some ga=>if ga.epoch==a.epoch then nX (sV a) (jk (eP c (bZ c i a.scope a.group).1) ga xs)else none
 |none=>none
 else none
def FW(c:ay)(xs:List Int)(i:Int)(a:ak):Option ByteArray:=if nT a.kind then(if a.scope==0 then some a.text else Ih c xs i a)else none
def oO(c:ay)(xs:List Int)(i:Int):Option ByteArray:=match uf c.acts i with
 |some a=>FW c xs i a
 |none=>none
def Ku(o:Option ByteArray)(w:World)(e:Ending)(w':World):Prop:=e= .returned (.tuple #[.string (o.getD bK), .bool o.isSome])/\Q w w'
theorem Qw(kind:Int)(w:World):Calls Tryz.prog 44 #[.int .i64 kind] w fun e w'=>e= .returned (.bool (nT kind))/\Q w w':=by
 obtain⟨x,hx⟩:=Wd.first w
 refine(show Calls Tryz.prog 44 #[.int .i64 kind] x.w _->_ from fun h=>by rwa[<-hx]at h) ?_
 clear hx
 have bf:=fun y:Wd w=>iE kind y.w
 have HR:=Lib.hid (show nT kind=(jh kind||(kind==14))from rfl)
 cases hp:jh kind
 all_goals
  rw[hp]at bf HR
  cases hk:(kind==14)
  all_goals
   try rw[hk]at HR
   go_enter Tryz.func44,Tryz.ntmps44
   go_wp2_with (go_at_call 48;refine(bf _).mono ?_;rintro e w' ⟨rfl,hq2⟩;obtain⟨y,rfl⟩:=Wd.next x hq2;clear hq2)
   go_ret
   exact⟨by rw[HR.out];rfl,y.q⟩
theorem amX(kind:Int)(w:World):Calls Tryz.prog 16 #[.int .i64 kind] w fun e w'=>e= .returned (.bool (nT kind))/\Q w w':=by
 obtain⟨x,hx⟩:=Wd.first w
 refine(show Calls Tryz.prog 16 #[.int .i64 kind] x.w _->_ from fun h=>by rwa[<-hx]at h) ?_
 clear hx
 have bf:=fun y:Wd w=>iE kind y.w
 have HR:=Lib.hid (show nT kind=(jh kind||(kind==14))from rfl)
 cases hp:jh kind
 all_goals
  rw[hp]at bf HR
  cases hk:(kind==14)
  all_goals
   try rw[hk]at HR
   go_enter Tryz.func16,Tryz.ntmps16
   go_wp2_with (go_at_call 48;refine(bf _).mono ?_;rintro e w' ⟨rfl,hq2⟩;obtain⟨y,rfl⟩:=Wd.next x hq2;clear hq2)
   go_ret
   exact⟨by rw[HR.out];rfl,y.q⟩
theorem Kv{fn:Func}{p u:Tmp}(h:fn.results= #[.cell p 9, .cell u 4])(tmps:Array Value)(w:World)(g g':Nat)(d:ByteArray)(b:Bool)(hp:tmps.getD p undef= .pointer (some ⟨g,0,none⟩))(hu:tmps.getD u undef= .pointer (some ⟨g',0,none⟩))
 (h1:w.cell? ⟨g,0,none⟩=some (.string d)) (h2:w.cell? ⟨g',0,none⟩=some (.bool b)):(results fn tmps).run Tryz.prog w= .ok (.tuple #[.string d, .bool b]) w:=by
 have e1:tmps[p]?.getD undef= .pointer (some ⟨g,0,none⟩):=by rw[<-hp];simp
 have e2:tmps[u]?.getD undef= .pointer (some ⟨g',0,none⟩):=by rw[<-hu];simp
 simp[results,h,e1,e2,asAddr,go_sem,h1,h2]
structure xw(w W:World)(g h:Nat)(d:ByteArray)(b:Bool):Prop where
 s:Boxed W g 9 (.string d)
 o:Boxed W h 4 (.bool b)
 q:Below w.heap.size w W
theorem xw.set{w W:World}{g h:Nat}{d:ByteArray}{b:Bool}(t:xw w W g h d b)(hne:g≠h)(h1:w.heap.size<=g)(h2:w.heap.size<=h)(d':ByteArray)(b':Bool):xw w ((W.setCell ⟨g,0,none⟩ (.string d')).setCell ⟨h,0,none⟩ (.bool b')) g h d' b':=
 ⟨(t.s.set _).other hne _,(t.o.other (Ne.symm hne) _).set _,(t.q.setCell (p:=⟨g,0,none⟩) h1 _).setCell (p:=⟨h,0,none⟩) h2 _⟩
theorem afZ(A:Option Addr)(cx:Nat)(xs:List Int)(c:ay)(i:Int)(w:World)(hI:gX w c)(hi:i<0∨(¬i<0/\(c.acts.length:Int)<=i)):Calls Tryz.prog 15 #[.slice A xs.length cx, .agg (aF c), .int .i64 i] w (Ku none w):=by
 have hb1:=ah.new w 41 (aF c)
 have hq1:=aO w (aF c) 41
 have hb2:=ah.new' (g:=w.heap.size+1) (w.alloc (.cells (aF c) 41)) 9 #[.string ⟨#[]⟩] (by simp)
 have hq2:=aO (w.alloc (.cells (aF c) 41)) #[.string ⟨#[]⟩] 9
 have hb3:=ah.new' (g:=w.heap.size+1+1) ((w.alloc (.cells (aF c) 41)).alloc (.cells #[.string ⟨#[]⟩] 9)) 4 #[.bool false] (by simp)
 have hq3:=aO ((w.alloc (.cells (aF c) 41)).alloc (.cells #[.string ⟨#[]⟩] 9)) #[.bool false] 4
 have hb1:=(hb1.q hq2).q hq3
 have hb2:=hb2.q hq3
 have hq:=Q.trans (Q.trans hq1 hq2) hq3
 clear hq1 hq2 hq3
 obtain⟨W0,hW0⟩:∃W0,W0=((w.alloc (.cells (aF c) 41)).alloc (.cells #[.string ⟨#[]⟩] 9)).alloc (.cells #[.bool false] 4):=⟨_,rfl⟩
 rw[<-hW0]at hb1 hb2 hb3 hq
 obtain⟨x,hx⟩:=Wd.first W0
 have HX:=Lib.hid (hx.symm.trans hW0)
 have lD:∀y:Wd W0,xw w y.w (w.heap.size+1) (w.heap.size+1+1) ⟨#[]⟩ false:=fun y=>⟨y.blk hb2,y.blk hb3,Q.trans hq y.q⟩
 have c1:=aB (.slice c.aA c.acts.length c.aC) hb1 1
 have f6:∀y:Wd W0,y.w.frozen? ⟨w.heap.size+1,0,none⟩=false:=fun y=>(lD y).s.frozen
 have k6:∀y:Wd W0,y.w.cell? ⟨w.heap.size+1,0,none⟩=some (.string ⟨#[]⟩):=fun y=>(lD y).s.cell
 have f7:∀(y:Wd W0) v,(y.w.setCell ⟨w.heap.size+1,0,none⟩ v).frozen? ⟨w.heap.size+1+1,0,none⟩=false:=fun y v=>((lD y).o.other (by omega) v).frozen
 have k7:∀(y:Wd W0) v,(y.w.setCell ⟨w.heap.size+1,0,none⟩ v).cell? ⟨w.heap.size+1+1,0,none⟩=some (.bool false):=fun y v=>((lD y).o.other (by omega) v).cell
 have uV:Hid (∀(y:Wd W0) d b,xw w ((y.w.setCell ⟨w.heap.size+1,0,none⟩ (.string d)).setCell ⟨w.heap.size+1+1,0,none⟩ (.bool b)) (w.heap.size+1) (w.heap.size+1+1) d b):=Lib.hid (fun y d b=>(lD y).set (by omega) (by omega) (by omega) d b)
 clear lD hx hW0
 have hal:=hI.aC
 have hmx:maxLen=9223372036854775807:=by decide
 clear hI
 rcases hi with hi|⟨hi,hi2⟩
 all_goals
  go_enter Tryz.func15,Tryz.ntmps15
  go_upto_region 1 with(fail)
  refine(show Code.wp _ _ _ _ x.w->Code.wp _ _ _ _ _ from fun h=>by rw[HX.out]at h;exact h) ?_
  go_wp2_with fail
  exact bodyPost_ret (Kv rfl _ _ _ _ _ _ rfl rfl (uV.out x _ _).s.cell (uV.out x _ _).o.cell) rfl ⟨rfl,(uV.out x _ _).q⟩
theorem af0(A:Option Addr)(cx:Nat)(xs:List Int)(c:ay)(m:Nat)(w:World)(hI:gX w c)(hm:m<c.acts.length)(hi:nT c.acts[m].kind=false∨(nT c.acts[m].kind=true/\(c.acts[m].scope==0)=true)):Calls Tryz.prog 15 #[.slice A xs.length cx, .agg (aF c), .int .i64 m] w (Ku (if nT c.acts[m].kind then some c.acts[m].text else none) w):=by
 have hb1:=ah.new w 41 (aF c)
 have hq1:=aO w (aF c) 41
 have hb2:=ah.new' (g:=w.heap.size+1) (w.alloc (.cells (aF c) 41)) 9 #[.string ⟨#[]⟩] (by simp)
 have hq2:=aO (w.alloc (.cells (aF c) 41)) #[.string ⟨#[]⟩] 9
 have hb3:=ah.new' (g:=w.heap.size+1+1) ((w.alloc (.cells (aF c) 41)).alloc (.cells #[.string ⟨#[]⟩] 9)) 4 #[.bool false] (by simp)
 have hq3:=aO ((w.alloc (.cells (aF c) 41)).alloc (.cells #[.string ⟨#[]⟩] 9)) #[.bool false] 4
 have hb1:=(hb1.q hq2).q hq3
 have hb2:=hb2.q hq3
 have hq:=Q.trans (Q.trans hq1 hq2) hq3
 clear hq1 hq2 hq3
 obtain⟨W0,hW0⟩:∃W0,W0=((w.alloc (.cells (aF c) 41)).alloc (.cells #[.string ⟨#[]⟩] 9)).alloc (.cells #[.bool false] 4):=⟨_,rfl⟩
 rw[<-hW0]at hb1 hb2 hb3 hq
 obtain⟨x,hx⟩:=Wd.first W0
 have HX:=Lib.hid (hx.symm.trans hW0)
 have lD:∀y:Wd W0,xw w y.w (w.heap.size+1) (w.heap.size+1+1) ⟨#[]⟩ false:=fun y=>⟨y.blk hb2,y.blk hb3,Q.trans hq y.q⟩
 have c1:=aB (.slice c.aA c.acts.length c.aC) hb1 1
 have f6:∀y:Wd W0,y.w.frozen? ⟨w.heap.size+1,0,none⟩=false:=fun y=>(lD y).s.frozen
 have k6:∀y:Wd W0,y.w.cell? ⟨w.heap.size+1,0,none⟩=some (.string ⟨#[]⟩):=fun y=>(lD y).s.cell
 have f7:∀(y:Wd W0) v,(y.w.setCell ⟨w.heap.size+1,0,none⟩ v).frozen? ⟨w.heap.size+1+1,0,none⟩=false:=fun y v=>((lD y).o.other (by omega) v).frozen
 have k7:∀(y:Wd W0) v,(y.w.setCell ⟨w.heap.size+1,0,none⟩ v).cell? ⟨w.heap.size+1+1,0,none⟩=some (.bool false):=fun y v=>((lD y).o.other (by omega) v).cell
 have uV:Hid (∀(y:Wd W0) d b,xw w ((y.w.setCell ⟨w.heap.size+1,0,none⟩ (.string d)).setCell ⟨w.heap.size+1+1,0,none⟩ (.bool b)) (w.heap.size+1) (w.heap.size+1+1) d b):=Lib.hid (fun y d b=>(lD y).set (by omega) (by omega) (by omega) d b)
 clear lD hx hW0
 have hmx:maxLen=9223372036854775807:=by decide
 have hal:=hI.aC
 obtain⟨b,o,eA,hb0,hcs⟩:=(hI.acts.q hq) (by omega)
 rw[eA]at c1
 have iU:=fun y:Wd W0=>Qw c.acts[m].kind y.w
 have a3:∀y:Wd W0,y.w.cell? ⟨b,o+m*20+3,none⟩=some (.int .i64 c.acts[m].kind):=fun y=>Wd.get hb0 (hcs m hm) 3 rfl y
 have hld:=Wd.load (P:=Tryz.prog) (ty:=37) hb0 (hcs m hm) Tryz.underlying37 rfl (by kernel_rfl)
 obtain⟨nl,hnl⟩:∃nl,c.acts.length=nl:=⟨_,rfl⟩
 rw[hnl]at c1 hal
 have hmN:m<nl:=by omega
 have PD:(m:Int)<(nl:Int):=by omega
 have hm0:(0:Int)<=(m:Int):=by omega
 have hmn:¬((m:Int)<0):=by omega
 have hmg:¬((nl:Int)<=(m:Int)):=by omega
 clear hI hcs eA hb1 hb2 hb3
 generalize c.acts[m]=a at*
 rcases hi with hk|⟨hk,hs⟩
 ·rw[hk]at iU⊢
  clear hld
  go_enter Tryz.func15,Tryz.ntmps15
  go_upto_region 1 with(fail)
  refine(show Code.wp _ _ _ _ x.w->Code.wp _ _ _ _ _ from fun h=>by rw[HX.out]at h;exact h) ?_
  go_wp2_with (first|(refine kR 38 37 (.tmp 25) (.tmp 26) b o nl c.aC m 20 rfl rfl rfl rfl Tryz.underlying38 (by kernel_rfl) Tryz.sizeOf37 hmN ?_)|(go_at_call 44;refine(iU _).mono ?_;rintro e w' ⟨rfl,hq2⟩;obtain⟨y,rfl⟩:=Wd.next x hq2;clear hq2))
  exact bodyPost_ret (Kv rfl _ _ _ _ _ _ rfl rfl (uV.out y _ _).s.cell (uV.out y _ _).o.cell) rfl ⟨rfl,(uV.out y _ _).q⟩
 ·rw[hk]at iU⊢
  rw[if_pos rfl]
  go_enter Tryz.func15,Tryz.ntmps15
  go_upto_region 1 with(fail)
  refine(show Code.wp _ _ _ _ x.w->Code.wp _ _ _ _ _ from fun h=>by rw[HX.out]at h;exact h) ?_
  go_upto_region 4 with(first|(refine kR 38 37 (.tmp 25) (.tmp 26) b o nl c.aC m 20 rfl rfl rfl rfl Tryz.underlying38 (by kernel_rfl) Tryz.sizeOf37 hmN ?_)|(go_at_call 44;refine(iU _).mono ?_;rintro e w' ⟨rfl,hq2⟩;obtain⟨y,rfl⟩:=Wd.next x hq2;clear hq2)|(refine kR 38 37 (.tmp 34) (.tmp 35) b o nl c.aC m 20 rfl rfl rfl rfl Tryz.underlying38 (by kernel_rfl) Tryz.sizeOf37 hmN ?_)|(refine aI (.tmp 36) (hld _) ?_)|(refine fM (ah.new y.w 37 aH.cells.toArray) rfl 37 (.tmp 8) (.tmp 37) a.cells rfl rfl rfl (by kernel_rfl) (dL _) (Nat.le_refl 20) ?_))
  intro W1 hW1 CJ
  rw[bC _ _ (by rfl)]at hW1
  have hq1:Q W0 W1:=CJ _ _ y.q.size (Q.trans y.q (aO _ _ _))
  have e7:=aB (.int .i64 a.scope) hW1 7
  have e10:=aB (.string a.text) hW1 10
  have f61:∀z:Wd W1,z.w.frozen? ⟨w.heap.size+1,0,none⟩=false:=fun z=>f6 ⟨z.w,Q.trans hq1 z.q⟩
  have Ze:∀z:Wd W1,z.w.cell? ⟨w.heap.size+1,0,none⟩=some (.string ⟨#[]⟩):=fun z=>k6 ⟨z.w,Q.trans hq1 z.q⟩
  have f71:∀(z:Wd W1) v,(z.w.setCell ⟨w.heap.size+1,0,none⟩ v).frozen? ⟨w.heap.size+1+1,0,none⟩=false:=fun z v=>f7 ⟨z.w,Q.trans hq1 z.q⟩ v
  have Zf:∀(z:Wd W1) v,(z.w.setCell ⟨w.heap.size+1,0,none⟩ v).cell? ⟨w.heap.size+1+1,0,none⟩=some (.bool false):=fun z v=>k7 ⟨z.w,Q.trans hq1 z.q⟩ v
  have Ar:Hid (∀(z:Wd W1) d b,xw w ((z.w.setCell ⟨w.heap.size+1,0,none⟩ (.string d)).setCell ⟨w.heap.size+1+1,0,none⟩ (.bool b)) (w.heap.size+1) (w.heap.size+1+1) d b):=Lib.hid (fun z=>uV.out ⟨z.w,Q.trans hq1 z.q⟩)
  have hgW:=hW1.lt
  clear CJ hW1 hld uV f6 k6 f7 k7 iU c1 a3 hq hq1 HX
  generalize y.w.heap.size=g3 at*
  obtain⟨z,hz⟩:=Wd.first W1
  rw[hz]
  clear hz
  go_wp2_with fail
  exact bodyPost_ret (Kv rfl _ _ _ _ _ _ rfl rfl (Ar.out z _ _).s.cell (Ar.out z _ _).o.cell) rfl ⟨rfl,(Ar.out z _ _).q⟩
end bP
end Go.Proofs.YtbemmjnjoabadaaGreatDoor
