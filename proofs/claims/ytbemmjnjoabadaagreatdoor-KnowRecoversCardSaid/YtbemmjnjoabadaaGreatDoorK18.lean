/- part 18 -/
import Derived.Test.YtbemmjnjoabadaaGreatDoorRelIter
import Derived.Maps.OwnSet
import Derived.Test.YtbemmjnjoabadaaGreatDoorK17
set_option linter.unusedVariables false
set_option linter.unusedSimpArgs false
set_option maxHeartbeats 8000000
set_option maxRecDepth 100000
namespace Go.Proofs.YtbemmjnjoabadaaGreatDoor
namespace bP
open Go.RowKit aQ Mem _root_.Go.Proofs.YtbemmjnjoabadaaGreatDoor.Code aY Sign _root_.Go.Proofs.YtbemmjnjoabadaaGreatDoor.Item _root_.Go.Proofs.YtbemmjnjoabadaaGreatDoor.Known
def aeb(ps:List Int)(w:World)(e:Ending)(w':World):Prop:=∃g,e= .returned (.map (some g))/\tZ w' g ps/\Q w w'
theorem aoN(xs:List Int)(j:Nat)(h:j<xs.length):iZ (xs.take (j+1))=iZ (xs.take j)++if xW xs[j]then[dW 37 xs[j]]else[]:=by
 unfold iZ
 rw[List.take_succ_eq_append_getElem h,List.filter_append,List.map_append]
 congr 1
 cases hp:xW xs[j]<;>simp[List.filter,hp]
theorem aec(w:World):(zeroValue 4).run Tryz.prog w= .ok (.bool false) w:=by kernel_rfl
theorem Yd(A:Option Addr)(c:Nat)(xs:List Int)(w:World)(hI:Ints w A xs)(hx:∀x∈xs,I64 x)(hlm:xs.length<=maxLen):Calls Tryz.prog 43 #[.slice A xs.length c] w (aeb (iZ xs) w):=by
 have hM0:=tZ.made w
 have hmx:maxLen=9223372036854775807:=by decide
 have hq0:Q w (w.alloc (.map #[] 0)):=Below.alloc (Below.refl _ w) (Nat.le_refl _) _
 have hmm:= @run_makeMap Tryz.prog
 generalize hnl:xs.length=nl at*
 go_enter Tryz.func43,Tryz.ntmps43
 go_upto_region 2 with(fail)
 obtain⟨W0,hW0⟩:∃W0,w.alloc (.map #[] 0)=W0:=⟨_,rfl⟩
 rw[hW0]at hM0 hq0⊢
 generalize hg:w.heap.size=g at*
 clear hW0 hmm
 go_wp2_with fail
 go_loopw [9] (fun i wr=>∃(j:Nat),i= .int .i64 j/\j<=nl/\Q w wr/\tZ wr g (iZ (xs.take j))) (fun i _=>nl-(intOf i).toNat)
 case atStart=>exact⟨0,rfl,Nat.zero_le _,hq0,hM0⟩
 case round=>
  clear hM0 hq0
  obtain⟨j,rfl,hj,hqr,hst⟩:=hrel
  by_cases hlt:j<nl
  ·have dM:j<xs.length:=by omega
   have pX:(j:Int)<(nl:Int):=by omega
   have hpos:(0:Int)<=(j:Int):=by omega
   obtain⟨b,o,rfl,hb0,hcs⟩:=(hI.q hqr) (by omega)
   have cx:=hcs j dM
   have hix:=hx _ (List.getElem_mem dM)
   have uP:=aoN xs j dM
   clear hcs
   generalize xs[j]=v at*
   have Ye:(xW v=false/\decide (1<=v)=false)∨(xW v=false/\decide (1<=v)=true/\decide (v<=2305843009213693949)=false)∨(xW v=true/\decide (1<=v)=true/\decide (v<=2305843009213693949)=true):=by
    unfold xW
    cases decide (1<=v)<;>cases decide (v<=2305843009213693949)<;>simp
   rcases Ye with⟨hp,h1⟩|⟨hp,h1,h2⟩|⟨hp,h1,h2⟩
   rotate_left 2
   ·rw[hp,if_pos rfl]at uP
    have hEx:=Tv 37 v wr (by have:=hix.1;omega) hix.2
    simp only[decide_eq_true_eq,decide_eq_false_iff_not]at h1 h2
    go_upto_region 6 with(fail)
    go_upto_region 7 with(first|(go_at_call 28;refine hEx.mono ?_;rintro e w5 ⟨rfl,hq5⟩;obtain⟨W6,hr6,LZ,hs6,hB6,hf6⟩:=(hst.q hq5).put Tryz.underlying97 Tryz.underlying3 (dW 37 v))|(refine ad8 97 (.tmp 19) (.tmp 21) (.const (.bool true)) (.map (some g)) (.int .i64 (dW 37 v)) (.bool true) rfl rfl rfl rfl rfl hr6 ?_))
    have hq6:Q w W6:=Below.trans (Q.trans hqr hq5) (hB6 w.heap.size (by omega))
    rw[<-uP]at LZ
    have HI6:=Lib.hid LZ
    clear hst LZ hf6 hB6 hEx
    go_wp2_with fail
    exact⟨⟨j+1,by go_num,by omega,hq6,HI6.out⟩,by simp only[intOf];omega⟩
   all_goals
    rw[hp,if_neg (by simp),List.append_nil]at uP
    have HI:=Lib.hid (uP▸hst)
    clear hst
    simp only[decide_eq_true_eq,decide_eq_false_iff_not]at*
    go_wp2_with fail
    exact⟨⟨j+1,by go_num,by omega,hqr,HI.out⟩,by simp only[intOf];omega⟩
  ·obtain rfl:j=nl:=by omega
   have uO:¬((j:Int)<(j:Int)):=by omega
   have HF:Hid (aeb (iZ xs) w (.returned (.map (some g))) wr):=Lib.hid ⟨g,rfl,by rw[<-hnl,List.take_length]at hst;exact hst,hqr⟩
   clear hst
   go_wp2_with fail
   go_ret
   exact HF.out
theorem aoR(ps:List Int)(c:ay)(g:Nat):wY ps c g=((eP c g).isSome&&iR ps ((eP c g).getD gK).pub):=by
 unfold wY
 cases eP c g<;>rfl
theorem Yf{α:Type}(p:α->Bool)(l:List α)(j:Nat)(h:j<l.length):(l.take (j+1)).any p=((l.take j).any p||p l[j]):=by
 rw[List.take_succ_eq_append_getElem h,List.any_append]
 simp
theorem Yg{α:Type}(p:α->Bool)(l:List α)(j:Nat)(h:j<l.length)(hp:p l[j]=true):l.any p=true:=List.any_eq_true.2 ⟨l[j],List.getElem_mem h,hp⟩
theorem DT(x:bQ):x.cells.toArray.all (·.oneCell')=true:=by simp[bQ.cells,Value.oneCell']
def o7:bQ:=⟨0,0,bK,bK,bK⟩
theorem aef(c:ay)(g:Nat)(ps:List Int)(i:Int)(w:World)(hI:gX w c)(hM:tZ w g ps):Calls Tryz.prog 42 #[.agg (aF c), .map (some g), .int .i64 i] w fun e w'=>e= .returned (.bool (jA ps c i))/\Q w w':=by
 obtain⟨w1,x,hx,hq1,hbk⟩:=boxedB w 41 c.cells
 have hx:w.alloc (.cells (aF c) 41)=x.w:=hx
 have cZ:=dX (P:=Tryz.prog) (aF c) hbk Tryz.underlying41
 have c1:=aB (.slice c.aA c.acts.length c.aC) hbk 1
 have hmx:maxLen=9223372036854775807:=by decide
 have hal:=hI.aC
 have jQ:=hI.acts.q hq1
 have hIn:=fun y:Wd w1=>hI.q (Q.trans hq1 y.q)
 have Ur:=fun y:Wd w1=>hM.q (Q.trans hq1 y.q)
 have HQ:=Lib.hid hq1
 have hlt1:=hbk.lt
 clear hbk hq1 hI hM
 by_cases hneg:i<0
 ·have HR:Hid (jA ps c i=false):=Lib.hid (by unfold jA uf;rw[if_pos (by simpa using hneg)])
  clear cZ jQ hIn Ur
  go_enter Tryz.func42,Tryz.ntmps42
  go_wp2_with fail
  go_ret
  exact⟨by rw[HR.out];rfl,Q.trans HQ.out x.q⟩
 by_cases hge:(c.acts.length:Int)<=i
 ·have HR:Hid (jA ps c i=false):=Lib.hid (by unfold jA uf;rw[if_neg (by simpa using hneg),List.getElem?_eq_none (by omega)])
  clear cZ jQ hIn Ur
  go_enter Tryz.func42,Tryz.ntmps42
  go_wp2_with fail
  go_ret
  exact⟨by rw[HR.out];rfl,Q.trans HQ.out x.q⟩
 obtain⟨m,rfl⟩:∃m:Nat,i=(m:Int):=⟨i.toNat,by omega⟩
 have hmL:m<c.acts.length:=by omega
 have HR:=Lib.hid (show jA ps c m=Bz ps c m c.acts[m] by
  unfold jA uf
  rw[if_neg (by simp),Int.toNat_natCast,List.getElem?_eq_getElem hmL])
 obtain⟨b,o,eA,hb0,hcs⟩:=jQ (by omega)
 have hld:=Wd.load (P:=Tryz.prog) (ty:=37) hb0 (hcs m hmL) Tryz.underlying37 rfl (by kernel_rfl)
 rw[eA]at c1
 obtain⟨nl,hnl⟩:∃nl,c.acts.length=nl:=⟨_,rfl⟩
 rw[hnl]at c1 hal hge
 have hmN:m<nl:=by omega
 have hm0:(0:Int)<=(m:Int):=by omega
 obtain⟨a,ha⟩:∃a,c.acts[m]=a:=⟨_,rfl⟩
 rw[ha]at hld HR
 clear eA
 go_enter Tryz.func42,Tryz.ntmps42
 go_upto_region 4 with(first|(refine kR 38 37 (.tmp 24) (.tmp 25) b o nl c.aC m 20 rfl rfl rfl rfl Tryz.underlying38 (by kernel_rfl) Tryz.sizeOf37 hmN ?_)|(refine aI (.tmp 26) (hld _) ?_)|(refine fM (ah.new x.w 37 aH.cells.toArray) rfl 37 (.tmp 7) (.tmp 27) a.cells rfl rfl rfl (by kernel_rfl) (dL _) (Nat.le_refl 20) ?_))
 intro W hW hbel
 rw[bC _ _ (by rfl)]at hW
 have aJ:Q w1 W:=hbel _ _ x.q.size (Q.trans x.q (aO _ _ _))
 have k3:=aB (.int .i64 a.kind) hW 3
 have k7:=aB (.int .i64 a.scope) hW 7
 have k8:=aB (.string a.group) hW 8
 have k14:=aB (.int .i64 a.epoch) hW 14
 have Pg:∀y:Wd W,(Instr.loadAt 41 (.pointer (some ⟨w.heap.size,0,none⟩))).run Tryz.prog y.w= .ok (.agg (aF c)) y.w:=fun y=>cZ ⟨y.w,Q.trans aJ y.q⟩
 have c1':∀y:Wd W,y.w.cell? ⟨w.heap.size,1,none⟩=some (.slice (some ⟨b,o,none⟩) nl c.aC):=fun y=>c1 ⟨y.w,Q.trans aJ y.q⟩
 have Fe:∀y:Wd W,gX y.w c:=fun y=>hIn ⟨y.w,Q.trans aJ y.q⟩
 have L6:∀y:Wd W,tZ y.w g ps:=fun y=>Ur ⟨y.w,Q.trans aJ y.q⟩
 have bf:=fun y:Wd W=>iE a.kind y.w
 have iK:=fun y:Wd W=>Jt c m a.scope a.group y.w (Fe y)
 have uQ:∀j (h:j<c.acts.length) (y:Wd W) n v,c.acts[j].cells[n]?=some v->y.w.cell? ⟨b,o+j*20+n,none⟩=some v:=fun j h y n v hv=>Wd.get hb0 (hcs j h) n hv ⟨y.w,Q.trans aJ y.q⟩
 have uh:=Lib.hid (Q.trans HQ.out aJ)
 have hgW:=hW.lt
 clear hbel hW cZ c1 hIn Ur hld hcs jQ ha
 generalize x.w.heap.size=h at*
 obtain⟨v,hv⟩:=Wd.first W
 rw[hv]
 clear hv
 have iw:Bz ps c m a=(nT a.kind&&((a.scope==0)||DR ps c m a)):=rfl
 have hTx:nT a.kind=(jh a.kind||(a.kind==14)):=rfl
 rcases Yb (jh a.kind) (a.kind==14) false with g1|⟨g1,g2⟩|⟨g1,g2,g3⟩|⟨g1,g2,-⟩
 rotate_left 2
 ·cases g3
 ·have HF:Hid (jA ps c m=false):=Lib.hid (by rw[HR.out,iw,hTx,g1,g2];rfl)
  rw[g1]at bf
  have g2':(a.kind !=14)=true:=by rw[bne,g2];rfl
  clear iK iw hTx uQ Fe L6
  go_wp2_with (go_at_call 48;refine(bf _).mono ?_;rintro e w' ⟨rfl,hq2⟩;obtain⟨y,rfl⟩:=Wd.next _ hq2;clear hq2)
  go_ret
  exact⟨by rw[HF.out];rfl,Q.trans uh.out y.q⟩
 all_goals
  have Us:nT a.kind=true:=by rw[hTx];simp[*]
  rw[g1]at bf
  try have g2':(a.kind !=14)=false:=by rw[bne,g2];rfl
  cases hsc:(a.scope==0)
  rotate_left 1
  ·have HF:Hid (jA ps c m=true):=Lib.hid (by rw[HR.out,iw,Us,hsc];rfl)
   clear iK iw hTx uQ Fe L6 Us
   go_wp2_with (go_at_call 48;refine(bf _).mono ?_;rintro e w' ⟨rfl,hq2⟩;obtain⟨y,rfl⟩:=Wd.next _ hq2;clear hq2)
   go_ret
   exact⟨by rw[HF.out];rfl,Q.trans uh.out y.q⟩
  have hgl:=O8 a.scope a.group c.acts (fH c m)
  have hlm:fH c m=m:=by unfold fH;omega
  have hgk:bZ c m a.scope a.group=((gG a.scope a.group c.acts (fH c m)).1,decide (0<(gG a.scope a.group c.acts (fH c m)).2)):=rfl
  have hsk:DR ps c m a=((bZ c m a.scope a.group).2&&match c.acts[(bZ c m a.scope a.group).1]? with
   |some ga=>(ga.epoch==a.epoch)&&(wY ps c (bZ c m a.scope a.group).1||yS ps ga)
   |none=>false):=rfl
  rw[hgk]at hsk iK
  rw[hlm]at hgl hsk iK
  generalize (gG a.scope a.group c.acts m).1=gi at*
  generalize (gG a.scope a.group c.acts m).2=nx at*
  dsimp only at hsk iK
  have Fg:Hid (jA ps c m=DR ps c m a):=Lib.hid (by rw[HR.out,iw,Us,hsc];rfl)
  clear iw hTx Us HR hgk hlm
  go_upto_region 9 with(first|(go_at_call 48;refine(bf _).mono ?_;rintro e w' ⟨rfl,hq2⟩;obtain⟨y,rfl⟩:=Wd.next _ hq2;clear hq2)|(refine aI (.tmp 3) (Pg _) ?_)|(go_at_call 45;refine(iK _).mono ?_;rintro e w' ⟨rfl,hq2⟩;obtain⟨y2,rfl⟩:=Wd.next _ hq2;clear hq2))
  clear bf iK
  cases hnx:decide (0<nx)
  ·rw[hnx,Bool.false_and]at hsk
   rw[hsk]at Fg
   clear uQ Fe L6 Pg
   refine kJ y2 (by kernel_rfl) (by kernel_rfl) ?_
   repeat(go_big_quiet_step (fail))
   refine wpQuiet_nil ?_
   rintro w'' ⟨y3,rfl⟩
   go_wp2_with fail
   go_ret
   exact⟨by rw[Fg.out];rfl,Q.trans uh.out y3.q⟩
  rw[hnx,Bool.true_and]at hsk
  have hgi:gi<m:=hgl.2.2 (of_decide_eq_true hnx)
  have Ut:gi<c.acts.length:=by omega
  have axC:gi<nl:=by omega
  have axD:(0:Int)<=(gi:Int):=by omega
  rw[List.getElem?_eq_getElem Ut]at hsk
  dsimp only at hsk
  obtain⟨ga,hga⟩:∃ga,c.acts[gi]=ga:=⟨_,rfl⟩
  have e14:∀y:Wd W,y.w.cell? ⟨b,o+gi*20+14,none⟩=some (.int .i64 ga.epoch):=fun y=>uQ gi Ut y 14 _ (by rw[hga];rfl)
  have e15:∀y:Wd W,y.w.cell? ⟨b,o+gi*20+15,none⟩=some (.slice ga.gy ga.wraps.length ga.dF):=fun y=>uQ gi Ut y 15 _ (by rw[hga];rfl)
  have hgm:ga∈c.acts:=hga▸List.getElem_mem Ut
  have iU:∀y:Wd W,tX y.w ga.gy ga.wraps:=fun y=>((Fe y).each ga hgm).wraps
  have hwc:=((Fe v).each ga hgm).dF
  rw[hga]at hsk
  clear hga hgm uQ hgl
  have hgI:(gi:Int)<(nl:Int):=by omega
  cases sH:(ga.epoch==a.epoch)
  ·rw[sH,Bool.false_and]at hsk
   rw[hsk]at Fg
   have Uu:(ga.epoch !=a.epoch)=true:=by rw[bne,sH];rfl
   clear Fe L6 Pg iU e15
   refine kJ y2 (by kernel_rfl) (by kernel_rfl) ?_
   repeat(go_big_quiet_step (fail))
   refine wpQuiet_nil ?_
   rintro w'' ⟨y3,rfl⟩
   go_wp2_with fail
   go_ret
   exact⟨by rw[Fg.out];rfl,Q.trans uh.out y3.q⟩
  have Uu:(ga.epoch !=a.epoch)=false:=by rw[bne,sH];rfl
  rw[sH,Bool.true_and,aoR]at hsk
  have gq:=fun y:Wd W=>O9 c gi y.w (Fe y)
  unfold BD at gq
  generalize (eP c gi).isSome=bb at*
  generalize (eP c gi).getD gK=kk at*
  refine kJ y2 (by kernel_rfl) (by kernel_rfl) ?_
  repeat(go_big_quiet_step (fail))
  refine wpQuiet_nil ?_
  rintro w'' ⟨y3,rfl⟩
  go_upto_region 12 with(first|(refine aI (.tmp 3) (Pg _) ?_)|(go_at_call 55;refine(gq _).mono ?_;rintro e w' ⟨rfl,hq2⟩;obtain⟨y4,rfl⟩:=Wd.next _ hq2;clear hq2)|(refine fM (ah.new y4.w 111 gK.cells.toArray) rfl 111 (.tmp 10) (.tmp 67) kk.cells rfl rfl rfl (by kernel_rfl) (vP _) (Nat.le_refl 3) ?_))
  intro W3 hW3 kQ
  rw[bC _ _ (by rfl)]at hW3
  have L8:Q W W3:=kQ _ _ y4.q.size (Q.trans y4.q (aO _ _ _))
  have p1:=aB (.int .i64 kk.pub) hW3 1
  have c13:∀y:Wd W3,y.w.cell? ⟨w.heap.size,1,none⟩=some (.slice (some ⟨b,o,none⟩) nl c.aC):=fun y=>c1' ⟨y.w,Q.trans L8 y.q⟩
  have e153:∀y:Wd W3,y.w.cell? ⟨b,o+gi*20+15,none⟩=some (.slice ga.gy ga.wraps.length ga.dF):=fun y=>e15 ⟨y.w,Q.trans L8 y.q⟩
  have hlk:∀(n:Int) (y:Wd W3),(Instr.lookup 97 (.map (some g)) (.int .i64 n) false).run Tryz.prog y.w= .ok (.bool (iR ps n)) y.w:=fun n y=>(L6 ⟨y.w,Q.trans L8 y.q⟩).lookup Tryz.underlying97 Tryz.underlying3 aec n
  have Uw:tX W3 ga.gy ga.wraps:=iU ⟨W3,L8⟩
  have E8:=Lib.hid (Q.trans uh.out L8)
  clear kQ hW3 L6 Pg c1' Fe iU e15 e14 gq L8 k3 k7 k8 k14
  generalize y4.w.heap.size=hk at*
  obtain⟨v3,hv3⟩:=Wd.first W3
  rw[hv3]
  clear hv3
  have hl1:=hlk kk.pub
  rcases(show(bb=true/\iR ps kk.pub=true)∨(bb=true/\iR ps kk.pub=false)∨bb=false by cases bb<;>cases iR ps kk.pub<;>simp)with⟨rfl,hmp⟩|⟨rfl,hmp⟩|rfl
  ·rw[hmp,Bool.true_and,Bool.true_or]at hsk
   rw[hsk]at Fg
   rw[hmp]at hl1
   clear hlk Uw e153
   go_wp2_with fail
   go_ret
   exact⟨by rw[Fg.out];rfl,Q.trans E8.out v3.q⟩
  all_goals
   try rw[hmp]at hsk hl1
   simp only[Bool.true_and,Bool.false_and,Bool.false_or]at hsk
   rw[hsk]at Fg
   clear hsk
   generalize ga.gy=WA at*
   go_wp2_with fail
   have HWB:=Lib.hid (show yS ps ga=ga.wraps.any (fun x=>iR ps x.to)from rfl)
   obtain⟨nw,hnw⟩:∃nw,ga.wraps.length=nw:=⟨_,rfl⟩
   rw[hnw]at hwc⊢
   clear hl1 e153 p1 c13
   go_loopw [83] (fun i wr=>∃(j:Nat) (z:Wd W3),i= .int .i64 j/\wr=z.w/\j<=nw/\Hid ((ga.wraps.take j).any (fun x=>iR ps x.to)=false)) (fun i _=>nw-(intOf i).toNat)
   case atStart=>exact⟨0,v3,rfl,rfl,Nat.zero_le _,Lib.hid rfl⟩
   case round=>
    obtain⟨j,z,rfl,rfl,hj,hno⟩:=hrel
    by_cases hlt:j<nw
    ·have dM:j<ga.wraps.length:=by omega
     have pX:(j:Int)<(nw:Int):=by omega
     obtain⟨b3,o3,rfl,hb3,hcs3⟩:=Uw (by omega)
     have hld:=Wd.load (P:=Tryz.prog) (ty:=115) hb3 (hcs3 j dM) Tryz.underlying115 rfl (by kernel_rfl) z
     have hst:=Yf (fun x:bQ=>iR ps x.to) ga.wraps j dM
     have hhit:=Yg (fun x:bQ=>iR ps x.to) ga.wraps j dM
     rw[hno.out,Bool.false_or]at hst
     clear hcs3 Uw
     generalize ga.wraps[j]=x5 at*
     go_wp2_with (first|(refine kR 33 115 (.tmp 81) (.tmp 83) b3 o3 nw ga.dF j 5 rfl rfl rfl rfl Tryz.underlying33 (by kernel_rfl) Tryz.sizeOf115 hlt ?_)|(refine aI (.tmp 85) hld ?_)|(refine fM (ah.new z.w 115 o7.cells.toArray) rfl 115 (.tmp 13) (.tmp 86) x5.cells rfl rfl rfl (by kernel_rfl) (DT _) (Nat.le_refl 5) ?_))
     intro W5 mV G6
     rw[bC _ _ (by rfl)]at mV
     have hq5:Q W3 W5:=Q.trans z.q (G6 _ _ (Nat.le_refl _) (aO _ _ _))
     have w0:W5.cell? ⟨z.w.heap.size,0,none⟩=some (.int .i64 x5.to):=mV.cell 0
     have hl5:=hlk x5.to ⟨W5,hq5⟩
     clear G6 mV hld
     cases o8:iR ps x5.to
     ·rw[o8]at hl5 hst
      have HS:=Lib.hid hst
      clear hst hhit hno
      go_wp2_with fail
      exact⟨⟨j+1,⟨W5,hq5⟩,by go_num,rfl,by omega,HS⟩,by simp only[intOf];omega⟩
     ·have HF:Hid (jA ps c m=true):=Lib.hid (by rw[Fg.out,HWB.out];exact hhit o8)
      rw[o8]at hl5
      clear hst hhit hno
      go_wp2_with fail
      go_ret
      exact⟨by rw[HF.out];rfl,Q.trans E8.out hq5⟩
    ·obtain rfl:j=nw:=by omega
     have uO:¬((j:Int)<(j:Int)):=by omega
     have HF:Hid (jA ps c m=false):=Lib.hid (by rw[Fg.out,HWB.out,<-hno.out,<-hnw,List.take_length])
     clear hno hlk Uw
     go_wp2_with fail
     go_ret
     exact⟨by rw[HF.out];rfl,Q.trans E8.out z.q⟩
theorem aei(c:ay)(A:Option Addr)(cx:Nat)(xs:List Int)(i:Int)(w:World)(hI:gX w c)(hX:Ints w A xs)(hx:∀x∈xs,I64 x)(hlm:xs.length<=maxLen):Calls Tryz.prog 13 #[.agg (aF c), .slice A xs.length cx, .int .i64 i] w fun e w'=>e= .returned (.bool (jA (iZ xs) c i))/\Q w w':=by
 obtain⟨w1,x,hx1,hq1,hbk⟩:=boxedB w 41 c.cells
 have hx1:w.alloc (.cells (aF c) 41)=x.w:=hx1
 have cZ:=dX (P:=Tryz.prog) (aF c) hbk Tryz.underlying41
 have BF:=fun y:Wd w1=>Yd A cx xs y.w (hX.q (Q.trans hq1 y.q)) hx hlm
 have hRe:=fun(y:Wd w1) g (hM:tZ y.w g (iZ xs))=>aef c g (iZ xs) i y.w (hI.q (Q.trans hq1 y.q)) hM
 have HQ:=Lib.hid hq1
 clear hbk hq1 hI hX hx hlm
 generalize xs.length=nx at*
 generalize iZ xs=ps at*
 go_enter Tryz.func13,Tryz.ntmps13
 go_upto_region 1 with(fail)
 refine ac4 (fun z=>∃y:Wd w1,z=y.w) (by kernel_rfl) ⟨⟨_,x.q.drew⟩,rfl⟩ ?_
 rintro _ ⟨y1,rfl⟩
 refine am7 0 (v:= .agg (aF c)) rfl (by kernel_rfl) (by kernel_rfl) (by kernel_rfl) (by intro c a d v w h;cases d<;>exact h) rfl ⟨_,rfl⟩ (fun z hz=>ac5 41 (.tmp 3) _ _ rfl rfl (by obtain⟨y,rfl⟩:=hz;exact cZ y)) ?_
 try simp only[Act.put,List.setIfInBounds_toArray,List.set_cons_succ,List.set_cons_zero]
 refine aS 1 (.slice A nx cx) ⟨_,rfl⟩ ?_
 try simp only[Act.put,List.setIfInBounds_toArray,List.set_cons_succ,List.set_cons_zero]
 refine aS 3 (.int .i64 i) ⟨_,rfl⟩ ?_
 try simp only[Act.put,List.setIfInBounds_toArray,List.set_cons_succ,List.set_cons_zero]
 refine aW 2 fun K' hK'=> ?_
 go_simp
 refine(BF y1).mono ?_
 rintro e w' ⟨g,rfl,hM,bD⟩
 obtain⟨y2,rfl⟩:=Wd.next _ bD
 refine hK' _ _ ⟨y2,rfl⟩ ?_
 clear hK' K'
 try simp only[Act.put,List.setIfInBounds_toArray,List.set_cons_succ,List.set_cons_zero]
 refine aW 4 fun K' hK'=> ?_
 go_simp
 refine(hRe y2 g hM).mono ?_
 rintro e w' ⟨rfl,hq8⟩
 obtain⟨y3,rfl⟩:=Wd.next _ hq8
 refine hK' _ _ ⟨y3,rfl⟩ ?_
 clear hK' K'
 try simp only[Act.put,List.setIfInBounds_toArray,List.set_cons_succ,List.set_cons_zero]
 refine aS 5 (.bool (jA ps c i)) ⟨_,rfl⟩ ?_
 try simp only[Act.put,List.setIfInBounds_toArray,List.set_cons_succ,List.set_cons_zero]
 refine wpAnyH_done (by kernel_rfl) ?_ _
 go_wp2_with fail
 go_ret
 exact⟨rfl,Q.trans HQ.out y3.q⟩
end bP
namespace Rel
open Go.RowKit aQ Mem _root_.Go.Proofs.YtbemmjnjoabadaaGreatDoor.Code aY Sign _root_.Go.Proofs.YtbemmjnjoabadaaGreatDoor.Item _root_.Go.Proofs.YtbemmjnjoabadaaGreatDoor.Known
def lit(s:ByteArray):Lit:= .string s.data.toList
structure SSet(w:World)(b k:Nat)(ds:List ByteArray):Prop where
 own:∃D:DataW Unit,w.ownsMap Tryz.prog 9 (plainElem Tryz.prog 4) b k D/\∀s:ByteArray,s.size<=maxLen->(Maps.has D (lit s)=true↔s∈ds)
 small:∀d∈ds,d.size<=maxLen
theorem kS:Maps.Keyed Tryz.prog 9:=Maps.string_keyed Tryz.underlying9
theorem aej{s:ByteArray}(h:s.size<=maxLen):keyOf Tryz.prog 9 (.string s)=some (lit s):=Go.WideMaps.keyOf_string_mk Tryz.underlying9 h
theorem aek{a b:ByteArray}(h:lit a=lit b):a=b:=by
 injection h with h
 exact Ya h
theorem aoS(s:ByteArray):WideAt.IsKeyLit (lit s):=trivial
theorem SSet.lt{w:World}{b k:Nat}{ds:List ByteArray}(h:SSet w b k ds):b<w.heap.size:=by
 obtain⟨D,h1,_⟩:=h.own
 exact h1.lt
theorem SSet.mono{w:World}{b k m:Nat}{ds:List ByteArray}(h:SSet w b k ds)(hm:k<=m):SSet w b m ds:=by
 obtain⟨D,h1,h2⟩:=h.own
 exact⟨⟨D,h1.mono hm,h2⟩,h.small⟩
theorem SSet.kept{w w':World}{row:Option Nat}{b k:Nat}{ds:List ByteArray}(h:SSet w b k ds)(hg:w.grownBy w' row)(hne:some b≠row):SSet w' b k ds:=by
 obtain⟨D,h1,h2⟩:=h.own
 exact⟨⟨D,h1.kept hg hne,h2⟩,h.small⟩
theorem SSet.blk{w w':World}{b k:Nat}{ds:List ByteArray}(h:SSet w b k ds)(hq:w'.heap[b]?=w.heap[b]?):SSet w' b k ds:=by
 obtain⟨D,⟨es,clock,hb,F,hs,hD⟩,h2⟩:=h.own
 exact⟨⟨D,⟨es,clock,hq.trans hb,F,hs,hD⟩,h2⟩,h.small⟩
theorem SSet.q{w w':World}{b k:Nat}{ds:List ByteArray}(h:SSet w b k ds)(hq:Q w w'):SSet w' b k ds:=h.blk (hq.block b h.lt)
theorem SSet.made(w:World):SSet (w.alloc (.map #[] 0)) w.heap.size 0 []:=
 ⟨⟨_,World.ownsMap_made w Tryz.prog 9 (plainElem Tryz.prog 4),fun s _=>by simp[Maps.has]⟩,by simp⟩
theorem SSet.put{w:World}{b k:Nat}{ds:List ByteArray}(h:SSet w b k ds)(hk:k<maxLen)(s:ByteArray)(hs:s.size<=maxLen):
 ∃w',(Instr.mapUpdate 153 (.map (some b)) (.string s) (.bool true)).run Tryz.prog w= .ok () w'/\SSet w' b (k+1) (ds++[s])/\w.grownBy w' (some b):=by
 obtain⟨D,h1,h2⟩:=h.own
 obtain⟨w',hr,ho,ht⟩:=h1.store kS Tryz.underlying153 hk (aej hs) (plainElem_bool Tryz.underlying4 true)
 refine⟨w',hr,⟨⟨_,ho,fun e he=> ?_⟩,fun d hd=> ?_⟩,ht.grown⟩
 ·rw[List.mem_append,List.mem_singleton]
  by_cases hes:e=s
  ·subst hes
   rw[Maps.has_put_same h1.isMap (aoS _)]
   simp
  ·rw[Maps.has_put_other (fun h=>hes (aek h)),h2 e he]
   simp[hes]
 ·rcases List.mem_append.1 hd with hd|hd
  ·exact h.small d hd
  ·rw[List.mem_singleton]at hd
   rw[hd]
   exact hs
def without(s:ByteArray)(ds:List ByteArray):List ByteArray:=ds.filter fun d=> !(d.data.toList==s.data.toList)
theorem Ph(s d:ByteArray)(ds:List ByteArray):d∈without s ds↔d∈ds/\d≠s:=by
 unfold without
 rw[List.mem_filter]
 constructor
 ·rintro⟨h1,h2⟩
  refine⟨h1,fun he=> ?_⟩
  rw[he,beq_self_eq_true]at h2
  cases h2
 ·rintro⟨h1,h2⟩
  refine⟨h1,?_⟩
  cases hb:(d.data.toList==s.data.toList)
  ·rfl
  ·exact absurd (Ya (eq_of_beq hb)) h2
theorem SSet.drop{w:World}{b k:Nat}{ds:List ByteArray}(h:SSet w b k ds)(s:ByteArray)(hs:s.size<=maxLen)(ty:TypeId):
 ∃w',(Builtin.delete_ #[153,9] ty #[.map (some b), .string s]).run Tryz.prog w= .ok (.tuple #[]) w'/\SSet w' b k (without s ds)/\w.grownBy w' (some b):=by
 obtain⟨D,h1,h2⟩:=h.own
 obtain⟨w',hr,ho,ht⟩:=h1.drop kS Tryz.underlying153 (aej hs) ty
 refine⟨w',hr,⟨⟨_,ho,fun e he=> ?_⟩,fun d hd=>h.small d ((Ph s d ds).1 hd).1⟩,ht.grown⟩
 rw[Ph]
 by_cases hes:e=s
 ·subst hes
  rw[Maps.has_del_same]
  simp
 ·rw[Maps.has_del_other (fun h=>hes (aek h)),h2 e he]
  simp[hes]
theorem SSet.keys{w:World}{b k:Nat}{D:DataW Unit}(h1:w.ownsMap Tryz.prog 9 (plainElem Tryz.prog 4) b k D):(strKeys D).Nodup/\∀x,x∈strKeys D↔Maps.has D (.string x)=true:=by
 obtain⟨es,rfl,hp⟩:=h1.tidy kS
 obtain⟨es',he,hk'⟩:=h1.keysOf
 injection he with he
 subst he
 have hk:∀p∈es,∃x,p.1= .string x:=fun p hp'=>by
  obtain⟨key,hkey⟩:=hk' p hp'
  obtain⟨x,_,h2,_⟩:=Maps.keyOf_str Tryz.underlying9 hkey
  exact⟨x,h2⟩
 have hn:(es.map fun p=>strOf p.1).Nodup:=by
  refine List.pairwise_map.2 (hp.imp_of_mem fun{p q} hp' hq' hne e=>hne ?_)
  obtain⟨a,ha⟩:=hk p hp'
  obtain⟨b,hb⟩:=hk q hq'
  rw[ha,hb]at e⊢
  exact congrArg _ e
 refine⟨hn,fun x=> ?_⟩
 show x∈es.map (fun p=>strOf p.1)↔_
 rw[Maps.has_eq,List.any_eq_true,List.mem_map]
 constructor
 ·rintro⟨p,hp',rfl⟩
  obtain⟨a,ha⟩:=hk p hp'
  refine⟨p,hp',?_⟩
  rw[ha]
  exact WideAt.sameKey_self trivial
 ·rintro⟨p,hp',h⟩
  refine⟨p,hp',?_⟩
  rw[WideAt.sameKey_eq h]
  rfl
theorem SSet.sorted{w:World}{b k:Nat}{ds:List ByteArray}{D:DataW Unit}(h1:w.ownsMap Tryz.prog 9 (plainElem Tryz.prog 4) b k D)(h2:∀s:ByteArray,s.size<=maxLen->(Maps.has D (lit s)=true↔s∈ds))(h3:∀d∈ds,d.size<=maxLen){ss:List (List UInt8)}(hs:ss.Perm (strKeys D)):
 (ss.mergeSort fun x y=>decide (x<=y)).map uN=jl ds:=by
 obtain⟨hn,hm⟩:=SSet.keys h1
 refine aoF ds (hs.nodup_iff.2 hn) fun d=> ?_
 rw[hs.mem_iff,hm]
 constructor
 ·intro h
  have hsz:d.size<=maxLen:=by
   have:=strKeys_le h1 Tryz.underlying9 (toB d) ((hm (toB d)).2 h)
   rwa[toB,Array.length_toList]at this
  exact(h2 d hsz).1 h
 ·intro h
  exact(h2 d (h3 d h)).2 h
theorem aoT{w w':World}{b B:Nat}(hg:w.grownBy w' (some b))(hB:B<=b)(hs:B<=w.heap.size):Below B w w':=Below.grown (Below.refl B w) hg hs fun g hg2=>by cases hg2;exact hB
theorem add_any(b k:Nat)(ds:List ByteArray)(s:ByteArray)(w:World)(h:SSet w b k ds)(hk:k<maxLen)(hs:s.size<=maxLen):
 Calls Tryz.prog 132 #[.map (some b), .string s] w fun e w'=>e= .returned (.tuple #[])/\SSet w' b (k+1) (ds++[s])/\w.grownBy w' (some b):=by
 obtain⟨w1,hr,h1,h2⟩:=h.put hk s hs
 go_enter Tryz.func132,Tryz.ntmps132
 go_wp2_with (refine ad8 153 (.tmp 4) (.tmp 5) (.const (.bool true)) (.map (some b)) (.string s) (.bool true) rfl rfl rfl rfl rfl hr ?_)
 go_end0
 exact⟨rfl,h1,h2⟩
theorem aoU{P:Program}{ops:Array Oper}{rest:List Oper}{o:Oper}{a:Act}{w w':World}{K:Exit->Act->World->Prop}(t kt:TypeId)(m x:Operand)(M N:Value)(hg:o.guard=none)(hop:o.op=Op.call {callee:=Callee.builtin Builtin.delete,args:= #[m,x],argTypes:= #[t,kt]})(hm:a.eval m=M)(hx:a.eval x=N)(hr:(Builtin.delete_ #[t,kt] o.type #[M,N]).run P w= .ok (.tuple #[]) w')(h:wpList P ops K rest (a.put o.dst (.tuple #[])) w'):wpList P ops K (o::rest) a w:=by
 refine wpList_plain hg fun K' hK'=> ?_
 unfold Oper.wp
 simp[execOp,hop,resolve,invoke,builtin,hm,hx,hr,Result.andThen]
 exact hK' _ _ h
theorem ael(b k:Nat)(ds:List ByteArray)(s:ByteArray)(w:World)(h:SSet w b k ds)(hs:s.size<=maxLen):
 Calls Tryz.prog 133 #[.map (some b), .string s] w fun e w'=>e= .returned (.tuple #[])/\SSet w' b k (without s ds)/\w.grownBy w' (some b):=by
 obtain⟨w1,hr,h1,h2⟩:=h.drop s hs 0
 go_enter Tryz.func133,Tryz.ntmps133
 go_wp2_with (refine aoU 153 9 (.tmp 4) (.tmp 5) (.map (some b)) (.string s) rfl rfl rfl rfl hr ?_)
 go_end0
 exact⟨rfl,h1,h2⟩
theorem aoV(l:List (List UInt8)):l.map encStr=(l.map uN).flatMap dP:=by
 rw[ad1,List.map_map]
 refine List.map_congr_left fun x _=> ?_
 simp[encStr,uN]
theorem Ux(b k:Nat)(ds:List ByteArray)(w:World)(h:SSet w b k ds)(hk:k<=100000):Calls Tryz.prog 88 #[.map (some b)] w (yR (jl ds) w):=by
 obtain⟨D,h1,h2⟩:=h.own
 have h3:=h.small
 have hsz:=h1.size_le
 have hmx:maxLen=9223372036854775807:=by decide
 refine(callsIn_wide (n:=6)).1 ?_
 have hfK:Fence.wide.fn 136:=trivial
 have hfS:Fence.wide.fn 135:=trivial
 refine callsIn_of_wp Tryz.func88 rfl trivial ?_ rfl
 simp only[Tryz.ntmps88,List.size_toArray,List.length_cons,List.length_nil,Nat.reduceAdd,Nat.reduceSub,Array.replicate_succ,Array.replicate_zero,List.push_toArray,List.append_toArray,List.nil_append,List.cons_append]
 gi_wp2_with (first
  |(gi_at_call 136;refine(Tryz.maps_KeysR _ _).mono ?_;rintro e w' ⟨rfl,rfl⟩)
  |(gi_at_call 135;refine(Tryz.slices_SortedR b k D (plainElem Tryz.prog 4) w h1 (by omega) (by omega)).mono ?_;rintro e w' ⟨v,ss,rfl,hS,hrow,hnil,hb⟩))
 go_ret
 have hL:=SSet.sorted h1 h2 h3 hS
 have hown:=aV.of hrow
 obtain⟨A,cap,rfl,hc1,hc2⟩:=hown.shape
 have hlen:ss.length=(jl ds).length:=by rw[<-hL,List.length_map,List.length_mergeSort]
 rw[aoV,hL,hlen]at hown
 rw[hlen]at hc1
 refine⟨A,cap,by rw[hlen];rfl,hc1,hc2,dI.low (xU kZ hown rfl) (by simp),?_⟩
 exact((Below.refl _ w).alloc (Nat.le_refl _) _).trans (hb.mono (by simp))
end Rel
namespace bP
open Go.RowKit aQ Mem _root_.Go.Proofs.YtbemmjnjoabadaaGreatDoor.Code aY Sign _root_.Go.Proofs.YtbemmjnjoabadaaGreatDoor.Item _root_.Go.Proofs.YtbemmjnjoabadaaGreatDoor.Known
def hasB(s:ByteArray)(l:List ByteArray):Bool:=l.any fun x=>x.toList==s.toList
theorem axH(A:Option Addr)(c:Nat)(l:List ByteArray)(s:ByteArray)(w:World)(hS:Strs w A l)(hlm:l.length<=maxLen):Calls Tryz.prog 10 #[.slice A l.length c, .string s] w fun e w'=>e= .returned (.bool (hasB s l))/\Q w w':=by
 have hmx:maxLen=9223372036854775807:=by decide
 have HR:=Lib.hid (show hasB s l=l.any (fun x=>x.toList==s.toList)from rfl)
 obtain⟨nl,hnl⟩:∃nl,l.length=nl:=⟨_,rfl⟩
 rw[hnl]at hlm⊢
 obtain⟨v0,hv0⟩:=Wd.first w
 refine(show Calls Tryz.prog 10 #[.slice A nl c, .string s] v0.w _->_ from fun h=>by rwa[<-hv0]at h) ?_
 clear hv0
 go_enter Tryz.func10,Tryz.ntmps10
 go_wp2_with fail
 go_loopw [5] (fun i wr=>∃(j:Nat) (z:Wd w),i= .int .i64 j/\wr=z.w/\j<=nl/\Hid ((l.take j).any (fun x=>x.toList==s.toList)=false)) (fun i _=>nl-(intOf i).toNat)
 case atStart=>exact⟨0,v0,rfl,rfl,Nat.zero_le _,Lib.hid rfl⟩
 case round=>
  obtain⟨j,z,rfl,rfl,hj,hno⟩:=hrel
  by_cases hlt:j<nl
  ·have dM:j<l.length:=by omega
   have pX:(j:Int)<(nl:Int):=by omega
   have hpos:(0:Int)<=(j:Int):=by omega
   obtain⟨b,o,rfl,hb0,hcs⟩:=hS (by omega)
   have cx:z.w.cell? ⟨b,o+j,none⟩=some (.string l[j]):=(z.q.cell (p:=⟨b,o+j,none⟩) hb0).trans (hcs j dM)
   have hst:=Yf (fun x:ByteArray=>x.toList==s.toList) l j dM
   have hhit:=Yg (fun x:ByteArray=>x.toList==s.toList) l j dM
   rw[hno.out,Bool.false_or]at hst
   clear hcs hS
   generalize l[j]=x5 at*
   cases o8:(x5.toList==s.toList)
   ·rw[o8]at hst
    have HS:=Lib.hid hst
    clear hst hhit hno
    go_wp2_with fail
    exact⟨⟨j+1,z,by go_num,rfl,by omega,HS⟩,by simp only[intOf];omega⟩
   ·have HT:=Lib.hid (HR.out.trans (hhit o8))
    clear hst hhit hno
    go_wp2_with fail
    go_ret
    exact⟨by rw[HT.out];rfl,z.q⟩
  ·obtain rfl:j=nl:=by omega
   have uO:¬((j:Int)<(j:Int)):=by omega
   have yV:=hno.out
   rw[<-hnl,List.take_length]at yV
   have HT:=Lib.hid (HR.out.trans yV)
   clear hno yV
   go_wp2_with fail
   go_ret
   exact⟨by rw[HT.out];rfl,z.q⟩
structure JL(w:World)(A:Option Addr)(cs:List ay):Prop where
 rows:dS w A 6 ay.cells cs
 each:∀c∈cs,gX w c
theorem JL.q{w w':World}{A:Option Addr}{cs:List ay}(h:JL w A cs)(hq:Q w w'):JL w' A cs:=⟨h.rows.q hq,fun c hc=>(h.each c hc).q hq⟩
def Hf(c:ay):Bool:=decide (14<(c.acts.length:Int))
def aeU(cs:List ay)(n:Nat):Bool:= !(cs.any Hf)&&(decide ((cs.length:Int)<=4)&&decide ((n:Int)<=5))
theorem axI(A A2:Option Addr)(c c2 n:Nat)(l:List ay)(w:World)(hS:JL w A l)(hlm:l.length<=maxLen)(hn:n<=maxLen):Calls Tryz.prog 14 #[.slice A l.length c, .slice A2 n c2] w fun e w'=>e= .returned (.bool (aeU l n))/\Q w w':=by
 have hmx:maxLen=9223372036854775807:=by decide
 have HR:=Lib.hid (show aeU l n=(!(l.any Hf)&&(decide ((l.length:Int)<=4)&&decide ((n:Int)<=5)))from rfl)
 obtain⟨nl,hnl⟩:∃nl,l.length=nl:=⟨_,rfl⟩
 rw[hnl]at hlm HR⊢
 obtain⟨v0,hv0⟩:=Wd.first w
 refine(show Calls Tryz.prog 14 #[.slice A nl c, .slice A2 n c2] v0.w _->_ from fun h=>by rwa[<-hv0]at h) ?_
 clear hv0
 have hrow:=hS.rows
 have YH:=fun c hc=>(hS.each c hc).aC
 clear hS
 go_enter Tryz.func14,Tryz.ntmps14
 go_wp2_with fail
 go_loopw [5] (fun i wr=>∃(j:Nat) (z:Wd w),i= .int .i64 j/\wr=z.w/\j<=nl/\Hid ((l.take j).any Hf=false)) (fun i _=>nl-(intOf i).toNat)
 case atStart=>exact⟨0,v0,rfl,rfl,Nat.zero_le _,Lib.hid rfl⟩
 case round=>
  obtain⟨j,z,rfl,rfl,hj,hno⟩:=hrel
  by_cases hlt:j<nl
  ·have dM:j<l.length:=by omega
   have pX:(j:Int)<(nl:Int):=by omega
   have hpos:(0:Int)<=(j:Int):=by omega
   obtain⟨b,o,rfl,hb0,hcs⟩:=hrow (by omega)
   have cx:z.w.cell? ⟨b,o+j*6+1,none⟩=some (.slice l[j].aA l[j].acts.length l[j].aC):=Wd.get hb0 (hcs j dM) 1 rfl z
   have hb:=YH _ (List.getElem_mem dM)
   have hst:=Yf Hf l j dM
   have hhit:=Yg Hf l j dM
   rw[hno.out,Bool.false_or]at hst
   clear hcs hrow YH
   generalize l[j]=x5 at*
   have hlx:Hf x5=decide (14<(x5.acts.length:Int)):=rfl
   generalize x5.acts.length=na at*
   cases o8:Hf x5
   ·have HS:=Lib.hid (hst.trans o8)
    rw[o8]at hlx
    have apJ:¬(14<(na:Int)):=by simpa using hlx.symm
    clear hst hhit hno hlx o8
    go_wp2_with (refine kR 24 41 (.tmp 12) (.tmp 13) b o nl c j 6 rfl rfl rfl rfl Tryz.underlying24 (by kernel_rfl) Tryz.sizeOf41 hlt ?_)
    exact⟨⟨j+1,z,by go_num,rfl,by omega,HS⟩,by simp only[intOf];omega⟩
   ·have HT:=Lib.hid (HR.out.trans (by rw[hhit o8];rfl:(!(l.any Hf)&&(decide ((nl:Int)<=4)&&decide ((n:Int)<=5)))=false))
    rw[o8]at hlx
    have apJ:14<(na:Int):=of_decide_eq_true hlx.symm
    clear hst hhit hno hlx o8
    go_wp2_with (refine kR 24 41 (.tmp 12) (.tmp 13) b o nl c j 6 rfl rfl rfl rfl Tryz.underlying24 (by kernel_rfl) Tryz.sizeOf41 hlt ?_)
    go_ret
    exact⟨by rw[HT.out];rfl,z.q⟩
  ·obtain rfl:j=nl:=by omega
   have uO:¬((j:Int)<(j:Int)):=by omega
   have yV:=hno.out
   rw[<-hnl,List.take_length]at yV
   rw[yV,Bool.not_false,Bool.true_and]at HR
   clear hno yV hrow YH
   rcases(show decide ((j:Int)<=4)=false∨(decide ((j:Int)<=4)=true/\decide ((n:Int)<=5)=false)∨(decide ((j:Int)<=4)=true/\decide ((n:Int)<=5)=true) by cases decide ((j:Int)<=4)<;>cases decide ((n:Int)<=5)<;>simp)with h1|⟨h1,h2⟩|⟨h1,h2⟩
   all_goals
    rw[h1]at HR
    try rw[h2]at HR
    simp only[decide_eq_true_eq,decide_eq_false_iff_not]at h1
    try simp only[decide_eq_true_eq,decide_eq_false_iff_not]at h2
    go_wp2_with fail
    go_ret
    exact⟨by rw[HR.out];rfl,z.q⟩
theorem aw2{α:Type}(p:α->Bool)(l:List α)(j:Nat)(h:j<l.length):(l.take (j+1)).countP p=(l.take j).countP p+if p l[j]then 1 else 0:=by
 rw[List.take_succ_eq_append_getElem h,List.countP_append,List.countP_singleton]
theorem ajU(c:ay)(A:Option Addr)(cx:Nat)(xs:List Int)(i:Int)(w:World)(hI:gX w c)(hX:Ints w A xs)(hx:∀x∈xs,I64 x)(hlm:xs.length<=maxLen):Calls Tryz.prog 19 #[.agg (aF c), .slice A xs.length cx, .int .i64 i] w fun e w'=>e= .returned (.bool (ug (iZ xs) c i))/\Q w w':=by
 obtain⟨w1,x,hx1,hq1,hbk⟩:=boxedB w 41 c.cells
 have hx1:w.alloc (.cells (aF c) 41)=x.w:=hx1
 have c1:=aB (.slice c.aA c.acts.length c.aC) hbk 1
 have hmx:maxLen=9223372036854775807:=by decide
 have hal:=hI.aC
 have jQ:=hI.acts.q hq1
 have hIn:=fun y:Wd w1=>hI.q (Q.trans hq1 y.q)
 have BF:=fun y:Wd w1=>Yd A cx xs y.w (hX.q (Q.trans hq1 y.q)) hx hlm
 have HQ:=Lib.hid hq1
 have hlt1:=hbk.lt
 clear hbk hq1 hI hX hx hlm
 generalize xs.length=nx at*
 generalize iZ xs=ps at*
 by_cases hneg:i<0
 ·have HR:Hid (ug ps c i=false):=Lib.hid (by unfold ug uf;rw[if_pos (by simpa using hneg)])
  clear jQ hIn BF
  go_enter Tryz.func19,Tryz.ntmps19
  go_wp2_with fail
  go_ret
  exact⟨by rw[HR.out];rfl,Q.trans HQ.out x.q⟩
 by_cases hge:(c.acts.length:Int)<=i
 ·have HR:Hid (ug ps c i=false):=Lib.hid (by unfold ug uf;rw[if_neg (by simpa using hneg),List.getElem?_eq_none (by omega)])
  clear jQ hIn BF
  go_enter Tryz.func19,Tryz.ntmps19
  go_wp2_with fail
  go_ret
  exact⟨by rw[HR.out];rfl,Q.trans HQ.out x.q⟩
 obtain⟨m,rfl⟩:∃m:Nat,i=(m:Int):=⟨i.toNat,by omega⟩
 have hmL:m<c.acts.length:=by omega
 have HR:=Lib.hid (show ug ps c m=((c.acts[m].kind==19)&&decide (c.acts[m].n<=(LY ps c.acts[m]:Int))) by
  unfold ug uf
  rw[if_neg (by simp),Int.toNat_natCast,List.getElem?_eq_getElem hmL])
 obtain⟨b,o,eA,hb0,hcs⟩:=jQ (by omega)
 rw[eA]at c1
 obtain⟨nl,hnl⟩:∃nl,c.acts.length=nl:=⟨_,rfl⟩
 rw[hnl]at c1 hal hge
 have hmN:m<nl:=by omega
 have hm0:(0:Int)<=(m:Int):=by omega
 obtain⟨a,ha⟩:∃a,c.acts[m]=a:=⟨_,rfl⟩
 rw[ha]at HR
 have hgm:a∈c.acts:=ha▸List.getElem_mem hmL
 have e3:∀y:Wd w1,y.w.cell? ⟨b,o+m*20+3,none⟩=some (.int .i64 a.kind):=fun y=>Wd.get hb0 (hcs m hmL) 3 (by rw[ha];rfl) y
 have e15:∀y:Wd w1,y.w.cell? ⟨b,o+m*20+15,none⟩=some (.slice a.gy a.wraps.length a.dF):=fun y=>Wd.get hb0 (hcs m hmL) 15 (by rw[ha];rfl) y
 have e16:∀y:Wd w1,y.w.cell? ⟨b,o+m*20+16,none⟩=some (.int .i64 a.n):=fun y=>Wd.get hb0 (hcs m hmL) 16 (by rw[ha];rfl) y
 have abg:tX w1 a.gy a.wraps:=((hIn ⟨w1,Q.refl _⟩).each a hgm).wraps
 have hwc:=((hIn x).each a hgm).dF
 clear eA jQ hcs hIn hgm ha
 cases hk:(a.kind==19)
 ·have HF:Hid (ug ps c m=false):=Lib.hid (by rw[HR.out,hk];rfl)
  have hk2:(a.kind !=19)=true:=by rw[bne,hk];rfl
  clear BF abg e15 e16
  go_enter Tryz.func19,Tryz.ntmps19
  go_wp2_with fail
  go_ret
  exact⟨by rw[HF.out];rfl,Q.trans HQ.out x.q⟩
 have hk2:(a.kind !=19)=false:=by rw[bne,hk];rfl
 have HRn:=Lib.hid (show ug ps c m=decide (a.n<=((a.wraps.countP fun x=>iR ps x.to:Nat):Int)) by rw[HR.out,hk];rfl)
 clear HR
 generalize a.gy=WA at*
 obtain⟨nw,hnw⟩:∃nw,a.wraps.length=nw:=⟨_,rfl⟩
 rw[hnw]at hwc e15
 go_enter Tryz.func19,Tryz.ntmps19
 go_wp2_with (go_at_call 43;refine(BF _).mono ?_;rintro e w' ⟨g,rfl,hM,hq2⟩;obtain⟨y,rfl⟩:=Wd.next _ hq2;clear hq2)
 have hlk:∀(n:Int) (z:World),Q y.w z->(Instr.lookup 97 (.map (some g)) (.int .i64 n) false).run Tryz.prog z= .ok (.bool (iR ps n)) z:=fun n z hz=>(hM.q hz).lookup Tryz.underlying97 Tryz.underlying3 aec n
 obtain⟨Y,hY⟩:∃Y,y.w=Y:=⟨_,rfl⟩
 have EG:Q w1 Y:=hY▸y.q
 rw[hY]at hlk⊢
 have ay1:∀z:Wd Y,z.w.cell? ⟨b,o+m*20+16,none⟩=some (.int .i64 a.n):=fun z=>e16 ⟨z.w,Q.trans EG z.q⟩
 have c1Y:∀z:Wd Y,z.w.cell? ⟨w.heap.size,1,none⟩=some (.slice (some ⟨b,o,none⟩) nl c.aC):=fun z=>c1 ⟨z.w,Q.trans EG z.q⟩
 have iU:=abg.q EG
 have HQY:=Lib.hid (Q.trans HQ.out EG)
 clear hM BF e3 e15 e16 abg EG hY c1
 obtain⟨v,hv⟩:=Wd.first Y
 rw[hv]
 clear hv
 go_loopw [8,38] (fun s i wr=>∃(j:Nat) (z:Wd Y),s= .int .i64 (((a.wraps.take j).countP fun x=>iR ps x.to:Nat):Int)/\i= .int .i64 j/\wr=z.w/\j<=nw) (fun _ i _=>nw-(intOf i).toNat)
 case atStart=>exact⟨0,v,rfl,rfl,rfl,Nat.zero_le _⟩
 case round=>
  obtain⟨j,z,rfl,rfl,rfl,hj⟩:=hrel
  by_cases hlt:j<nw
  ·have dM:j<a.wraps.length:=by omega
   have pX:(j:Int)<(nw:Int):=by omega
   obtain⟨b3,o3,rfl,hb3,hcs3⟩:=iU (by omega)
   have hld:=Wd.load (P:=Tryz.prog) (ty:=115) hb3 (hcs3 j dM) Tryz.underlying115 rfl (by kernel_rfl) z
   have hst:=aw2 (fun x:bQ=>iR ps x.to) a.wraps j dM
   have hcl:(a.wraps.take j).countP (fun x=>iR ps x.to)<=j:=Nat.le_trans List.countP_le_length (by rw[List.length_take];omega)
   clear hcs3 iU
   generalize a.wraps[j]=x5 at*
   generalize (a.wraps.take j).countP (fun x=>iR ps x.to)=cn at*
   go_wp2_with (first|(refine kR 33 115 (.tmp 36) (.tmp 38) b3 o3 nw a.dF j 5 rfl rfl rfl rfl Tryz.underlying33 (by kernel_rfl) Tryz.sizeOf115 hlt ?_)|(refine aI (.tmp 40) hld ?_)|(refine fM (ah.new z.w 115 o7.cells.toArray) rfl 115 (.tmp 10) (.tmp 41) x5.cells rfl rfl rfl (by kernel_rfl) (DT _) (Nat.le_refl 5) ?_))
   intro W5 mV G6
   rw[bC _ _ (by rfl)]at mV
   have hq5:Q Y W5:=Q.trans z.q (G6 _ _ (Nat.le_refl _) (aO _ _ _))
   have w0:W5.cell? ⟨z.w.heap.size,0,none⟩=some (.int .i64 x5.to):=mV.cell 0
   have hl5:=hlk x5.to W5 hq5
   clear G6 mV hld hlk
   cases o8:iR ps x5.to
   ·rw[o8]at hl5 hst
    have HS:=Lib.hid hst
    clear hst
    go_wp2_with fail
    exact⟨⟨j+1,⟨W5,hq5⟩,by rw[HS.out];rfl,by go_num,rfl,by omega⟩,by simp only[intOf];omega⟩
   ·rw[o8]at hl5 hst
    have HS:=Lib.hid hst
    clear hst
    go_wp2_with fail
    exact⟨⟨j+1,⟨W5,hq5⟩,by rw[HS.out,if_pos rfl];go_num,by go_num,rfl,by omega⟩,by simp only[intOf];omega⟩
  ·obtain rfl:j=nw:=by omega
   have uO:¬((j:Int)<(j:Int)):=by omega
   have htk:a.wraps.take j=a.wraps:=by rw[<-hnw,List.take_length]
   rw[htk]
   generalize (a.wraps.countP fun x=>iR ps x.to)=cn at*
   clear hlk iU htk
   cases hcm:decide (a.n<=(cn:Int))
   all_goals
    have HF:=Lib.hid (HRn.out.trans hcm)
    simp only[decide_eq_true_eq,decide_eq_false_iff_not]at hcm
    clear HRn
    go_wp2_with fail
    go_ret
    exact⟨by rw[HF.out];rfl,Q.trans HQY.out z.q⟩
end bP
end Go.Proofs.YtbemmjnjoabadaaGreatDoor
