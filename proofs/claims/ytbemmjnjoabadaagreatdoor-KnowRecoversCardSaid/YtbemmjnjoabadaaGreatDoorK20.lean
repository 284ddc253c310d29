/- part 20 -/
import Derived.Test.YtbemmjnjoabadaaGreatDoorK19
import Derived.Test.YtbemmjnjoabadaaGreatDoorK17
set_option linter.unusedVariables false
set_option linter.unusedSimpArgs false
set_option maxHeartbeats 8000000
set_option maxRecDepth 100000
namespace Go.Proofs.YtbemmjnjoabadaaGreatDoor
namespace bP
open Go.RowKit aQ Mem _root_.Go.Proofs.YtbemmjnjoabadaaGreatDoor.Code aY Sign _root_.Go.Proofs.YtbemmjnjoabadaaGreatDoor.Item _root_.Go.Proofs.YtbemmjnjoabadaaGreatDoor.Known
def jU(a:ak):Prop:=a.to.length<=1000000/\a.wraps.length<=1000000
def bY(a:ak):ByteArray:=wS (vU a)
theorem Yp(a:ak)(w:World)(hT:Tab w)(hA:bU w a)(hs:jU a):Calls Tryz.prog 35 #[.agg (au a)] w fun e w'=>e= .returned (.string (bY a))/\Q w w':=by
 obtain⟨w1,x,hx,hq1,hbk⟩:=boxedB w 37 a.cells
 have hx:w.alloc (.cells (au a) 37)=x.w:=hx
 have hLa:=dX (P:=Tryz.prog) (au a) hbk Tryz.underlying37
 have Ag:=fun y:Wd w1=>aeo a y.w (hA.q (Q.trans hq1 y.q)) hs.1 hs.2
 have nH:∀(a2:ak) (y:Wd w1),aP a2=aP a->bU y.w a2->Calls Tryz.prog 85 #[.agg (jT (vU a2))] y.w fun e w'=>e= .returned (.string (bY a))/\Q y.w w':=fun a2 y hb hi=>by
  have h:=aes (vU a2) y.w (hT.q (Q.trans hq1 y.q)) ⟨hi,XZ y.w⟩ rfl
  rwa[Pj hb]at h
 have HQ:=Lib.hid hq1
 clear hbk hq1 hA hT
 go_enter Tryz.func35,Tryz.ntmps35
 go_wp2_with (first|(refine aI (.tmp 1) (hLa _) ?_)|(go_at_call 86;refine(Ag _).mono ?_;rintro e w' ⟨a2,rfl,hba,hin,hq2⟩;obtain⟨y,rfl⟩:=Wd.next _ hq2;clear hq2)|(go_at_call 85;refine(nH a2 _ hba hin).mono ?_;rintro e w' ⟨rfl,hq2⟩;obtain⟨y2,rfl⟩:=Wd.next _ hq2;clear hq2))
 go_ret
 exact⟨rfl,Q.trans HQ.out y2.q⟩
def iW(c:ay)(kind time:Int):ak:={aH with author:=c.id,seq:=c.acts.length,prev:=c.prev,kind:=kind,time:=time}
theorem apd(i:ByteArray)(n:Int)(p:ByteArray)(k t:Int)(w:World):(Instr.build 37 #[(0, .string i),(1, .int .i64 n),(2, .string p),(3, .int .i64 k),(4, .int .i64 t)]).run Tryz.prog w= .ok (.agg (au {aH with author:=i,seq:=n,prev:=p,kind:=k,time:=t})) w:=by kernel_rfl
theorem JH(c:ay)(kind time:Int)(w:World):Calls Tryz.prog 31 #[.agg (aF c), .int .i64 kind, .int .i64 time] w fun e w'=>e= .returned (.agg (au (iW c kind time)))/\Q w w':=by
 have hb1:=ah.new w 41 (aF c)
 have hq1:=aO w (aF c) 41
 have hbr:=ah.new' (g:=w.heap.size+1) (w.alloc (.cells (aF c) 41)) 37 (au aH) (by simp)
 have hq2:=aO (w.alloc (.cells (aF c) 41)) (au aH) 37
 have hb1:=hb1.q hq2
 have hq:=Q.trans hq1 hq2
 clear hq1 hq2
 obtain⟨W0,hW0⟩:∃W0,W0=(w.alloc (.cells (aF c) 41)).alloc (.cells (au aH) 37):=⟨_,rfl⟩
 rw[<-hW0]at hb1 hbr hq
 have c0:W0.cell? ⟨w.heap.size,0,none⟩=some (.string c.id):=hb1.cell 0
 have c1:W0.cell? ⟨w.heap.size,1,none⟩=some (.slice c.aA c.acts.length c.aC):=hb1.cell 1
 have c3:W0.cell? ⟨w.heap.size,3,none⟩=some (.string c.prev):=hb1.cell 3
 have HX:=Lib.hid hW0
 have HQ:=Lib.hid hq
 have HD:=Lib.hid (show iW c kind time={aH with author:=c.id,seq:=c.acts.length,prev:=c.prev,kind:=kind,time:=time}from rfl)
 clear hW0 hb1 hq
 go_enter Tryz.func31,Tryz.ntmps31
 go_upto_region 1 with(fail)
 refine(show Code.wp _ _ _ _ W0->Code.wp _ _ _ _ _ from fun h=>by rw[HX.out]at h;exact h) ?_
 go_wp2_with (first|(refine LQ 37 _ #[(0, .string c.id),(1, .int .i64 (c.acts.length:Int)),(2, .string c.prev),(3, .int .i64 kind),(4, .int .i64 time)] (.agg (au {aH with author:=c.id,seq:=c.acts.length,prev:=c.prev,kind:=kind,time:=time})) rfl rfl (by simp only[List.map_toArray,List.map_cons,List.map_nil];rfl) (apd _ _ _ _ _ _) ?_)|(refine eY (cs:=aH.cells) hbr rfl 37 (.tmp 6) (.tmp 16) ({aH with author:=c.id,seq:=c.acts.length,prev:=c.prev,kind:=kind,time:=time}:ak).cells rfl rfl rfl (by kernel_rfl) (dL _) (Nat.le_refl 20) ?_))
 intro W3 hW3 kQ yT
 rw[bC _ _ (by rfl)]at hW3
 have HF:Hid (Q w W3):=Lib.hid (kQ _ _ (Nat.le_succ _) HQ.out)
 clear kQ yT
 go_wp2_with fail
 exact bodyPost_ret (results_cell_row rfl _ _ (w.heap.size+1) 37 (au {aH with author:=c.id,seq:=c.acts.length,prev:=c.prev,kind:=kind,time:=time}) (0,0) _ rfl hW3 Tryz.underlying37 rfl (by kernel_rfl)) rfl ⟨by rw[HD.out],HF.out⟩
def Fj(d:ByteArray)(a:ak):Bool:=((bY a).toList==d.toList)
def jF(c:ay)(d:ByteArray):Option Nat:=c.acts.findIdx? (Fj d)
theorem aeu{α:Type}(p:α->Bool)(l:List α)(h:∀x∈l,p x=false):l.findIdx? p=none:=by
 rw[List.findIdx?_eq_none_iff]
 exact h
theorem aev{α:Type}(p:α->Bool)(l:List α)(j:Nat)(hj:j<l.length)(h:∀x∈l.take j,p x=false)(hp:p l[j]=true):l.findIdx? p=some j:=by
 rw[List.findIdx?_eq_some_iff_getElem]
 refine⟨hj,hp,fun i hi=> ?_⟩
 have:l[i]∈l.take j:=by
  rw[List.mem_take_iff_getElem]
  exact⟨i,by omega,rfl⟩
 simpa using h _ this
theorem Uz(c:ay)(d:ByteArray)(w:World)(hT:Tab w)(hI:gX w c)(hs:∀a∈c.acts,jU a):Calls Tryz.prog 84 #[.agg (aF c), .string d] w fun e w'=>e= .returned (.tuple #[.int .i64 (((jF c d).getD 0:Nat):Int), .bool (jF c d).isSome])/\Q w w':=by
 obtain⟨w1,x,hx,hq1,hbk⟩:=boxedB w 41 c.cells
 have hx:w.alloc (.cells (aF c) 41)=x.w:=hx
 have c1:=aB (.slice c.aA c.acts.length c.aC) hbk 1
 have hmx:maxLen=9223372036854775807:=by decide
 have hal:=hI.aC
 have jQ:=hI.acts.q hq1
 have hEa:=fun a ha (y:Wd w1)=>(hI.each a ha).q (Q.trans hq1 y.q)
 have hTy:=fun y:Wd w1=>hT.q (Q.trans hq1 y.q)
 have HQ:=Lib.hid hq1
 clear hbk hq1 hI hT
 obtain⟨nl,hnl⟩:∃nl,c.acts.length=nl:=⟨_,rfl⟩
 rw[hnl]at c1 hal
 generalize c.aA=AA at*
 go_enter Tryz.func84,Tryz.ntmps84
 go_wp2_with fail
 clear c1
 go_loopw [11] (fun i wr=>∃(j:Nat) (z:Wd w1),i= .int .i64 j/\wr=z.w/\j<=nl/\Hid (∀a∈c.acts.take j,Fj d a=false)) (fun i _=>nl-(intOf i).toNat)
 case atStart=>exact⟨0,x,rfl,rfl,Nat.zero_le _,Lib.hid (by simp)⟩
 case round=>
  obtain⟨j,z,rfl,rfl,hj,hno⟩:=hrel
  by_cases hlt:j<nl
  ·have dM:j<c.acts.length:=by omega
   have pX:(j:Int)<(nl:Int):=by omega
   obtain⟨b,o,rfl,hb0,hcs⟩:=jQ (by omega)
   have hld:=Wd.load (P:=Tryz.prog) (ty:=37) hb0 (hcs j dM) Tryz.underlying37 rfl (by kernel_rfl) z
   have hm:=List.getElem_mem dM
   have hin:=hEa _ hm
   have hsh:=hs _ hm
   have hidx:=aev (Fj d) c.acts j dM hno.out
   have hnx:Fj d c.acts[j]=false->∀a∈c.acts.take (j+1),Fj d a=false:=fun h a ha=>by
    rw[List.take_succ_eq_append_getElem dM,List.mem_append,List.mem_singleton]at ha
    rcases ha with ha|rfl
    ·exact hno.out a ha
    ·exact h
   clear hcs hm
   obtain⟨a,ha⟩:∃a,c.acts[j]=a:=⟨_,rfl⟩
   rw[ha]at hld hin hsh hidx hnx
   clear ha
   go_wp2_with (first|(refine kR 38 37 (.tmp 9) (.tmp 11) b o nl c.aC j 20 rfl rfl rfl rfl Tryz.underlying38 (by kernel_rfl) Tryz.sizeOf37 hlt ?_)|(refine aI (.tmp 14) hld ?_)|(refine fM (ah.new z.w 37 aH.cells.toArray) rfl 37 (.tmp 7) (.tmp 15) a.cells rfl rfl rfl (by kernel_rfl) (dL _) (Nat.le_refl 20) ?_))
   intro W hW hbel
   rw[bC _ _ (by rfl)]at hW
   have aJ:Q w1 W:=hbel _ _ z.q.size (Q.trans z.q (aO _ _ _))
   have hLa:=dX (P:=Tryz.prog) (au a) hW Tryz.underlying37
   have Ag:=fun y:Wd W=>aeo a y.w (hin ⟨y.w,Q.trans aJ y.q⟩) hsh.1 hsh.2
   have nH:∀(a2:ak) (y:Wd W),aP a2=aP a->bU y.w a2->Calls Tryz.prog 85 #[.agg (jT (vU a2))] y.w fun e w'=>e= .returned (.string (bY a))/\Q y.w w':=fun a2 y hb hi=>by
    have h:=aes (vU a2) y.w (hTy ⟨y.w,Q.trans aJ y.q⟩) ⟨hi,XZ y.w⟩ rfl
    rwa[Pj hb]at h
   have uh:=Lib.hid aJ
   clear hbel hW hld hin hTy hEa
   generalize z.w.heap.size=h at*
   obtain⟨v,hv⟩:=Wd.first W
   rw[hv]
   clear hv
   go_upto_region 4 with(fail)
   cases hd:Fj d a
   ·have hd2:((bY a).toList==d.toList)=false:=hd
    have HN:=Lib.hid (hnx hd)
    clear hidx hnx hno
    generalize bY a=dg at*
    go_wp2_with (first|(refine aI (.tmp 7) (hLa _) ?_)|(go_at_call 86;refine(Ag _).mono ?_;rintro e w' ⟨a2,rfl,hba,hin,hq2⟩;obtain⟨y,rfl⟩:=Wd.next _ hq2;clear hq2)|(go_at_call 85;refine(nH a2 _ hba hin).mono ?_;rintro e w' ⟨rfl,hq2⟩;obtain⟨y2,rfl⟩:=Wd.next _ hq2;clear hq2))
    exact⟨⟨j+1,⟨y2.w,Q.trans uh.out y2.q⟩,by go_num,rfl,by omega,HN⟩,by simp only[intOf];omega⟩
   ·have hd2:((bY a).toList==d.toList)=true:=hd
    have HN:Hid (jF c d=some j):=Lib.hid (hidx hd)
    clear hidx hnx hno
    generalize bY a=dg at*
    go_wp2_with (first|(refine aI (.tmp 7) (hLa _) ?_)|(go_at_call 86;refine(Ag _).mono ?_;rintro e w' ⟨a2,rfl,hba,hin,hq2⟩;obtain⟨y,rfl⟩:=Wd.next _ hq2;clear hq2)|(go_at_call 85;refine(nH a2 _ hba hin).mono ?_;rintro e w' ⟨rfl,hq2⟩;obtain⟨y2,rfl⟩:=Wd.next _ hq2;clear hq2))
    exact bodyPost_ret (results_tmp2 rfl _ _ _) rfl ⟨by rw[HN.out];rfl,Q.trans HQ.out (Q.trans uh.out y2.q)⟩
  ·obtain rfl:j=nl:=by omega
   have uO:¬((j:Int)<(j:Int)):=by omega
   have HN:Hid (jF c d=none):=Lib.hid (aeu _ _ fun a ha=>hno.out a (by rw[<-hnl,List.take_length];exact ha))
   clear hno
   go_wp2_with fail
   exact bodyPost_ret (results_tmp2 rfl _ _ _) rfl ⟨by rw[HN.out];rfl,Q.trans HQ.out z.q⟩
end bP
namespace Mem
open Go.RowKit aQ
theorem aax:(∀(a:Act) (n:Nat) (v:Value),a.put (some n) v={a with tmps:=a.tmps.setIfInBounds n v})/\(∀(a:Act) (v:Value),a.put none v=a)/\(∀(α:Type) (l:List α) (i:Nat) (x:α),l.toArray.setIfInBounds i x=(l.set i x).toArray)/\(∀(α:Type) (x y:α) (l:List α) (n:Nat),(x::l).set (n+1) y=x::l.set n y)/\(∀(α:Type) (x y:α) (l:List α),(x::l).set 0 y=y::l):=⟨fun _ _ _=>rfl,fun _ _=>rfl,fun _ _ _ _=>List.setIfInBounds_toArray ..,fun _ _ _ _ _=>rfl,fun _ _ _ _=>rfl⟩
section
variable {P:Program} {md:Region.Mode} {S:World->Prop}
theorem V7{K:Exit->Act->World->Prop}{l:List Oper}(k:Nat){o:Oper}(v:Value){f:Nat}{s:Array Bool}{a:Act}{w:World}(hi:l[k]?=some o)(hS:S w)(hv:∀z,S z->(execOp a.eval o).run P z= .ok (.value v) z)(h:wpAnyH P md l.toArray K S f (s.setIfInBounds k true) (a.put o.dst v) w)(hsel:Region.noSelect l.toArray=true:=by kernel_rfl)(hf:Region.free md l.toArray s k=true:=by kernel_rfl)(hr:(Region.ready md l.toArray s).contains k=true:=by kernel_rfl)(hQ:∀c (a:Act) d v w,K (.panic c) (Act.put a d v) w->K (.panic c) a w:=by intro c a d v w h;cases d<;>exact h)(hg:o.guard=none:=by rfl):wpAnyH P md l.toArray K S (f+1) s a w:=
 am7 k hi hsel hf hr hQ hg hS hv h
end
end Mem
namespace bP
open Go.RowKit aQ Mem _root_.Go.Proofs.YtbemmjnjoabadaaGreatDoor.Code aY Sign _root_.Go.Proofs.YtbemmjnjoabadaaGreatDoor.Item _root_.Go.Proofs.YtbemmjnjoabadaaGreatDoor.Known
def Md(k:Int):Bool:=(k==4)||((k==5)||((k==7)||((k==8)||((k==10)||((k==11)||((k==17)||(k==23)))))))
def G8(p:Int->Bool)(c:ay)(d:ByteArray):Bool:=match jF c d with
 |some i=>match c.acts[i]? with
  |some a=>p a.kind
  |none=>false
 |none=>false
def Me(c:ay)(a:ak):Bool:=if a.kind==6 then G8 Md c a.object else if(a.kind==13)||(a.kind==14)then G8 jh c a.object else true
def ig(c:ay)(a:ak):Bool:=bT a&&((a.author.toList==c.id.toList)&&((a.seq==(c.acts.length:Int))&&((a.prev.toList==c.prev.toList)&&(((a.kind==0)==((c.acts.length:Int)==0))&&Me c a))))
theorem apl(k:Int)(w:World):Calls Tryz.prog 130 #[.int .i64 k] w fun e w'=>e= .returned (.bool (Md k))/\Q w w':=by
 obtain⟨x,hx⟩:=Wd.first w
 refine(show Calls Tryz.prog 130 #[.int .i64 k] x.w _->_ from fun h=>by rwa[<-hx]at h) ?_
 clear hx
 have HR:=Lib.hid (show Md k=((k==4)||((k==5)||((k==7)||((k==8)||((k==10)||((k==11)||((k==17)||(k==23))))))))from rfl)
 rcases(show(k==4)=true∨((k==4)=false/\(k==5)=true)∨((k==4)=false/\(k==5)=false/\(k==7)=true)∨((k==4)=false/\(k==5)=false/\(k==7)=false/\(k==8)=true)∨((k==4)=false/\(k==5)=false/\(k==7)=false/\(k==8)=false/\(k==10)=true)∨((k==4)=false/\(k==5)=false/\(k==7)=false/\(k==8)=false/\(k==10)=false/\(k==11)=true)∨((k==4)=false/\(k==5)=false/\(k==7)=false/\(k==8)=false/\(k==10)=false/\(k==11)=false/\(k==17)=true)∨((k==4)=false/\(k==5)=false/\(k==7)=false/\(k==8)=false/\(k==10)=false/\(k==11)=false/\(k==17)=false/\(k==23)=true)∨((k==4)=false/\(k==5)=false/\(k==7)=false/\(k==8)=false/\(k==10)=false/\(k==11)=false/\(k==17)=false/\(k==23)=false) by
  cases(k==4)<;>cases(k==5)<;>cases(k==7)<;>cases(k==8)<;>cases(k==10)<;>cases(k==11)<;>cases(k==17)<;>cases(k==23)<;>simp)with h|⟨h1,h⟩|⟨h1,h2,h⟩|⟨h1,h2,h3,h⟩|⟨h1,h2,h3,h4,h⟩|⟨h1,h2,h3,h4,h5,h⟩|⟨h1,h2,h3,h4,h5,h6,h⟩|⟨h1,h2,h3,h4,h5,h6,h7,h⟩|⟨h1,h2,h3,h4,h5,h6,h7,h⟩
 all_goals
  simp only[*,Bool.or_true,Bool.or_false,Bool.true_or,Bool.false_or]at HR
  go_enter Tryz.func130,Tryz.ntmps130
  go_wp2_with fail
  go_ret
  exact⟨by rw[HR.out];rfl,x.q⟩
theorem apm(c:ay)(g:Nat)(d:ByteArray)(w:World)(hT:Tab w)(hI:gX w c)(hs:∀a∈c.acts,jU a)(hB:ah w g 41 c.cells.toArray):Calls Tryz.prog 83 #[.string d, .pointer (some ⟨g,0,none⟩)] w fun e w'=>e= .returned (.tuple #[.int .i64 (((jF c d).getD 0:Nat):Int), .bool (jF c d).isSome])/\Q w w':=by
 obtain⟨x,hx⟩:=Wd.first w
 have cZ:=dX (P:=Tryz.prog) (aF c) hB Tryz.underlying41
 have hIx:=fun y:Wd w=>Uz c d y.w (hT.q y.q) (hI.q y.q) hs
 refine(show Calls Tryz.prog 83 #[.string d, .pointer (some ⟨g,0,none⟩)] x.w _->_ from fun h=>by rwa[<-hx]at h) ?_
 clear hx hB hI hT
 go_enter Tryz.func83,Tryz.ntmps83
 go_wp2_with (first|(refine aI (.tmp 1) (cZ _) ?_)|(go_at_call 84;refine(hIx _).mono ?_;rintro e w' ⟨rfl,hq2⟩;obtain⟨y,rfl⟩:=Wd.next _ hq2;clear hq2))
 exact bodyPost_ret (results_tmp2 rfl _ _ _) rfl ⟨rfl,y.q⟩
theorem UC(p:Int->Bool)(c:ay)(d:ByteArray):G8 p c d=((jF c d).isSome&&match c.acts[(jF c d).getD 0]? with
 |some a=>p a.kind
 |none=>false):=by
 unfold G8
 cases jF c d<;>rfl
theorem Yt{c:ay}{d:ByteArray}{i:Nat}(h:jF c d=some i):i<c.acts.length:=by
 unfold jF at h
 rw[List.findIdx?_eq_some_iff_getElem]at h
 exact h.1
theorem fits_any(c:ay)(g:Nat)(a:ak)(w:World)(hT:Tab w)(hI:gX w c)(hA:bU w a)(hs:∀a∈c.acts,jU a)(hB:ah w g 41 c.cells.toArray):Calls Tryz.prog 82 #[.agg (aF c), .agg (au a), .func (.func 83) #[] #[.pointer (some ⟨g,0,none⟩)]] w fun e w'=>e= .returned (.bool (ig c a))/\Q w w':=by
 have hb1:=ah.new w 41 (aF c)
 have hq1:=aO w (aF c) 41
 have hb2:=ah.new' (g:=w.heap.size+1) (w.alloc (.cells (aF c) 41)) 37 (au a) (by simp)
 have hq2:=aO (w.alloc (.cells (aF c) 41)) (au a) 37
 have hb1:=hb1.q hq2
 have hq:=Q.trans hq1 hq2
 clear hq1 hq2
 obtain⟨W0,hW0⟩:∃W0,W0=(w.alloc (.cells (aF c) 41)).alloc (.cells (au a) 37):=⟨_,rfl⟩
 rw[<-hW0]at hb1 hb2 hq
 obtain⟨x,hx⟩:=Wd.first W0
 have HX:=Lib.hid (hx.symm.trans hW0)
 have c0:=aB (.string c.id) hb1 0
 have c1:=aB (.slice c.aA c.acts.length c.aC) hb1 1
 have c3:=aB (.string c.prev) hb1 3
 have a0:=aB (.string a.author) hb2 0
 have a1:=aB (.int .i64 a.seq) hb2 1
 have a2:=aB (.string a.prev) hb2 2
 have a3:=aB (.int .i64 a.kind) hb2 3
 have a5:=aB (.string a.object) hb2 5
 have hLa:=dX (P:=Tryz.prog) (au a) hb2 Tryz.underlying37
 have hRi:=fun y:Wd W0=>EY a y.w (hA.q (Q.trans hq y.q))
 have hIx:=fun y:Wd W0=>apm c g a.object y.w (hT.q (Q.trans hq y.q)) (hI.q (Q.trans hq y.q)) hs (hB.q (Q.trans hq y.q))
 have Fp:=fun(k:Int) (y:Wd W0)=>apl k y.w
 have bf:=fun(k:Int) (y:Wd W0)=>iE k y.w
 have HQ:=Lib.hid hq
 have HR:=Lib.hid (show ig c a=(bT a&&((a.author.toList==c.id.toList)&&((a.seq==(c.acts.length:Int))&&((a.prev.toList==c.prev.toList)&&(((a.kind==0)==((c.acts.length:Int)==0))&&Me c a)))))from rfl)
 have hmx:maxLen=9223372036854775807:=by decide
 have hal:=hI.aC
 have hRow:=hI.acts.q hq
 clear hW0 hx hb1 hb2 hq hA hT hB hI
 rcases(show bT a=false∨(bT a=true/\(a.author.toList==c.id.toList)=false)∨(bT a=true/\(a.author.toList==c.id.toList)=true/\(a.seq==(c.acts.length:Int))=false)∨(bT a=true/\(a.author.toList==c.id.toList)=true/\(a.seq==(c.acts.length:Int))=true/\(a.prev.toList==c.prev.toList)=false)∨(bT a=true/\(a.author.toList==c.id.toList)=true/\(a.seq==(c.acts.length:Int))=true/\(a.prev.toList==c.prev.toList)=true) by
  cases bT a<;>cases(a.author.toList==c.id.toList)<;>cases(a.seq==(c.acts.length:Int))<;>cases(a.prev.toList==c.prev.toList)<;>simp)with h1|⟨h1,h2⟩|⟨h1,h2,h3⟩|⟨h1,h2,h3,h4⟩|⟨h1,h2,h3,h4⟩
 iterate 4
  ·have HF:Hid (ig c a=false):=Lib.hid (by rw[HR.out];simp[*])
   rw[h1]at hRi
   try have g2:¬a.author.toList=c.id.toList:=by simpa using h2
   try have g2:a.author.toList=c.id.toList:=by simpa using h2
   try have g3:(a.seq !=(c.acts.length:Int))=true:=by rw[bne,h3];rfl
   try have g3:(a.seq !=(c.acts.length:Int))=false:=by rw[bne,h3];rfl
   try have g4:¬a.prev.toList=c.prev.toList:=by simpa using h4
   clear hIx Fp bf hRow
   go_enter Tryz.func82,Tryz.ntmps82
   go_upto_region 1 with(fail)
   refine(show Code.wp _ _ _ _ x.w->Code.wp _ _ _ _ _ from fun h=>by rw[HX.out]at h;exact h) ?_
   go_wp2_with (first|(refine aI (.tmp 4) (hLa _) ?_)|(go_at_call 66;refine(hRi _).mono ?_;rintro e w' ⟨rfl,hq2⟩;obtain⟨y,rfl⟩:=Wd.next _ hq2;clear hq2))
   go_ret
   exact⟨by rw[HF.out];rfl,Q.trans HQ.out y.q⟩
 have g2:a.author.toList=c.id.toList:=by simpa using h2
 have g3:(a.seq !=(c.acts.length:Int))=false:=by rw[bne,h3];rfl
 have g4:a.prev.toList=c.prev.toList:=by simpa using h4
 have HR2:Hid (ig c a=(((a.kind==0)==((c.acts.length:Int)==0))&&Me c a)):=Lib.hid (by rw[HR.out,h1,h2,h3,h4];rfl)
 have HT:=Lib.hid (show Me c a=if a.kind==6 then G8 Md c a.object else if(a.kind==13)||(a.kind==14)then G8 jh c a.object else true from rfl)
 have uS:=Lib.hid (UC Md c a.object)
 have HP2:=Lib.hid (UC jh c a.object)
 rw[h1]at hRi
 clear HR h1 h2 h3 h4
 rcases(show((a.kind==0)=true/\((c.acts.length:Int)==0)=false)∨((a.kind==0)=false/\((c.acts.length:Int)==0)=true)∨((a.kind==0)=true/\((c.acts.length:Int)==0)=true/\(a.kind==6)=false/\(a.kind==13)=false/\(a.kind==14)=false)∨((a.kind==0)=false/\((c.acts.length:Int)==0)=false/\(a.kind==6)=false/\(a.kind==13)=false/\(a.kind==14)=false)∨((a.kind==0)=false/\((c.acts.length:Int)==0)=false/\(a.kind==6)=true)∨((a.kind==0)=false/\((c.acts.length:Int)==0)=false/\(a.kind==6)=false/\(a.kind==13)=true)∨((a.kind==0)=false/\((c.acts.length:Int)==0)=false/\(a.kind==6)=false/\(a.kind==13)=false/\(a.kind==14)=true) by
  have h0:(a.kind==0)=true->(a.kind==6)=false/\(a.kind==13)=false/\(a.kind==14)=false:=fun h=>by
   have:a.kind=0:=by simpa using h
   rw[this]
   exact⟨rfl,rfl,rfl⟩
  cases hk0:(a.kind==0)
  ·cases((c.acts.length:Int)==0)<;>cases(a.kind==6)<;>cases(a.kind==13)<;>cases(a.kind==14)<;>simp
  ·obtain⟨e1,e2,e3⟩:=h0 hk0
   rw[e1,e2,e3]
   cases((c.acts.length:Int)==0)<;>simp)with⟨k1,k2⟩|⟨k1,k2⟩|⟨k1,k2,k3,k4,k5⟩|⟨k1,k2,k3,k4,k5⟩|⟨k1,k2,k3⟩|⟨k1,k2,k3,k4⟩|⟨k1,k2,k3,k4,k5⟩
 iterate 4
  ·obtain⟨r,HF⟩:∃r:Bool,Hid (ig c a=r/\r=((a.kind==0)==((c.acts.length:Int)==0))):=⟨_,Lib.hid ⟨by rw[HR2.out,HT.out];simp[*],rfl⟩⟩
   have HG:Hid (ig c a=((a.kind==0)==((c.acts.length:Int)==0))):=Lib.hid (HF.out.1.trans HF.out.2)
   rw[k1,k2]at HG
   clear hIx Fp bf hRow HF
   go_enter Tryz.func82,Tryz.ntmps82
   go_upto_region 1 with(fail)
   refine(show Code.wp _ _ _ _ x.w->Code.wp _ _ _ _ _ from fun h=>by rw[HX.out]at h;exact h) ?_
   go_wp2_with (first|(refine aI (.tmp 4) (hLa _) ?_)|(go_at_call 66;refine(hRi _).mono ?_;rintro e w' ⟨rfl,hq2⟩;obtain⟨y,rfl⟩:=Wd.next _ hq2;clear hq2))
   go_ret
   exact⟨by rw[HG.out];rfl,Q.trans HQ.out y.q⟩
 all_goals
  obtain⟨oo,hoo⟩:∃oo,jF c a.object=oo:=⟨_,rfl⟩
  rw[hoo]at hIx uS HP2
  cases oo with
  |none=>
   have HF:Hid (ig c a=false):=Lib.hid (by rw[HR2.out,HT.out,uS.out,HP2.out,k1,k2,k3];first|rfl|(rw[k4];first|rfl|(rw[k5];rfl)))
   clear Fp bf hRow HR2 HT uS HP2
   go_enter Tryz.func82,Tryz.ntmps82
   go_upto_region 1 with(fail)
   refine(show Code.wp _ _ _ _ x.w->Code.wp _ _ _ _ _ from fun h=>by rw[HX.out]at h;exact h) ?_
   go_upto_region 2 with(fail)
   refine wp_region_lit ?_
   refine OC 37 (.tmp 4) (.pointer (some ⟨w.heap.size+1,0,none⟩)) (.agg (au a)) rfl rfl rfl (hLa _) ?_
   go_upto_region 4 with(go_at_call 66;refine(hRi _).mono ?_;rintro e w' ⟨rfl,hq2⟩;obtain⟨y,rfl⟩:=Wd.next _ hq2;clear hq2)
   clear hLa hRi
   go_wp2_with (first|(go_at_call 83;refine(hIx _).mono ?_;rintro e w' ⟨rfl,hq2⟩;obtain⟨y2,rfl⟩:=Wd.next _ hq2;clear hq2))
   go_ret
   exact⟨by rw[HF.out];rfl,Q.trans HQ.out y2.q⟩
  |some m=>
   have hm:=Yt hoo
   obtain⟨b,o,eA,hb0,hcs⟩:=hRow (by omega)
   have r3:∀y:Wd W0,y.w.cell? ⟨b,o+m*20+3,none⟩=some (.int .i64 c.acts[m].kind):=fun y=>Wd.get hb0 (hcs m hm) 3 rfl y
   have hm0:(0:Int)<=(m:Int):=by omega
   have PD:(m:Int)<(c.acts.length:Int):=by omega
   have hgm:c.acts[(some m).getD 0]?=some c.acts[m]:=List.getElem?_eq_getElem hm
   have HF:Hid (ig c a=if a.kind==6 then Md c.acts[m].kind else jh c.acts[m].kind):=Lib.hid (by rw[HR2.out,HT.out,uS.out,HP2.out,hgm,k1,k2,k3];first|rfl|(rw[k4];first|rfl|(rw[k5];rfl)))
   clear hgm
   rw[eA]at c1
   rw[k3]at HF
   clear hRow HR2 HT uS HP2 hcs eA
   generalize c.acts[m].kind=km at*
   have hUk:=Fp km
   have fP:=bf km
   clear Fp bf
   go_enter Tryz.func82,Tryz.ntmps82
   go_upto_region 1 with(fail)
   refine(show Code.wp _ _ _ _ x.w->Code.wp _ _ _ _ _ from fun h=>by rw[HX.out]at h;exact h) ?_
   go_upto_region 2 with(fail)
   refine wp_region_lit ?_
   refine OC 37 (.tmp 4) (.pointer (some ⟨w.heap.size+1,0,none⟩)) (.agg (au a)) rfl rfl rfl (hLa _) ?_
   go_upto_region 4 with(go_at_call 66;refine(hRi _).mono ?_;rintro e w' ⟨rfl,hq2⟩;obtain⟨y,rfl⟩:=Wd.next _ hq2;clear hq2)
   clear hLa hRi
   go_wp2_with (first|(go_at_call 83;refine(hIx _).mono ?_;rintro e w' ⟨rfl,hq2⟩;obtain⟨y2,rfl⟩:=Wd.next _ hq2;clear hq2)|(go_at_call 130;refine(hUk _).mono ?_;rintro e w' ⟨rfl,hq2⟩;obtain⟨y3,rfl⟩:=Wd.next _ hq2;clear hq2)|(go_at_call 48;refine(fP _).mono ?_;rintro e w' ⟨rfl,hq2⟩;obtain⟨y3,rfl⟩:=Wd.next _ hq2;clear hq2))
   go_ret
   exact⟨by rw[HF.out];rfl,Q.trans HQ.out y3.q⟩
theorem UD(c:ay)(a:ak)(w:World)(hT:Tab w)(hI:gX w c)(hA:bU w a)(hs:∀a∈c.acts,jU a):Calls Tryz.prog 33 #[.agg (aF c), .agg (au a)] w fun e w'=>e= .returned (.bool (ig c a))/\Q w w':=by
 have hb1:=ah.new w 41 (aF c)
 have hq1:=aO w (aF c) 41
 have hb2:=ah.new' (g:=w.heap.size+1) (w.alloc (.cells (aF c) 41)) 37 (au a) (by simp)
 have hq2:=aO (w.alloc (.cells (aF c) 41)) (au a) 37
 have hb1:=hb1.q hq2
 have hq:=Q.trans hq1 hq2
 clear hq1 hq2
 obtain⟨W0,hW0⟩:∃W0,W0=(w.alloc (.cells (aF c) 41)).alloc (.cells (au a) 37):=⟨_,rfl⟩
 rw[<-hW0]at hb1 hb2 hq
 obtain⟨x,hx⟩:=Wd.first W0
 have HX:=Lib.hid (hx.symm.trans hW0)
 have cZ:=dX (P:=Tryz.prog) (aF c) hb1 Tryz.underlying41
 have hLa:=dX (P:=Tryz.prog) (au a) hb2 Tryz.underlying37
 have hFi:=fun y:Wd W0=>fits_any c w.heap.size a y.w (hT.q (Q.trans hq y.q)) (hI.q (Q.trans hq y.q)) (hA.q (Q.trans hq y.q)) hs (y.blk hb1)
 have HQ:=Lib.hid hq
 clear hW0 hx hb1 hb2 hq hT hI hA hs
 generalize ig c a=r at*
 go_enter Tryz.func33,Tryz.ntmps33
 go_upto_region 1 with(fail)
 refine(show Code.wp _ _ _ _ x.w->Code.wp _ _ _ _ _ from fun h=>by rw[HX.out]at h;exact h) ?_
 go_wp2_with (first|(refine aI (.tmp 2) (cZ _) ?_)|(refine aI (.tmp 3) (hLa _) ?_)|(go_at_call 82;refine(hFi _).mono ?_;rintro e w' ⟨rfl,hq2⟩;obtain⟨y,rfl⟩:=Wd.next _ hq2;clear hq2))
 go_ret
 exact⟨rfl,Q.trans HQ.out y.q⟩
end bP
namespace Mem
open Go.RowKit aQ
section
variable {P:Program} {md:Region.Mode} {S:World->Prop}
theorem Yu{K:Exit->Act->World->Prop}{l:List Oper}(i j k:Nat){oi oj ok:Oper}{f:Nat}{s:Array Bool}{a:Act}{w:World}(hi:l[i]?=some oi)(hj:l[j]?=some oj)(hk:l[k]?=some ok)(hr:Region.ready md l.toArray s=[i,j,k])(hgi:oi.guard=none)(hgj:oj.guard=none)(hgk:ok.guard=none)
 (h1:∀K':Act->World->Prop,(∀a w,S w->wpAnyH P md l.toArray K S f (s.setIfInBounds i true) a w->K' a w)->oi.wp P a w K' K)
 (h2:∀K':Act->World->Prop,(∀a w,S w->wpAnyH P md l.toArray K S f (s.setIfInBounds j true) a w->K' a w)->oj.wp P a w K' K)
 (h3:∀K':Act->World->Prop,(∀a w,S w->wpAnyH P md l.toArray K S f (s.setIfInBounds k true) a w->K' a w)->ok.wp P a w K' K):wpAnyH P md l.toArray K S (f+1) s a w:=by
 refine wpAnyH_ready hr (by simp) (AllReadyH.cons (by simpa using hi) (fun K' hK=> ?_) (AllReadyH.cons (by simpa using hj) (fun K' hK=> ?_) (AllReadyH.cons (by simpa using hk) (fun K' hK=> ?_) AllReadyH.nil)))
 ·rw[if_pos (by simp[Region.wanted,hgi])]
  exact h1 K' fun a w hS hW=>hK.out a w hS fun _=>hW
 ·rw[if_pos (by simp[Region.wanted,hgj])]
  exact h2 K' fun a w hS hW=>hK.out a w hS fun _=>hW
 ·rw[if_pos (by simp[Region.wanted,hgk])]
  exact h3 K' fun a w hS hW=>hK.out a w hS fun _=>hW
theorem dY{o:Oper}{a:Act}{w w':World}{v:Value}{K:Act->World->Prop}{Q:Exit->Act->World->Prop}(hr:(execOp a.eval o).run P w= .ok (.value v) w')(h:K (a.put o.dst v) w'):o.wp P a w K Q:=by
 unfold Oper.wp
 rw[hr]
 exact h
theorem JK{o:Oper}{a:Act}{w:World}(ty:TypeId)(y:Operand)(p v:Value)(ho:o.op= .load ty y)(hy:a.eval y=p)(hr:(Instr.loadAt ty p).run P w= .ok v w):(execOp a.eval o).run P w= .ok (.value v) w:=by
 unfold execOp
 simp only[ho,hy,Sem.run_bind,hr,Result.andThen_ok,Sem.run_pure]
theorem fQ{o:Oper}{a:Act}{w w':World}(ty:TypeId)(len:Nat)(parts:Array (Nat×Operand))(vs:Array (Nat×Value))(v:Value)(ho:o.op= .buildSlice ty len parts)
 (hp:(parts.map fun x=>(x.1,a.eval x.2))=vs) (hr:(Instr.buildSlice ty len vs).run P w= .ok v w'):(execOp a.eval o).run P w= .ok (.value v) w':=by
 subst hp
 unfold execOp
 simp only[ho,Sem.run_bind,hr,Result.andThen_ok,Sem.run_pure]
theorem apq{α:Type}{f:α->List Value}{k:Nat}(hk:∀x,(f x).length=k)(h1:∀x,∀v∈f x,v.oneCell'=true){w:World}{o:Oper}{a:Act}(s x:Operand)(t e:TypeId)(i:TypeInfo)(z:Value)(bytes:Nat)
 (ho:o.op= .call {callee:= .builtin .append,args:= #[s,x],argTypes:= #[t,t]}) (ht:P.underlying t=some (.slice e)) (hi:P.info? e=some i) (hz:i.zero=some z) (hz1:i.size=k) (hz2:i.bytes=bytes) (hz3:z.cells.size=k) (hk0:0<k) (hby:bytes<=10000)
 (base:Nat) (v:Value) (n:Nat) (L:List α) (hs:a.eval s=v) (hown:aV w base e k v n (L.flatMap f)) (A:Option Addr) (m c:Nat) (M:List α) (hx:a.eval x= .slice A m c) (hS:dS w A k f M) (hm:M.length=m) (hsz:n+m<=1000000) (hbase:base<=w.heap.size):
 ∃A' cap w',(execOp a.eval o).run P w= .ok (.value (.slice A' (n+m) cap)) w'/\n+m<=cap/\cap<=maxLen/\aV w' base e k (.slice A' (n+m) cap) (n+m) ((L++M).flatMap f)/\w.grownBy w' v.ownBlock:=by
 obtain⟨v',w',hr,h2,h3⟩:=XU (P:=P) hk h1 w t o.type e i z bytes ht hi hz hz1 hz2 hz3 hk0 hby base v n L hown A m c M hS hm hsz hbase
 obtain⟨A',cap,rfl,hc1,hc2⟩:=h2.shape
 refine⟨A',cap,w',?_,hc1,hc2,h2,h3⟩
 unfold execOp
 simp only[ho,resolve,invoke,builtin,Sem.run_bind,Sem.run_pure,Result.andThen_ok,List.map_toArray,List.map_cons,List.map_nil,hs,hx,hr]
theorem jB{α:Type}{f:α->List Value}{k:Nat}(hk:∀x,(f x).length=k)(h1:∀x,∀v∈f x,v.oneCell'=true){w:World}{o:Oper}{a:Act}{K:Act->World->Prop}{Q:Exit->Act->World->Prop}(s x:Operand)(t e:TypeId)(i:TypeInfo)(z:Value)(bytes:Nat)
 (ho:o.op= .call {callee:= .builtin .append,args:= #[s,x],argTypes:= #[t,t]}) (ht:P.underlying t=some (.slice e)) (hi:P.info? e=some i) (hz:i.zero=some z) (hz1:i.size=k) (hz2:i.bytes=bytes) (hz3:z.cells.size=k) (hk0:0<k) (hby:bytes<=10000)
 (base:Nat) (v:Value) (n:Nat) (L:List α) (hs:a.eval s=v) (hown:aV w base e k v n (L.flatMap f)) (A:Option Addr) (m c:Nat) (M:List α) (hx:a.eval x= .slice A m c) (hS:dS w A k f M) (hm:M.length=m) (hsz:n+m<=1000000) (hbase:base<=w.heap.size)
 (h:∀A' cap w',n+m<=cap->cap<=maxLen->aV w' base e k (.slice A' (n+m) cap) (n+m) ((L++M).flatMap f)->w.grownBy w' v.ownBlock->K (a.put o.dst (.slice A' (n+m) cap)) w'):o.wp P a w K Q:=by
 obtain⟨A',cap,w',hr,c1,c2,c3,c4⟩:=apq (P:=P) hk h1 s x t e i z bytes ho ht hi hz hz1 hz2 hz3 hk0 hby base v n L hs hown A m c M hx hS hm hsz hbase
 exact dY hr (h A' cap w' c1 c2 c3 c4)
theorem uT{id:Nat}{K:Exit->Act->World->Prop}{a:Act}{w:World}{l:List Oper}(S:World->Prop)(hm:P.follows .mixedOrders=true)(h:wpAnyH P .any l.toArray K S l.length (Array.replicate l.length false) a w.drew):(Code.region id l.toArray true).wp P K a w:=by
 refine wp_region_any hm ?_
 exact wpAny_of_held _ _ _ _ (by simpa using h)
theorem aey(w:World)(a:Addr)(ty:TypeId)(d:TypeDesc)(v:Value)(hu:P.underlying ty=some d)(hd:d.isRow=false)(hc:w.cell? a=some v):(Instr.loadAt ty (.pointer (some a))).run P w= .ok v w:=by
 have hagg:(isAgg ty).run P w= .ok false w:=by
  unfold isAgg
  rw[Sem.run_bind,run_underlying hu w]
  cases d<;>simp_all
 simp[Instr.loadAt,Instr.sureAddr,loadVar,Sem.run_bind,hagg,hc]
end
theorem aV.empty_(w:World)(base size:Nat)(e:TypeId)(hb:base<=w.heap.size):aV (w.alloc (.cells #[] e)) base e size (.slice (some ⟨w.heap.size,0,none⟩) 0 0) 0 []:=
 ⟨by simp, .inr ⟨w.heap.size,0,#[],(0,0),rfl,hb,ah.new w e #[], .inl rfl,Nat.le_refl _,Nat.zero_le _,by simp,by simp⟩⟩
theorem jW{α:Type}{f:α->List Value}{k:Nat}{w:World}{g:Nat}{t:TypeId}{x:α}(h:ah w g t (f x).toArray):dS w (some ⟨g,0,none⟩) k f [x]:=fun _=>
 ⟨g,0,rfl,h.lt,fun j hj=>by
   obtain rfl:j=0:=by simpa using hj
   simpa using ah.range h⟩
theorem ah.grown{w w':World}{g h:Nat}{t:TypeId}{cs:Array Value}{v:Value}(hb:ah w g t cs)(hg:w.grownBy w' v.ownBlock)(hv:v.ownBlock=some h)(hne:g≠h):ah w' g t cs:=(hg.block g hb.lt (by rw[hv];simpa using hne)).trans hb
end Mem
namespace bP
open Go.RowKit aQ Mem _root_.Go.Proofs.YtbemmjnjoabadaaGreatDoor.Code aY Sign _root_.Go.Proofs.YtbemmjnjoabadaaGreatDoor.Item _root_.Go.Proofs.YtbemmjnjoabadaaGreatDoor.Known
theorem apr:(Tryz.prog.info? 37).map (fun i=>(i.zero,i.size,i.bytes))=some (some (.agg (au aH)),20,264):=by kernel_rfl
theorem vW(x:ak)(w:World):(Instr.buildSlice 38 1 #[(0, .agg (au x))]).run Tryz.prog w= .ok (.slice (some ⟨w.heap.size,0,none⟩) 1 1) (w.alloc (.cells (au x) 37)):=by kernel_rfl
theorem PE(w:World):(Instr.buildSlice 38 0 #[]).run Tryz.prog w= .ok (.slice (some ⟨w.heap.size,0,none⟩) 0 0) (w.alloc (.cells #[] 37)):=by kernel_rfl
theorem nI(x:ak):x.cells.length=20:=rfl
theorem vX(x:ak):∀v∈x.cells,v.oneCell'=true:=by
 have:=dL x
 simpa using this
structure jC(B g:Nat)(X Y:World):Prop where
 low:Below B X Y
 size:X.heap.size<=Y.heap.size
 block:∀b,b<X.heap.size->b≠g->Y.heap[b]?=X.heap[b]?
theorem jC.refl(B g:Nat)(X:World):jC B g X X:=⟨Below.refl _ _,Nat.le_refl _,fun _ _ _=>rfl⟩
theorem jC.trans{B g:Nat}{X Y Z:World}(h:jC B g X Y)(k:jC B g Y Z):jC B g X Z:=⟨h.low.trans k.low,Nat.le_trans h.size k.size,fun b hb hn=>(k.block b (Nat.lt_of_lt_of_le hb h.size) hn).trans (h.block b hb hn)⟩
theorem jC.pV{B g:Nat}{X Y:World}(h:Q X Y)(hB:B<=X.heap.size):jC B g X Y:=⟨h.mono hB,h.size,fun b hb _=>h.block b hb⟩
theorem jC.q{B g:Nat}{X Y Z:World}(h:jC B g X Y)(hq:Q Y Z)(hB:B<=X.heap.size):jC B g X Z:=h.trans (jC.pV hq (Nat.le_trans hB h.size))
theorem jC.far{B g:Nat}{X Y:World}(hl:Below B X Y)(hs:X.heap.size<=Y.heap.size)(h:∀b,b≠g->Y.heap[b]?=X.heap[b]?):jC B g X Y:=⟨hl,hs,fun b _ hn=>h b hn⟩
theorem jC.blk{B g b:Nat}{X Y:World}{t:TypeId}{cs:Array Value}(h:jC B g X Y)(hb:ah X b t cs)(hn:b≠g):ah Y b t cs:=(h.block b hb.lt hn).trans hb
theorem jC.qw{w X Y:World}{g:Nat}(h:jC w.heap.size g X Y)(hq:Q w X):Q w Y:=Below.trans hq h.low
theorem jC.cell{B g b i:Nat}{X Y:World}{v:Value}(h:jC B g X Y)(hb:b<X.heap.size)(hn:b≠g)(hc:X.cell? ⟨b,i,none⟩=some v):Y.cell? ⟨b,i,none⟩=some v:=by
 unfold World.cell? at hc⊢
 rw[h.block b hb hn]
 exact hc
structure Kb(B g:Nat)(W:World) where
 w:World
 k:jC B g W w
def Kb.self(B g:Nat)(W:World):Kb B g W:=⟨W,jC.refl _ _ _⟩
theorem Kb.first(B g:Nat)(W:World):∃y:Kb B g W,W=y.w:=⟨Kb.self B g W,rfl⟩
theorem Kb.next{B g:Nat}{W w':World}(y:Kb B g W)(hq:Q y.w w')(hB:B<=W.heap.size):∃z:Kb B g W,w'=z.w:=⟨⟨w',y.k.q hq hB⟩,rfl⟩
theorem aps{ρ:Operand->Value}{o:Oper}{w:World}(ty:TypeId)(y:Operand)(p:Addr)(v:Value){d:TypeDesc}(hu:Tryz.prog.underlying ty=some d)(hd:d.isRow=false)(ho:o.op= .load ty y)(hy:ρ y= .pointer (some p))(hc:w.cell? p=some v):(execOp ρ o).run Tryz.prog w= .ok (.value v) w:=
 ac5 ty y _ v ho hy (aey w p ty d v hu hd hc)
theorem BK{P:Program}{o:Oper}{a:Act}{w:World}(t e:TypeId)(x i:Operand)(b off n c m k:Nat)(ho:o.op= .indexAddr t x i)(hx:a.eval x= .slice (some ⟨b,off,none⟩) n c)(hi:a.eval i= .int .i64 (m:Int))(ht:P.underlying t=some (.slice e))(he:P.elem t=e)(hs:∀w,(sizeOf e).run P w= .ok k w)(hm:m<n):
 (execOp a.eval o).run P w= .ok (.value (.pointer (some ⟨b,off+m*k,none⟩))) w:=by
 have hr:=run_indexAt_slice (P:=P) (w:=w) t ⟨b,off,none⟩ n c .i64 (m:Int) (by rw[he];exact ht)
 rw[if_pos ⟨by omega,by omega⟩,he,hs,Int.toNat_natCast]at hr
 unfold execOp
 simp only[ho,hx,hi,Sem.run_bind,hr,Result.andThen_ok,Sem.run_pure]
 rw[Addr.add_mid]
theorem aez{P:Program}{o:Oper}{a:Act}{w:World}(ty e:TypeId)(x lo:Operand)(A:Option Addr)(n cap c size:Nat)(ho:o.op= .slice ty x (some lo) none none)
 (ht:P.underlying ty=some (.slice e)) (he:P.elem ty=e) (hs:∀w,(sizeOf e).run P w= .ok size w) (hx:a.eval x= .slice A n cap) (hl:a.eval lo= .int .i64 (c:Int)) (hc:c<=n) (hn:n<=cap):
 (execOp a.eval o).run P w= .ok (.value (.slice (if cap=c then A else A.map (·.add (c*size))) (n-c) (cap-c))) w:=by
 have ht':P.underlying ty=some (.slice (P.elem ty)):=by rw[he];exact ht
 have hr:=run_slice_l (P:=P) w ty A n cap ht' .i64 (c:Int) (by omega) (by omega)
 rw[he,hs]at hr
 unfold execOp
 simp only[ho,hx,hl,Option.map_some,Option.map_none,Sem.run_bind,run_sliceAt_slice (P:=P) w ty _ _ _ _ ht',hr,Result.andThen_ok,Sem.run_pure,sliced,Int.toNat_natCast]
theorem aeA{P:Program}{o:Oper}{a:Act}{w:World}(ty e:TypeId)(x hi:Operand)(A:Option Addr)(n cap k size:Nat)(ho:o.op= .slice ty x none (some hi) none)(ht:P.underlying ty=some (.slice e))(he:P.elem ty=e)(hs:∀w,(sizeOf e).run P w= .ok size w)(hx:a.eval x= .slice A n cap)(hh:a.eval hi= .int .i64 (k:Int))(hk:k<=cap):(execOp a.eval o).run P w= .ok (.value (.slice A k cap)) w:=by
 have ht':P.underlying ty=some (.slice (P.elem ty)):=by rw[he];exact ht
 have hr:=run_slice_h (P:=P) w ty A n cap ht' .i64 (k:Int) (by omega) (by omega)
 rw[he,hs]at hr
 unfold execOp
 simp only[ho,hx,hh,Option.map_some,Option.map_none,Sem.run_bind,run_sliceAt_slice (P:=P) w ty _ _ _ _ ht',hr,Result.andThen_ok,Sem.run_pure,sliced,Int.toNat_natCast]
 cases A with
 |none=>simp
 |some p=>
  have e:p.add 0=p:=by
   cases p
   unfold Addr.add
   split<;>simp_all
  simp[e]
theorem aeB{α:Type}{f:α->List Value}{n:Nat}{w:World}{A:Option Addr}{l:List α}(h:dS w A n f l)(k:Nat):dS w A n f (l.take k):=fun h0=>by
 rw[List.length_take]at h0
 obtain⟨b,o,e,hb,hc⟩:=h (by omega)
 refine⟨b,o,e,hb,fun j hj=> ?_⟩
 rw[List.length_take]at hj
 have h2:=hc j (by omega)
 rw[List.getElem_take]
 exact h2
theorem oJ{op:Oper}{a:Act}{w:World}{K:Act->World->Prop}{Q:Exit->Act->World->Prop}{g o:Nat}{t:TypeId}{cs:List Value}(hb:ah w g t cs.toArray)(ty:TypeId)(x y:Operand)(vs:List Value)(ho:op.op= .store ty x y)
 (hx:a.eval x= .pointer (some ⟨g,o,none⟩)) (hy:a.eval y= .agg vs.toArray) (hi:(Tryz.prog.info? ty).map (·.size)=some vs.length) (h1:vs.toArray.all (·.oneCell')=true) (hl:o+vs.length<=cs.length)
 (h:∀W,ah W g t (splice cs o vs).toArray->(∀B w0,B<=g->Below B w0 w->Below B w0 W)->(∀k,k≠g->W.heap[k]?=w.heap[k]?)->K (a.put op.dst undef) W):op.wp Tryz.prog a w K Q:=
 wp_store_mid ty x y ho g o vs.toArray hx hy (by simpa using hb.there hl) (by simpa using hi) h1 (by
  have:=h _ (ah.setCells vs o cs w hb hl) (fun B w0 hB hw=>below_setCells hB vs o w0 w hw) (fun k hk=>tY hk vs o w)
  simpa using this)
end bP
namespace bP
open Go.RowKit aQ Mem
theorem oK{ρ:Operand->Value}{o:Oper}{w:World}{ty:TypeId}{y:Operand}{p:Addr}{v:Value}{d:TypeDesc}(hu:Tryz.prog.underlying ty=some d)(hc:w.cell? p=some v)(hd:d.isRow=false:=by rfl)(ho:o.op= .load ty y:=by rfl)(hy:ρ y= .pointer (some p):=by rfl):(execOp ρ o).run Tryz.prog w= .ok (.value v) w:=aps ty y p v hu hd ho hy hc
end bP
namespace Mem
open Go.RowKit aQ
section
variable {P:Program} {md:Region.Mode} {S:World->Prop}
theorem aw4{K:Exit->Act->World->Prop}{l:List Oper}(k:Nat){o:Oper}{f:Nat}{s:Array Bool}{a:Act}{w:World}(hi:l[k]?=some o)(hr:Region.ready md l.toArray s=[k])(hg:Region.wanted o (yielded l.toArray a.tmps)=true)
 (h:∀K':Act->World->Prop,(∀a w,S w->wpAnyH P md l.toArray K S f (s.setIfInBounds k true) a w->K' a w)->o.wp P a w K' K):wpAnyH P md l.toArray K S (f+1) s a w:=by
 refine wpAnyH_ready hr (by simp) (AllReadyH.cons (by simpa using hi) (fun K' hK=> ?_) AllReadyH.nil)
 rw[if_pos hg]
 exact h K' fun a w hS hW=>hK.out a w hS fun _=>hW
theorem aw5{K:Exit->Act->World->Prop}{l:List Oper}(k:Nat){o:Oper}{v:Value}{f:Nat}{s:Array Bool}{a:Act}{w:World}(hi:l[k]?=some o)(hsel:Region.noSelect l.toArray=true)(hf:Region.free md l.toArray s k=true)(hr:(Region.ready md l.toArray s).contains k=true)
 (hQ:∀c (a:Act) d v w,K (.panic c) (Act.put a d v) w->K (.panic c) a w) (hg:Region.wanted o (yielded l.toArray a.tmps)=true) (hS:S w) (hv:∀w,(execOp a.eval o).run P w= .ok (.value v) w) (h:wpAnyH P md l.toArray K S f (s.setIfInBounds k true) (a.put o.dst v) w):wpAnyH P md l.toArray K S (f+1) s a w:=
 wpAnyH_take (by simpa using hi) hsel hf hr (fun c a w=>hQ c a o.dst v w) (Or.inl ⟨hg,fun w _=>hv w⟩) hS h
theorem aw6{K:Exit->Act->World->Prop}{l:List Oper}(k:Nat){o:Oper}{v:Value}{f:Nat}{s:Array Bool}{a:Act}{w:World}(hi:l[k]?=some o)(hsel:Region.noSelect l.toArray=true)(hf:Region.free md l.toArray s k=true)(hr:(Region.ready md l.toArray s).contains k=true)
 (hQ:∀c (a:Act) d v w,K (.panic c) (Act.put a d v) w->K (.panic c) a w) (hg:Region.wanted o (yielded l.toArray a.tmps)=true) (hS:S w) (hv:∀z,S z->(execOp a.eval o).run P z= .ok (.value v) z) (h:wpAnyH P md l.toArray K S f (s.setIfInBounds k true) (a.put o.dst v) w):wpAnyH P md l.toArray K S (f+1) s a w:=
 wpAnyH_take (by simpa using hi) hsel hf hr (fun c a w=>hQ c a o.dst v w) (Or.inl ⟨hg,hv⟩) hS h
theorem aw7{ρ:Operand->Value}{o:Oper}{w:World}(x:Operand)(t e:TypeId)(A:Option Addr)(n c:Nat)(ho:o.op= .call {callee:= .builtin .len,args:= #[x],argTypes:= #[t]})(hx:ρ x= .slice A n c)(ht:P.underlying t=some (.slice e)):(execOp ρ o).run P w= .ok (.value (.int .i64 (n:Int))) w:=by
 have hr:(Builtin.len_ #[t] o.type #[.slice A n c]).run P w= .ok (.int .i64 n) w:=by simp[Builtin.len_,run_underlying ht,goInt]
 unfold execOp
 simp only[ho,resolve,invoke,builtin,Sem.run_bind,Sem.run_pure,Result.andThen_ok,List.map_toArray,List.map_cons,List.map_nil,hx,hr]
end
section
variable {P:Program} {md:Region.Mode} {S:World->Prop}
theorem oQ{K:Exit->Act->World->Prop}{l:List Oper}(k:Nat){o:Oper}(v:Value){f:Nat}{s:Array Bool}{a:Act}{w:World}(hS:S w)(h:wpAnyH P md l.toArray K S f (s.setIfInBounds k true) (a.put o.dst v) w)(hi:l[k]?=some o:=by rfl)(hsel:Region.noSelect l.toArray=true:=by kernel_rfl)(hf:Region.free md l.toArray s k=true:=by kernel_rfl)(hr:(Region.ready md l.toArray s).contains k=true:=by kernel_rfl)(hQ:∀c (a:Act) d v w,K (.panic c) (Act.put a d v) w->K (.panic c) a w:=by intro c a d v w h;cases d<;>exact h)(hg:Region.wanted o (yielded l.toArray a.tmps)=true:=by kernel_rfl)(hv:∀w,(execOp a.eval o).run P w= .ok (.value v) w:=by intro w;rfl):wpAnyH P md l.toArray K S (f+1) s a w:=
 aw5 k hi hsel hf hr hQ hg hS hv h
theorem Le{K:Exit->Act->World->Prop}{l:List Oper}(k:Nat){o:Oper}(v:Value){f:Nat}{s:Array Bool}{a:Act}{w:World}(hi:l[k]?=some o)(hS:S w)(hv:∀z,S z->(execOp a.eval o).run P z= .ok (.value v) z)(h:wpAnyH P md l.toArray K S f (s.setIfInBounds k true) (a.put o.dst v) w)(hsel:Region.noSelect l.toArray=true:=by kernel_rfl)(hf:Region.free md l.toArray s k=true:=by kernel_rfl)(hr:(Region.ready md l.toArray s).contains k=true:=by kernel_rfl)(hQ:∀c (a:Act) d v w,K (.panic c) (Act.put a d v) w->K (.panic c) a w:=by intro c a d v w h;cases d<;>exact h)(hg:Region.wanted o (yielded l.toArray a.tmps)=true:=by kernel_rfl):wpAnyH P md l.toArray K S (f+1) s a w:=
 aw6 k hi hsel hf hr hQ hg hS hv h
theorem WW{K:Exit->Act->World->Prop}{l:List Oper}(k:Nat){o:Oper}{f:Nat}{s:Array Bool}{a:Act}{w:World}(h:∀K':Act->World->Prop,(∀a w,S w->wpAnyH P md l.toArray K S f (s.setIfInBounds k true) a w->K' a w)->o.wp P a w K' K)(hi:l[k]?=some o:=by rfl)(hr:Region.ready md l.toArray s=[k]:=by kernel_rfl)(hg:Region.wanted o (yielded l.toArray a.tmps)=true:=by kernel_rfl):wpAnyH P md l.toArray K S (f+1) s a w:=
 aw4 k hi hr hg h
end
end Mem
end Go.Proofs.YtbemmjnjoabadaaGreatDoor
