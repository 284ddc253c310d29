/- part 30 -/
import Derived.Test.YtbemmjnjoabadaaGreatDoorK24
import Derived.Test.YtbemmjnjoabadaaGreatDoorK22
set_option linter.unusedVariables false
set_option linter.unusedSimpArgs false
set_option maxHeartbeats 16000000
set_option maxRecDepth 100000
namespace Go.Proofs.YtbemmjnjoabadaaGreatDoor
namespace bP
open Go.RowKit aQ Mem _root_.Go.Proofs.YtbemmjnjoabadaaGreatDoor.Code aY Sign _root_.Go.Proofs.YtbemmjnjoabadaaGreatDoor.Item _root_.Go.Proofs.YtbemmjnjoabadaaGreatDoor.Known
def gu:Option Addr->List Nat
 |some a=>[a.block]
 |none=>[]
theorem gY.blk{α:Type}{f:α->List Value}{k:Nat}{w:World}{h:Nat}{t:TypeId}{x:α}{gs:List Nat}(hb:ah w h t (f x).toArray)(hn:h∉gs):gY gs w (some ⟨h,0,none⟩) k f [x]:=fun h0=>by
 obtain⟨b,o,e,h1,h2⟩:=jW (k:=k) hb h0
 injection e with e
 injection e with e e2
 subst e e2
 exact⟨h,0,rfl,hn,h1,h2⟩
theorem Aw{cs:List ay}{c5:ay}{D A9:Option Addr}{n n9 cd c9:Nat}{z w9:World}(h1:∀x∈cs,dw (gu D) z x)(h2:dw (gu D) z c5)(hg:z.grownBy w9 (Value.slice D n cd).ownBlock)(hs:∀g∈gu D,g<z.heap.size)
 (hw:(Value.slice A9 n9 c9).ownBlock=(Value.slice D n cd).ownBlock∨(Value.slice A9 n9 c9).ownBlock=some z.heap.size):∀x∈cs++[c5],dw (gu A9) w9 x:=by
 have hD:∀a,D=some a->a.block∈gu D:=fun a e=>by rw[e];simp[gu]
 intro x hx
 have hx1:dw (gu D) z x:=by
  rcases List.mem_append.1 hx with hx|hx
  ·exact h1 x hx
  ·rw[List.mem_singleton]at hx
   rw[hx]
   exact h2
 have hx2:dw (z.heap.size::gu D) z x:=hx1.sub fun g hg=>by
  rcases List.mem_cons.1 hg with e|e
  ·exact .inr (by omega)
  ·exact .inl e
 have hx3:dw (z.heap.size::gu D) w9 x:=⟨Ia hx2.acts hg hD,fun a ha=>⟨Ia (hx2.each a ha).to hg hD,Ia (hx2.each a ha).wraps hg hD,(hx2.each a ha).toC,(hx2.each a ha).dF⟩,hx2.aC,Ia hx2.keys hg hD,hx2.kC⟩
 refine hx3.sub fun g hgm=> .inl ?_
 cases A9 with
 |none=>cases hgm
 |some a=>
  have hga:g=a.block:=by simpa[gu]using hgm
  rcases hw with e|e
  ·cases D with
   |none=>cases e
   |some d=>
    have:a.block=d.block:=by injection e
    rw[hga,this]
    exact List.mem_cons_of_mem _ (by simp[gu])
  ·have:a.block=z.heap.size:=by injection e
   rw[hga,this]
   exact List.mem_cons_self ..
def uF(x:ByteArray):ay:={fE with id:=x}
def qj(i:Nat):ak:={iW (uF (dn i)) 0 0 with text:=lI,n:=(aG i).2}
def uG(i:Nat):ak:=gU (aG i) (qj i)
def jD(i:Nat):ay:={fE with id:=dn i,acts:=[aP (uG i)],keys:=[⟨0,(uG i).n,0⟩],prev:=bY (uG i)}
def yj(k:Nat):List ay:=(List.range k).map jD
theorem asj(k:Nat):yj (k+1)=yj k++[jD k]:=by
 unfold yj
 rw[List.range_succ,List.map_append]
 rfl
def Zr(w:World)(e:Ending)(w':World):Prop:=∃(A:Option Addr) (c:Nat) (cs:List ay),e= .returned (.slice A cs.length c)/\cs.length<=c/\c<=maxLen/\aV w' w.heap.size 41 6 (.slice A cs.length c) cs.length (cs.flatMap ay.cells)/\(∀x∈cs,dw (gu A) w' x)/\cs.map aN=yj 4/\Q w w'
theorem Az(c:ay):c.cells.length=6:=rfl
theorem AB(c:ay):∀v∈c.cells,v.oneCell'=true:=by simp[ay.cells,Value.oneCell']
theorem asl:(Tryz.prog.info? 41).map (fun i=>(i.zero,i.size,i.bytes))=some (some (.agg (aF fE)),6,96):=by kernel_rfl
theorem asn(a:ak)(t:ByteArray):splice a.cells 10 [.string t]=({a with text:=t}:ak).cells:=rfl
theorem aso(a:ak)(n:Int):splice a.cells 16 [.int .i64 n]=({a with n:=n}:ak).cells:=rfl
theorem asq(x:ByteArray)(w:World):(Instr.build 41 #[(0, .string x)]).run Tryz.prog w= .ok (.agg (aF (uF x))) w:=by kernel_rfl
theorem AL(x:ByteArray)(A B:Option Addr)(n m c d:Nat)(y:ByteArray)(w:World):(Instr.build 41 #[(0, .string x),(1, .slice A n c),(2, .slice B m d),(3, .string y)]).run Tryz.prog w= .ok (.agg #[.string x, .slice A n c, .slice B m d, .string y, .int .i64 0, .bool false]) w:=by kernel_rfl
theorem asr(p:Int)(w:World):(Instr.build 111 #[(1, .int .i64 p)]).run Tryz.prog w= .ok (.agg #[.int .i64 0, .int .i64 p, .int .i64 0]) w:=by kernel_rfl
theorem FY(k:iJ)(w:World):(Instr.buildSlice 39 1 #[(0, .agg (dV k))]).run Tryz.prog w= .ok (.slice (some ⟨w.heap.size,0,none⟩) 1 1) (w.alloc (.cells (dV k) 111)):=by kernel_rfl
theorem AO(c:ay)(w:World):(Instr.buildSlice 24 1 #[(0, .agg (aF c))]).run Tryz.prog w= .ok (.slice (some ⟨w.heap.size,0,none⟩) 1 1) (w.alloc (.cells (aF c) 41)):=by kernel_rfl
theorem asu(k:Int×Int)(a:ak)(h:jU a):jU (gU k a):=by
 unfold gU
 split
 ·exact h
 ·exact⟨Nat.zero_le _,Nat.zero_le _⟩
theorem asv(i:Nat):jU (uG i):=asu _ _ ⟨Nat.zero_le _,Nat.zero_le _⟩
theorem asw(w:World)(hT:Tab w):Calls Tryz.prog 29 #[] w (Zr w):=by
 have hmx:maxLen=9223372036854775807:=by decide
 obtain⟨i0,hi,jq,hz1,hz2⟩:=info_parts asl
 have hId:=fun(k:Nat) (hk:k<4) (y:Wd w)=>Vb k y.w (hT.q y.q) (by omega)
 have gq:=fun(k:Nat) (hk:k<4) (y:Wd w)=>Ib k y.w (hT.q y.q) (by omega)
 have hfl:=fun(k:Nat) w=>NC 1 (aG k).2 (aG k).1 (aG k).2 w (.inr ⟨rfl,rfl⟩)
 have hDr:=fun(x:ByteArray) (y:Wd w)=>JH (uF x) 0 0 y.w
 have hbc:∀(x:ByteArray) w,(Instr.build 41 #[(0, .string x)]).run Tryz.prog w= .ok (.agg (aF (uF x))) w:=asq
 obtain⟨v0,hv0⟩:=Wd.first w
 refine(show Calls Tryz.prog 29 #[] v0.w _->_ from fun h=>by rwa[<-hv0]at h) ?_
 clear hv0
 go_enter Tryz.func29,Tryz.ntmps29
 go_wp2_with fail
 go_loopw [1,2] (fun a i wr=>∃(k:Nat) (D:Option Addr) (cd:Nat) (cs:List ay) (z:Wd w),a= .slice D cs.length cd/\i= .int .i64 k/\wr=z.w/\k<=4/\k=cs.length/\cs.length<=cd/\cd<=maxLen/\Hid (cs.map aN=yj k)/\aV z.w w.heap.size 41 6 (.slice D cs.length cd) cs.length (cs.flatMap ay.cells)/\Hid (∀x∈cs,dw (gu D) z.w x)) (fun _ i _=>4-(intOf i).toNat)
 case atStart=>exact⟨0,none,0,[],v0,rfl,rfl,rfl,Nat.zero_le _,rfl,Nat.zero_le _,Nat.zero_le _,Lib.hid rfl,aV.nil_ _ _ _ _,Lib.hid (by simp)⟩
 case round=>
  obtain⟨k,D,cd,cs,z,rfl,rfl,rfl,hk,rfl,hsc,hcm,hss,hown,hof⟩:=hrel
  by_cases hkl:cs.length<4
  ·have Vf:(cs.length:Int)<4:=by omega
   have mZ:=hId cs.length hkl
   have hK5:=gq cs.length hkl
   have hf5:=hfl cs.length
   have hk1:=Qc cs.length
   have hk2:=U9 cs.length
   have lM:=Lib.hid (asj cs.length)
   have zA:=Lib.hid (show jD cs.length={uF (dn cs.length)with acts:=[aP (uG cs.length)],keys:=[⟨0,(uG cs.length).n,0⟩],prev:=bY (uG cs.length)}from rfl)
   have HBA:=Lib.hid (show uG cs.length=gU (aG cs.length) {iW (uF (dn cs.length)) 0 0 with text:=lI,n:=(aG cs.length).2}from rfl)
   unfold bH at hK5
   have asx:jU (uG cs.length):=asv cs.length
   generalize jD cs.length=BC at*
   generalize uG cs.length=BA at*
   generalize dn cs.length=id at*
   generalize aG cs.length=kk at*
   have hD5:=hDr id
   have hb5:=hbc id
   clear hId gq hfl hDr hbc
   have agv:∀w,bU w (iW (uF id) 0 0):=fun w=>⟨fun h=>absurd h (Nat.lt_irrefl 0),fun h=>absurd h (Nat.lt_irrefl 0),⟨Nat.le_refl _,Nat.zero_le _⟩,⟨Nat.le_refl _,Nat.zero_le _⟩⟩
   have hdl:(iW (uF id) 0 0).to.length=0/\(iW (uF id) 0 0).wraps.length=0:=⟨rfl,rfl⟩
   have ayg:uF id={fE with id:=id}:=rfl
   generalize hd0:iW (uF id) 0 0=d0 at*
   go_upto_region 6 with(first|(go_at_call 11;refine(mZ _).mono ?_;rintro e w5 ⟨rfl,hq2⟩;obtain⟨y1,rfl⟩:=Wd.next z hq2;have hqa:=hq2)|(go_at_call 31;refine(hD5 _).mono ?_;rintro e w5 ⟨rfl,hq2⟩;obtain⟨y2,rfl⟩:=Wd.next y1 hq2;have Vu:=Q.trans hqa hq2)|(refine fM (ah.new y2.w 37 aH.cells.toArray) rfl 37 (.tmp 3) (.tmp 11) d0.cells rfl rfl rfl (by kernel_rfl) (dL _) (Nat.le_refl 20) ?_))
   intro W hW hbel
   rw[bC _ _ (by rfl)]at hW
   have agw:Q z.w W:=hbel _ _ Vu.size (Q.trans Vu (aO _ _ _))
   have hg3:z.w.heap.size<=y2.w.heap.size:=Vu.size
   clear hbel hD5 hb5 hqa Vu
   generalize y2.w.heap.size=g3 at*
   have c10:W.cell? ⟨g3,10,none⟩=some (.string d0.text):=hW.cell 10
   have f10:W.frozen? ⟨g3,10,none⟩=false:=hW.frozen 10
   have yh:=ah.setCells [.string lI] 10 _ W hW (show 11<=20 by decide)
   rw[asn]at yh
   have hq6:Q z.w (W.setCells g3 10 [.string lI]):=below_setCells hg3 [.string lI] 10 z.w W agw
   have Zt:=Q.trans z.q hq6
   clear agw
   go_upto_region 7 with(fail)
   obtain⟨W6,Zu⟩:∃W6,W.setCell ⟨g3,10,none⟩ (.string ⟨#[97,99,116,111,114]⟩)=W6:=⟨_,rfl⟩
   have agx:W.setCells g3 10 [.string lI]=W6:=Zu
   rw[agx]at yh hq6 Zt
   rw[Zu]
   clear Zu agx c10 f10 hW
   generalize hd1:({d0 with text:=lI}:ak)=d1 at*
   have hK6:∀y:Wd W6,Calls Tryz.prog 23 #[.int .i64 cs.length] y.w fun e w'=>e= .returned (.agg #[.int .i64 kk.1, .int .i64 kk.2])/\Q y.w w':=fun y=>hK5 ⟨y.w,Q.trans Zt y.q⟩
   have c16:=aB (.int .i64 d1.n) yh 16
   have f16:=bI yh 16
   obtain⟨x6,hx6⟩:=Wd.first W6
   rw[hx6]
   clear hx6
   go_upto_region 8 with(go_at_call 23;refine(hK6 _).mono ?_;rintro e w5 ⟨rfl,hq2⟩;obtain⟨y7,rfl⟩:=Wd.next x6 hq2)
   have Ik:=ah.setCells [.int .i64 kk.2] 16 _ y7.w (y7.blk yh) (show 17<=20 by decide)
   rw[aso]at Ik
   have hq7:Q z.w (y7.w.setCells g3 16 [.int .i64 kk.2]):=below_setCells hg3 [.int .i64 kk.2] 16 z.w y7.w (Q.trans hq6 y7.q)
   obtain⟨W7,Zv⟩:∃W7,y7.w.setCell ⟨g3,16,none⟩ (.int .i64 kk.2)=W7:=⟨_,rfl⟩
   have agy:y7.w.setCells g3 16 [.int .i64 kk.2]=W7:=Zv
   rw[agy]at Ik hq7
   rw[Zv]
   clear Zv agy c16 f16 yh hq6 Zt hK6 hq2
   clear y7 x6
   have Ho:BA=gU kk ({d1 with n:=kk.2}:ak):=by rw[HBA.out,<-hd1]
   have asy:∀w,bU w ({d1 with n:=kk.2}:ak):=fun w=>by
    have h:=agv w
    rw[<-hd1]
    exact⟨h.to,h.wraps,h.toC,h.dF⟩
   have ayh:({d1 with n:=kk.2}:ak).to.length=0/\({d1 with n:=kk.2}:ak).wraps.length=0:=by rw[<-hd1];exact hdl
   generalize ({d1 with n:=kk.2}:ak)=d2 at*
   clear agv hdl hd1 HBA
   have hDlt:∀g∈gu D,g<z.w.heap.size:=fun g hg=>by
    cases D with
    |none=>cases hg
    |some a=>
     have:g=a.block:=by simpa[gu]using hg
     rw[this]
     exact(hown.lt a.block rfl).2
   have hD3:(Value.slice D cs.length cd).ownBlock≠some g3:=fun e=>by
    have:=(hown.lt g3 e).2
    omega
   have hK8:∀y:Wd W7,Calls Tryz.prog 23 #[.int .i64 cs.length] y.w fun e w'=>e= .returned (.agg #[.int .i64 kk.1, .int .i64 kk.2])/\Q y.w w':=fun y=>hK5 ⟨y.w,Q.trans (Q.trans z.q hq7) y.q⟩
   have jo:∀y:Wd W7,Calls Tryz.prog 32 #[.agg (bH kk), .agg (au d2)] y.w (L9 (gU kk d2) y.w):=fun y=>JE kk d2 y.w (hT.q (Q.trans (Q.trans z.q hq7) y.q)) hk2 hk1 (asy _) (by omega) (by omega)
   unfold L9 bH at jo
   rw[<-Ho]at jo
   have dh:∀y:Wd W7,(Instr.loadAt 37 (.pointer (some ⟨g3,0,none⟩))).run Tryz.prog y.w= .ok (.agg (au d2)) y.w:=fun y=>Wd.load (y.blk Ik).lt (ah.range (y.blk Ik)) Tryz.underlying37 rfl (by kernel_rfl) ⟨y.w,Q.refl _⟩
   have hzW:=hq7.size
   have ayj:=Ik.lt
   go_upto_region 8 with(fail)
   rename_i K9 agz ayk K8 agA
   have agB:∀(V:World) (a2:ak) {v4 v5 v6 v7 v8 v9 v10 v11 v12 v13 v14 v15 v16 v17 v18 v19 v20 v21 v22 v23 v24 v25 v26 v27 v28 v29 v30 v31 v32 v33 v34:Value},Q z.w V->ah V g3 37 a2.cells.toArray->aP a2=aP BA->bU V a2->iy (gu D) V a2->K8 {tmps:= #[.slice none 0 0, .slice D cs.length cd, .int .i64 (cs.length:Int), .pointer (some ⟨g3,0,none⟩),v4,v5,v6,v7,v8,v9,v10,v11,v12,v13,v14,v15,v16,v17,v18,v19,v20,v21,v22,v23,v24,v25,v26,v27,v28,v29,v30,v31,v32,v33,v34,undef],defers:=[]} V:=by
    intro V a2 v4 v5 v6 v7 v8 v9 v10 v11 v12 v13 v14 v15 v16 v17 v18 v19 v20 v21 v22 v23 v24 v25 v26 v27 v28 v29 v30 v31 v32 v33 v34 aK hV hba ql vC
    refine agA _ _ ?_
    clear agA
    dsimp only
    have ku:=hown.q aK
    have zB:∀x∈cs,dw (gu D) V x:=fun x hx=>(hof.out x hx).q aK
    have hsa:jU a2:=Ns hba asx
    have hdg:bY a2=bY BA:=Pj hba
    have lN:=Q.trans z.q aK
    have QE:∀y,Q V y->Calls Tryz.prog 11 #[.int .i64 cs.length] y fun e w'=>e= .returned (.string id)/\Q y w':=fun y hy=>mZ ⟨y,Q.trans lN hy⟩
    have yu:∀y,Q V y->Calls Tryz.prog 35 #[.agg (au a2)] y fun e w'=>e= .returned (.string (bY a2))/\Q y w':=fun y hy=>Yp a2 y (hT.q (Q.trans lN hy)) (ql.q hy) hsa
    have YG:=aK.size
    clear hK8 jo dh Ik hq7
    go_upto_region 9 with(fail)
    have uH:∀(A9:Option Addr) (c9:Nat) (c5:ay) (w9:World) {v3 v4 v5 v6 v7 v8 v9 v10 v11 v12 v13 v14 v15 v16 v17 v18 v19 v20 v21 v22 v23 v24 v25 v26 v27 v28 v29 v30 v31 v32 v33 v34:Value},Q w w9->cs.length+1<=c9->c9<=maxLen->aV w9 w.heap.size 41 6 (.slice A9 (cs.length+1) c9) (cs.length+1) ((cs++[c5]).flatMap ay.cells)->(∀x∈cs++[c5],dw (gu A9) w9 x)->aN c5=BC->K9 {tmps:= #[.slice none 0 0, .slice A9 (cs.length+1) c9, .int .i64 (cs.length:Int),v3,v4,v5,v6,v7,v8,v9,v10,v11,v12,v13,v14,v15,v16,v17,v18,v19,v20,v21,v22,v23,v24,v25,v26,v27,v28,v29,v30,v31,v32,v33,v34,undef],defers:=[]} w9:=by
     intro A9 c9 c5 w9 v3 v4 v5 v6 v7 v8 v9 v10 v11 v12 v13 v14 v15 v16 v17 v18 v19 v20 v21 v22 v23 v24 v25 v26 v27 v28 v29 v30 v31 v32 v33 v34 bD jS jd jJ lQ hcB
     refine agz _ _ ?_
     clear agz
     dsimp only
     have lQ:=Lib.hid lQ
     have hlen:(cs++[c5]).length=cs.length+1:=by simp
     have HS9:Hid ((cs++[c5]).map aN=yj (cs.length+1)):=Lib.hid (by rw[lM.out,List.map_append,hss.out,List.map_cons,List.map_nil,hcB])
     rw[<-hlen]at jJ
     have FD:=Lib.hid jJ
     rw[<-hlen]at jS
     clear jJ hown hss hof zB ku hV vC ql hba zA lM hlen
     go_wp2_with fail
     exact⟨⟨cs.length+1,A9,c9,cs++[c5],⟨w9,bD⟩,by simp,by go_num,rfl,by omega,by simp,jS,jd,HS9,FD.out,lQ⟩,by simp only[intOf];omega⟩
    refine uT (fun y=>Q w y/\ah y g3 37 (au a2)) (by kernel_rfl) ?_
    have jS:∀y,(Q w y/\ah y g3 37 (au a2))->(Instr.loadAt 37 (.pointer (some ⟨g3,0,none⟩))).run Tryz.prog y= .ok (.agg (au a2)) y:=fun y hy=>Wd.load (cs:=a2.cells) hy.2.lt (ah.range hy.2) Tryz.underlying37 rfl (by kernel_rfl) ⟨y,Q.refl _⟩
    have kU:∀y,(Q w y/\ah y g3 37 (au a2))->y.cell? ⟨g3,16,none⟩=some (.int .i64 a2.n):=fun y hy=>hy.2.cell 16
    have dU:∀y,Q V y->Q w y/\ah y g3 37 (au a2):=fun y hy=>⟨Q.trans lN hy,hV.q hy⟩
    have hp0:Q V V.drew:=(Q.refl _).drew
    obtain⟨p0,agC⟩:∃p0,V.drew=p0:=⟨_,rfl⟩
    rw[agC]at hp0⊢
    clear agC
    refine aS 0 (.slice D cs.length cd) (dU _ hp0) ?_
    try simp only[aax]
    refine aS 1 (.int .i64 (cs.length:Int)) (dU _ hp0) ?_
    try simp only[aax]
    refine V7 3 (.agg (au a2)) rfl (dU _ hp0) (fun z hz=>oV (jS z hz)) ?_
    try simp only[aax]
    refine aS 5 (.pointer (some ⟨g3,16,none⟩)) (dU _ hp0) ?_
    try simp only[aax]
    refine V7 6 (.int .i64 a2.n) rfl (dU _ hp0) (fun z hz=>oK Tryz.underlying3 (kU z hz)) ?_
    try simp only[aax]
    refine V7 7 (.agg (dV ⟨0,a2.n,0⟩)) rfl (dU _ hp0) (fun z hz=>vT 111 _ #[(1, .int .i64 a2.n)] _ rfl (by simp only[List.map_toArray,List.map_cons,List.map_nil];rfl) (asr a2.n z)) ?_
    try simp only[aax]
    refine V7 9 (.agg (au a2)) rfl (dU _ hp0) (fun z hz=>oV (jS z hz)) ?_
    try simp only[aax]
    refine Yu 2 4 8 rfl rfl rfl (by kernel_rfl) rfl rfl rfl (fun K' hK'=> ?_) (fun K' hK'=> ?_) (fun K' hK'=> ?_)
    focus
     go_simp
     refine(QE p0 hp0).mono ?_
     rintro e p1 ⟨rfl,hc1⟩
     have hp1:=Q.trans hp0 hc1
     refine hK' _ _ (dU _ hp1) ?_
     clear hK' K'
     try simp only[aax]
     refine Yu 4 8 10 rfl rfl rfl (by kernel_rfl) rfl rfl rfl (fun K' hK'=> ?_) (fun K' hK'=> ?_) (fun K' hK'=> ?_)
     focus
      refine dY (fQ 38 1 _ #[(0, .agg (au a2))] _ rfl (by simp only[List.map_toArray,List.map_cons,List.map_nil];rfl) (vW a2 p1)) ?_
      have hp2:Q V (p1.alloc (.cells (au a2) 37)):=Q.trans hp1 (Below.alloc (Q.refl _) (Nat.le_refl _) _)
      have Zw:=ah.new p1 37 (au a2)
      refine hK' _ _ (dU _ hp2) ?_
      clear hK' K'
      try simp only[aax]
      have sz2:=hp1.size
      obtain⟨p2,pe2⟩:∃p2,p1.alloc (.cells (au a2) 37)=p2:=⟨_,rfl⟩
      rw[pe2]at hp2 Zw⊢
      clear pe2
      refine kL 8 10 (fun K' hK'=> ?_) fun K' hK'=> ?_
      focus
       refine dY (fQ 39 1 _ #[(0, .agg (dV ⟨0,a2.n,0⟩))] _ rfl (by simp only[List.map_toArray,List.map_cons,List.map_nil];rfl) (FY ⟨0,a2.n,0⟩ p2)) ?_
       have hp3:Q V (p2.alloc (.cells (dV ⟨0,a2.n,0⟩) 111)):=Q.trans hp2 (Below.alloc (Q.refl _) (Nat.le_refl _) _)
       have ba3:=Zw.alloc (.cells (dV ⟨0,a2.n,0⟩) 111)
       have QB:=ah.new p2 111 (dV ⟨0,a2.n,0⟩)
       refine hK' _ _ (dU _ hp3) ?_
       clear hK' K'
       try simp only[aax]
       have sz3:=hp2.size
       obtain⟨p3,pe3⟩:∃p3,p2.alloc (.cells (dV ⟨0,a2.n,0⟩) 111)=p3:=⟨_,rfl⟩
       rw[pe3]at hp3 ba3 QB⊢
       clear pe3
       refine aW 10 fun K' hK'=> ?_
       go_simp
       refine(yu p3 hp3).mono ?_
       rintro e p4 ⟨rfl,hc4⟩
       have yw:=Q.trans hp3 hc4
       have ba4:=ba3.q hc4
       have UW:=QB.q hc4
       refine hK' _ _ (dU _ yw) ?_
       clear hK' K'
       try simp only[aax]
       obtain⟨ga,hga⟩:∃g,p1.heap.size=g:=⟨_,rfl⟩
       obtain⟨gk,hgk⟩:∃g,p2.heap.size=g:=⟨_,rfl⟩
       obtain⟨V9,hez⟩:∃p,p4=p:=⟨_,rfl⟩
       have hsa:V.heap.size<=ga:=by omega
       have hsk:V.heap.size<=gk:=by omega
       have bA:=ba4
       have aay:=UW
       have hpz:=yw
      rotate_left
      focus
       go_simp
       refine(yu p2 hp2).mono ?_
       rintro e p6 ⟨rfl,hc6⟩
       have Il:=Q.trans hp2 hc6
       have ba6:=Zw.q hc6
       refine hK' _ _ (dU _ Il) ?_
       clear hK' K'
       try simp only[aax]
       refine aW 8 fun K' hK'=> ?_
       refine dY (fQ 39 1 _ #[(0, .agg (dV ⟨0,a2.n,0⟩))] _ rfl (by simp only[List.map_toArray,List.map_cons,List.map_nil];rfl) (FY ⟨0,a2.n,0⟩ p6)) ?_
       have QF:Q V (p6.alloc (.cells (dV ⟨0,a2.n,0⟩) 111)):=Q.trans Il (Below.alloc (Q.refl _) (Nat.le_refl _) _)
       have ba7:=ba6.alloc (.cells (dV ⟨0,a2.n,0⟩) 111)
       have MV:=ah.new p6 111 (dV ⟨0,a2.n,0⟩)
       refine hK' _ _ (dU _ QF) ?_
       clear hK' K'
       try simp only[aax]
       have sz7:=Il.size
       obtain⟨p7,pe7⟩:∃p7,p6.alloc (.cells (dV ⟨0,a2.n,0⟩) 111)=p7:=⟨_,rfl⟩
       rw[pe7]at QF ba7 MV⊢
       clear pe7
       obtain⟨ga,hga⟩:∃g,p1.heap.size=g:=⟨_,rfl⟩
       obtain⟨gk,hgk⟩:∃g,p6.heap.size=g:=⟨_,rfl⟩
       obtain⟨V9,hez⟩:∃p,p7=p:=⟨_,rfl⟩
       have hsa:V.heap.size<=ga:=by omega
       have hsk:V.heap.size<=gk:=by omega
       have bA:=ba7
       have aay:=MV
       have hpz:=QF
      rotate_left
     rotate_left 2
     focus
      refine dY (fQ 39 1 _ #[(0, .agg (dV ⟨0,a2.n,0⟩))] _ rfl (by simp only[List.map_toArray,List.map_cons,List.map_nil];rfl) (FY ⟨0,a2.n,0⟩ p1)) ?_
      have NJ:Q V (p1.alloc (.cells (dV ⟨0,a2.n,0⟩) 111)):=Q.trans hp1 (Below.alloc (Q.refl _) (Nat.le_refl _) _)
      have MW:=ah.new p1 111 (dV ⟨0,a2.n,0⟩)
      refine hK' _ _ (dU _ NJ) ?_
      clear hK' K'
      try simp only[aax]
      have sz9:=hp1.size
      obtain⟨p9,pe9⟩:∃p9,p1.alloc (.cells (dV ⟨0,a2.n,0⟩) 111)=p9:=⟨_,rfl⟩
      rw[pe9]at NJ MW⊢
      clear pe9
      refine kL 4 10 (fun K' hK'=> ?_) fun K' hK'=> ?_
      focus
       refine dY (fQ 38 1 _ #[(0, .agg (au a2))] _ rfl (by simp only[List.map_toArray,List.map_cons,List.map_nil];rfl) (vW a2 p9)) ?_
       have Vw:Q V (p9.alloc (.cells (au a2) 37)):=Q.trans NJ (Below.alloc (Q.refl _) (Nat.le_refl _) _)
       have QC:=MW.alloc (.cells (au a2) 37)
       have agN:=ah.new p9 37 (au a2)
       refine hK' _ _ (dU _ Vw) ?_
       clear hK' K'
       try simp only[aax]
       have agc:=NJ.size
       obtain⟨p10,agO⟩:∃p10,p9.alloc (.cells (au a2) 37)=p10:=⟨_,rfl⟩
       rw[agO]at Vw agN QC⊢
       clear agO
       refine aW 10 fun K' hK'=> ?_
       go_simp
       refine(yu p10 Vw).mono ?_
       rintro e p11 ⟨rfl,Zx⟩
       have Vx:=Q.trans Vw Zx
       have asC:=agN.q Zx
       have MZ:=QC.q Zx
       refine hK' _ _ (dU _ Vx) ?_
       clear hK' K'
       try simp only[aax]
       obtain⟨ga,hga⟩:∃g,p9.heap.size=g:=⟨_,rfl⟩
       obtain⟨gk,hgk⟩:∃g,p1.heap.size=g:=⟨_,rfl⟩
       obtain⟨V9,hez⟩:∃p,p11=p:=⟨_,rfl⟩
       have hsa:V.heap.size<=ga:=by omega
       have hsk:V.heap.size<=gk:=by omega
       have bA:=asC
       have aay:=MZ
       have hpz:=Vx
      rotate_left
      focus
       go_simp
       refine(yu p9 NJ).mono ?_
       rintro e p13 ⟨rfl,hc13⟩
       have Zy:=Q.trans NJ hc13
       have asD:=MW.q hc13
       refine hK' _ _ (dU _ Zy) ?_
       clear hK' K'
       try simp only[aax]
       refine aW 4 fun K' hK'=> ?_
       refine dY (fQ 38 1 _ #[(0, .agg (au a2))] _ rfl (by simp only[List.map_toArray,List.map_cons,List.map_nil];rfl) (vW a2 p13)) ?_
       have QG:Q V (p13.alloc (.cells (au a2) 37)):=Q.trans Zy (Below.alloc (Q.refl _) (Nat.le_refl _) _)
       have agR:=asD.alloc (.cells (au a2) 37)
       have agS:=ah.new p13 37 (au a2)
       refine hK' _ _ (dU _ QG) ?_
       clear hK' K'
       try simp only[aax]
       have afq:=Zy.size
       obtain⟨FZ,agT⟩:∃FZ,p13.alloc (.cells (au a2) 37)=FZ:=⟨_,rfl⟩
       rw[agT]at QG agS agR⊢
       clear agT
       obtain⟨ga,hga⟩:∃g,p13.heap.size=g:=⟨_,rfl⟩
       obtain⟨gk,hgk⟩:∃g,p1.heap.size=g:=⟨_,rfl⟩
       obtain⟨V9,hez⟩:∃p,FZ=p:=⟨_,rfl⟩
       have hsa:V.heap.size<=ga:=by omega
       have hsk:V.heap.size<=gk:=by omega
       have bA:=agS
       have aay:=agR
       have hpz:=QG
      rotate_left
     rotate_left 2
     focus
      go_simp
      refine(yu p1 hp1).mono ?_
      rintro e p16 ⟨rfl,hc16⟩
      have QH:=Q.trans hp1 hc16
      refine hK' _ _ (dU _ QH) ?_
      clear hK' K'
      try simp only[aax]
      refine kL 4 8 (fun K' hK'=> ?_) fun K' hK'=> ?_
      focus
       refine dY (fQ 38 1 _ #[(0, .agg (au a2))] _ rfl (by simp only[List.map_toArray,List.map_cons,List.map_nil];rfl) (vW a2 p16)) ?_
       have Vy:Q V (p16.alloc (.cells (au a2) 37)):=Q.trans QH (Below.alloc (Q.refl _) (Nat.le_refl _) _)
       have agW:=ah.new p16 37 (au a2)
       refine hK' _ _ (dU _ Vy) ?_
       clear hK' K'
       try simp only[aax]
       have agk:=QH.size
       obtain⟨F5,agX⟩:∃F5,p16.alloc (.cells (au a2) 37)=F5:=⟨_,rfl⟩
       rw[agX]at Vy agW⊢
       clear agX
       refine aW 8 fun K' hK'=> ?_
       refine dY (fQ 39 1 _ #[(0, .agg (dV ⟨0,a2.n,0⟩))] _ rfl (by simp only[List.map_toArray,List.map_cons,List.map_nil];rfl) (FY ⟨0,a2.n,0⟩ F5)) ?_
       have QI:Q V (F5.alloc (.cells (dV ⟨0,a2.n,0⟩) 111)):=Q.trans Vy (Below.alloc (Q.refl _) (Nat.le_refl _) _)
       have agY:=agW.alloc (.cells (dV ⟨0,a2.n,0⟩) 111)
       have P7:=ah.new F5 111 (dV ⟨0,a2.n,0⟩)
       refine hK' _ _ (dU _ QI) ?_
       clear hK' K'
       try simp only[aax]
       have afs:=Vy.size
       obtain⟨F6,agZ⟩:∃F6,F5.alloc (.cells (dV ⟨0,a2.n,0⟩) 111)=F6:=⟨_,rfl⟩
       rw[agZ]at QI agY P7⊢
       clear agZ
       obtain⟨ga,hga⟩:∃g,p16.heap.size=g:=⟨_,rfl⟩
       obtain⟨gk,hgk⟩:∃g,F5.heap.size=g:=⟨_,rfl⟩
       obtain⟨V9,hez⟩:∃p,F6=p:=⟨_,rfl⟩
       have hsa:V.heap.size<=ga:=by omega
       have hsk:V.heap.size<=gk:=by omega
       have bA:=agY
       have aay:=P7
       have hpz:=QI
      rotate_left
      focus
       refine dY (fQ 39 1 _ #[(0, .agg (dV ⟨0,a2.n,0⟩))] _ rfl (by simp only[List.map_toArray,List.map_cons,List.map_nil];rfl) (FY ⟨0,a2.n,0⟩ p16)) ?_
       have Vz:Q V (p16.alloc (.cells (dV ⟨0,a2.n,0⟩) 111)):=Q.trans QH (Below.alloc (Q.refl _) (Nat.le_refl _) _)
       have QD:=ah.new p16 111 (dV ⟨0,a2.n,0⟩)
       refine hK' _ _ (dU _ Vz) ?_
       clear hK' K'
       try simp only[aax]
       have agm:=QH.size
       obtain⟨F7,ag3⟩:∃F7,p16.alloc (.cells (dV ⟨0,a2.n,0⟩) 111)=F7:=⟨_,rfl⟩
       rw[ag3]at Vz QD⊢
       clear ag3
       refine aW 4 fun K' hK'=> ?_
       refine dY (fQ 38 1 _ #[(0, .agg (au a2))] _ rfl (by simp only[List.map_toArray,List.map_cons,List.map_nil];rfl) (vW a2 F7)) ?_
       have QJ:Q V (F7.alloc (.cells (au a2) 37)):=Q.trans Vz (Below.alloc (Q.refl _) (Nat.le_refl _) _)
       have J3:=QD.alloc (.cells (au a2) 37)
       have ag4:=ah.new F7 37 (au a2)
       refine hK' _ _ (dU _ QJ) ?_
       clear hK' K'
       try simp only[aax]
       have afu:=Vz.size
       obtain⟨F8,ag5⟩:∃F8,F7.alloc (.cells (au a2) 37)=F8:=⟨_,rfl⟩
       rw[ag5]at QJ ag4 J3⊢
       clear ag5
       obtain⟨ga,hga⟩:∃g,F7.heap.size=g:=⟨_,rfl⟩
       obtain⟨gk,hgk⟩:∃g,p16.heap.size=g:=⟨_,rfl⟩
       obtain⟨V9,hez⟩:∃p,F8=p:=⟨_,rfl⟩
       have hsa:V.heap.size<=ga:=by omega
       have hsk:V.heap.size<=gk:=by omega
       have bA:=ag4
       have aay:=J3
       have hpz:=QJ
      rotate_left
     rotate_left 2
    rotate_left 6
    focus
     refine dY (fQ 38 1 _ #[(0, .agg (au a2))] _ rfl (by simp only[List.map_toArray,List.map_cons,List.map_nil];rfl) (vW a2 p0)) ?_
     have NK:Q V (p0.alloc (.cells (au a2) 37)):=Q.trans hp0 (Below.alloc (Q.refl _) (Nat.le_refl _) _)
     have Zz:=ah.new p0 37 (au a2)
     refine hK' _ _ (dU _ NK) ?_
     clear hK' K'
     try simp only[aax]
     have ayn:=hp0.size
     obtain⟨Eo,ag9⟩:∃Eo,p0.alloc (.cells (au a2) 37)=Eo:=⟨_,rfl⟩
     rw[ag9]at NK Zz⊢
     clear ag9
     refine kL 2 8 (fun K' hK'=> ?_) fun K' hK'=> ?_
     focus
      go_simp
      refine(QE Eo NK).mono ?_
      rintro e Io ⟨rfl,hc24⟩
      have QK:=Q.trans NK hc24
      have ba24:=Zz.q hc24
      refine hK' _ _ (dU _ QK) ?_
      clear hK' K'
      try simp only[aax]
      refine kL 8 10 (fun K' hK'=> ?_) fun K' hK'=> ?_
      focus
       refine dY (fQ 39 1 _ #[(0, .agg (dV ⟨0,a2.n,0⟩))] _ rfl (by simp only[List.map_toArray,List.map_cons,List.map_nil];rfl) (FY ⟨0,a2.n,0⟩ Io)) ?_
       have VA:Q V (Io.alloc (.cells (dV ⟨0,a2.n,0⟩) 111)):=Q.trans QK (Below.alloc (Q.refl _) (Nat.le_refl _) _)
       have ba25:=ba24.alloc (.cells (dV ⟨0,a2.n,0⟩) 111)
       have FQ:=ah.new Io 111 (dV ⟨0,a2.n,0⟩)
       refine hK' _ _ (dU _ VA) ?_
       clear hK' K'
       try simp only[aax]
       have U5:=QK.size
       obtain⟨p25,aha⟩:∃p25,Io.alloc (.cells (dV ⟨0,a2.n,0⟩) 111)=p25:=⟨_,rfl⟩
       rw[aha]at VA ba25 FQ⊢
       clear aha
       refine aW 10 fun K' hK'=> ?_
       go_simp
       refine(yu p25 VA).mono ?_
       rintro e p26 ⟨rfl,ZA⟩
       have VB:=Q.trans VA ZA
       have ba26:=ba25.q ZA
       have Nq:=FQ.q ZA
       refine hK' _ _ (dU _ VB) ?_
       clear hK' K'
       try simp only[aax]
       obtain⟨ga,hga⟩:∃g,p0.heap.size=g:=⟨_,rfl⟩
       obtain⟨gk,hgk⟩:∃g,Io.heap.size=g:=⟨_,rfl⟩
       obtain⟨V9,hez⟩:∃p,p26=p:=⟨_,rfl⟩
       have hsa:V.heap.size<=ga:=by omega
       have hsk:V.heap.size<=gk:=by omega
       have bA:=ba26
       have aay:=Nq
       have hpz:=VB
      rotate_left
      focus
       go_simp
       refine(yu Io QK).mono ?_
       rintro e p28 ⟨rfl,hc28⟩
       have ZB:=Q.trans QK hc28
       have ba28:=ba24.q hc28
       refine hK' _ _ (dU _ ZB) ?_
       clear hK' K'
       try simp only[aax]
       refine aW 8 fun K' hK'=> ?_
       refine dY (fQ 39 1 _ #[(0, .agg (dV ⟨0,a2.n,0⟩))] _ rfl (by simp only[List.map_toArray,List.map_cons,List.map_nil];rfl) (FY ⟨0,a2.n,0⟩ p28)) ?_
       have QL:Q V (p28.alloc (.cells (dV ⟨0,a2.n,0⟩) 111)):=Q.trans ZB (Below.alloc (Q.refl _) (Nat.le_refl _) _)
       have ba29:=ba28.alloc (.cells (dV ⟨0,a2.n,0⟩) 111)
       have ahc:=ah.new p28 111 (dV ⟨0,a2.n,0⟩)
       refine hK' _ _ (dU _ QL) ?_
       clear hK' K'
       try simp only[aax]
       have ayo:=ZB.size
       obtain⟨p29,ahd⟩:∃p29,p28.alloc (.cells (dV ⟨0,a2.n,0⟩) 111)=p29:=⟨_,rfl⟩
       rw[ahd]at QL ba29 ahc⊢
       clear ahd
       obtain⟨ga,hga⟩:∃g,p0.heap.size=g:=⟨_,rfl⟩
       obtain⟨gk,hgk⟩:∃g,p28.heap.size=g:=⟨_,rfl⟩
       obtain⟨V9,hez⟩:∃p,p29=p:=⟨_,rfl⟩
       have hsa:V.heap.size<=ga:=by omega
       have hsk:V.heap.size<=gk:=by omega
       have bA:=ba29
       have aay:=ahc
       have hpz:=QL
      rotate_left
     rotate_left 2
     focus
      refine dY (fQ 39 1 _ #[(0, .agg (dV ⟨0,a2.n,0⟩))] _ rfl (by simp only[List.map_toArray,List.map_cons,List.map_nil];rfl) (FY ⟨0,a2.n,0⟩ Eo)) ?_
      have VD:Q V (Eo.alloc (.cells (dV ⟨0,a2.n,0⟩) 111)):=Q.trans NK (Below.alloc (Q.refl _) (Nat.le_refl _) _)
      have ba31:=Zz.alloc (.cells (dV ⟨0,a2.n,0⟩) 111)
      have Qb:=ah.new Eo 111 (dV ⟨0,a2.n,0⟩)
      refine hK' _ _ (dU _ VD) ?_
      clear hK' K'
      try simp only[aax]
      have afC:=NK.size
      obtain⟨p31,ahf⟩:∃p31,Eo.alloc (.cells (dV ⟨0,a2.n,0⟩) 111)=p31:=⟨_,rfl⟩
      rw[ahf]at VD ba31 Qb⊢
      clear ahf
      refine aW 2 fun K' hK'=> ?_
      go_simp
      refine(QE p31 VD).mono ?_
      rintro e p32 ⟨rfl,hc32⟩
      have ZC:=Q.trans VD hc32
      have ba32:=ba31.q hc32
      have Y2:=Qb.q hc32
      refine hK' _ _ (dU _ ZC) ?_
      clear hK' K'
      try simp only[aax]
      refine aW 10 fun K' hK'=> ?_
      go_simp
      refine(yu p32 ZC).mono ?_
      rintro e p33 ⟨rfl,ZE⟩
      have VE:=Q.trans ZC ZE
      have ba33:=ba32.q ZE
      have asE:=Y2.q ZE
      refine hK' _ _ (dU _ VE) ?_
      clear hK' K'
      try simp only[aax]
      obtain⟨ga,hga⟩:∃g,p0.heap.size=g:=⟨_,rfl⟩
      obtain⟨gk,hgk⟩:∃g,Eo.heap.size=g:=⟨_,rfl⟩
      obtain⟨V9,hez⟩:∃p,p33=p:=⟨_,rfl⟩
      have hsa:V.heap.size<=ga:=by omega
      have hsk:V.heap.size<=gk:=by omega
      have bA:=ba33
      have aay:=asE
      have hpz:=VE
     rotate_left
    rotate_left 3
    focus
     refine dY (fQ 39 1 _ #[(0, .agg (dV ⟨0,a2.n,0⟩))] _ rfl (by simp only[List.map_toArray,List.map_cons,List.map_nil];rfl) (FY ⟨0,a2.n,0⟩ p0)) ?_
     have NM:Q V (p0.alloc (.cells (dV ⟨0,a2.n,0⟩) 111)):=Q.trans hp0 (Below.alloc (Q.refl _) (Nat.le_refl _) _)
     have ZF:=ah.new p0 111 (dV ⟨0,a2.n,0⟩)
     refine hK' _ _ (dU _ NM) ?_
     clear hK' K'
     try simp only[aax]
     have ayp:=hp0.size
     obtain⟨p35,ahh⟩:∃p35,p0.alloc (.cells (dV ⟨0,a2.n,0⟩) 111)=p35:=⟨_,rfl⟩
     rw[ahh]at NM ZF⊢
     clear ahh
     refine kL 2 4 (fun K' hK'=> ?_) fun K' hK'=> ?_
     focus
      go_simp
      refine(QE p35 NM).mono ?_
      rintro e p36 ⟨rfl,ahi⟩
      have QM:=Q.trans NM ahi
      have ahj:=ZF.q ahi
      refine hK' _ _ (dU _ QM) ?_
      clear hK' K'
      try simp only[aax]
      refine kL 4 10 (fun K' hK'=> ?_) fun K' hK'=> ?_
      focus
       refine dY (fQ 38 1 _ #[(0, .agg (au a2))] _ rfl (by simp only[List.map_toArray,List.map_cons,List.map_nil];rfl) (vW a2 p36)) ?_
       have VF:Q V (p36.alloc (.cells (au a2) 37)):=Q.trans QM (Below.alloc (Q.refl _) (Nat.le_refl _) _)
       have ahk:=ahj.alloc (.cells (au a2) 37)
       have ahl:=ah.new p36 37 (au a2)
       refine hK' _ _ (dU _ VF) ?_
       clear hK' K'
       try simp only[aax]
       have ayq:=QM.size
       obtain⟨p37,ahm⟩:∃p37,p36.alloc (.cells (au a2) 37)=p37:=⟨_,rfl⟩
       rw[ahm]at VF ahl ahk⊢
       clear ahm
       refine aW 10 fun K' hK'=> ?_
       go_simp
       refine(yu p37 VF).mono ?_
       rintro e p38 ⟨rfl,hc38⟩
       have VG:=Q.trans VF hc38
       have ba38:=ahl.q hc38
       have asF:=ahk.q hc38
       refine hK' _ _ (dU _ VG) ?_
       clear hK' K'
       try simp only[aax]
       obtain⟨ga,hga⟩:∃g,p36.heap.size=g:=⟨_,rfl⟩
       obtain⟨gk,hgk⟩:∃g,p0.heap.size=g:=⟨_,rfl⟩
       obtain⟨V9,hez⟩:∃p,p38=p:=⟨_,rfl⟩
       have hsa:V.heap.size<=ga:=by omega
       have hsk:V.heap.size<=gk:=by omega
       have bA:=ba38
       have aay:=asF
       have hpz:=VG
      rotate_left
      focus
       go_simp
       refine(yu p36 QM).mono ?_
       rintro e p40 ⟨rfl,aho⟩
       have ZG:=Q.trans QM aho
       have asG:=ahj.q aho
       refine hK' _ _ (dU _ ZG) ?_
       clear hK' K'
       try simp only[aax]
       refine aW 4 fun K' hK'=> ?_
       refine dY (fQ 38 1 _ #[(0, .agg (au a2))] _ rfl (by simp only[List.map_toArray,List.map_cons,List.map_nil];rfl) (vW a2 p40)) ?_
       have QN:Q V (p40.alloc (.cells (au a2) 37)):=Q.trans ZG (Below.alloc (Q.refl _) (Nat.le_refl _) _)
       have ahp:=asG.alloc (.cells (au a2) 37)
       have ahq:=ah.new p40 37 (au a2)
       refine hK' _ _ (dU _ QN) ?_
       clear hK' K'
       try simp only[aax]
       have ayr:=ZG.size
       obtain⟨p41,ahr⟩:∃p41,p40.alloc (.cells (au a2) 37)=p41:=⟨_,rfl⟩
       rw[ahr]at QN ahq ahp⊢
       clear ahr
       obtain⟨ga,hga⟩:∃g,p40.heap.size=g:=⟨_,rfl⟩
       obtain⟨gk,hgk⟩:∃g,p0.heap.size=g:=⟨_,rfl⟩
       obtain⟨V9,hez⟩:∃p,p41=p:=⟨_,rfl⟩
       have hsa:V.heap.size<=ga:=by omega
       have hsk:V.heap.size<=gk:=by omega
       have bA:=ahq
       have aay:=ahp
       have hpz:=QN
      rotate_left
     rotate_left 2
     focus
      refine dY (fQ 38 1 _ #[(0, .agg (au a2))] _ rfl (by simp only[List.map_toArray,List.map_cons,List.map_nil];rfl) (vW a2 p35)) ?_
      have VH:Q V (p35.alloc (.cells (au a2) 37)):=Q.trans NM (Below.alloc (Q.refl _) (Nat.le_refl _) _)
      have aht:=ZF.alloc (.cells (au a2) 37)
      have ba43:=ah.new p35 37 (au a2)
      refine hK' _ _ (dU _ VH) ?_
      clear hK' K'
      try simp only[aax]
      have ays:=NM.size
      obtain⟨p43,ahu⟩:∃p43,p35.alloc (.cells (au a2) 37)=p43:=⟨_,rfl⟩
      rw[ahu]at VH ba43 aht⊢
      clear ahu
      refine aW 2 fun K' hK'=> ?_
      go_simp
      refine(QE p43 VH).mono ?_
      rintro e p44 ⟨rfl,ZH⟩
      have ZI:=Q.trans VH ZH
      have ba44:=ba43.q ZH
      have asH:=aht.q ZH
      refine hK' _ _ (dU _ ZI) ?_
      clear hK' K'
      try simp only[aax]
      refine aW 10 fun K' hK'=> ?_
      go_simp
      refine(yu p44 ZI).mono ?_
      rintro e p45 ⟨rfl,ZJ⟩
      have VI:=Q.trans ZI ZJ
      have asI:=ba44.q ZJ
      have asJ:=asH.q ZJ
      refine hK' _ _ (dU _ VI) ?_
      clear hK' K'
      try simp only[aax]
      obtain⟨ga,hga⟩:∃g,p35.heap.size=g:=⟨_,rfl⟩
      obtain⟨gk,hgk⟩:∃g,p0.heap.size=g:=⟨_,rfl⟩
      obtain⟨V9,hez⟩:∃p,p45=p:=⟨_,rfl⟩
      have hsa:V.heap.size<=ga:=by omega
      have hsk:V.heap.size<=gk:=by omega
      have bA:=asI
      have aay:=asJ
      have hpz:=VI
     rotate_left
    rotate_left 3
    all_goals
     rw[hga]at bA⊢
     rw[hgk]at aay⊢
     rw[hez]at bA aay hpz⊢
     clear hga hgk hez
     obtain⟨c5,hc5⟩:∃c5,c5=({id:=id,acts:=[a2],aA:=some ⟨ga,0,none⟩,aC:=1,keys:=[⟨0,a2.n,0⟩],kA:=some ⟨gk,0,none⟩,kC:=1,prev:=bY a2,gen:=0,fork:=false}:ay):=⟨_,rfl⟩
     have hv5:aF c5= #[.string id, .slice (some ⟨ga,0,none⟩) 1 1, .slice (some ⟨gk,0,none⟩) 1 1, .string (bY a2), .int .i64 0, .bool false]:=by rw[hc5];rfl
     refine V7 11 (.agg (aF c5)) rfl (dU _ hpz) (fun z hz=>hv5▸vT 41 _ #[(0, .string id),(1, .slice (some ⟨ga,0,none⟩) 1 1),(2, .slice (some ⟨gk,0,none⟩) 1 1),(3, .string (bY a2))] _ rfl (by simp only[List.map_toArray,List.map_cons,List.map_nil];rfl) (AL _ _ _ _ _ _ _ _ z)) ?_
     try simp only[aax]
     have eH:dw (gu D) V9 c5:=by
      rw[hc5]
      refine⟨gY.blk (f:=ak.cells) bA (fun hm=>by have:=hDlt _ hm;omega),fun x hx=> ?_,⟨Nat.le_refl _,(show 1<=maxLen by decide)⟩,gY.blk (f:=iJ.cells) aay (fun hm=>by have:=hDlt _ hm;omega),⟨Nat.le_refl _,(show 1<=maxLen by decide)⟩⟩
      rw[List.mem_singleton]at hx
      rw[hx]
      exact vC.q hpz
     have hcB:aN c5=BC:=by
      have hn:a2.n=BA.n:=Ak hba
      rw[hc5,zA.out,<-hdg,<-hba,<-hn]
      rfl
     refine aW 12 fun K' hK'=> ?_
     refine dY (fQ 24 1 _ #[(0, .agg (aF c5))] _ rfl (by simp only[List.map_toArray,List.map_cons,List.map_nil];rfl) (AO c5 V9)) ?_
     have aaG:Q V (V9.alloc (.cells (aF c5) 41)):=Q.trans hpz (Below.alloc (Q.refl _) (Nat.le_refl _) _)
     have bc99:=ah.new V9 41 (aF c5)
     have eH:=eH.q (Below.alloc (Q.refl V9) (Nat.le_refl _) (.cells (aF c5) 41))
     refine hK' _ _ (dU _ aaG) ?_
     clear hK' K'
     try simp only[aax]
     obtain⟨p99,aiB⟩:∃p99,V9.alloc (.cells (aF c5) 41)=p99:=⟨_,rfl⟩
     rw[aiB]at aaG bc99 eH⊢
     clear aiB
     refine aW 13 fun K' hK'=> ?_
     refine zf Az AB (.tmp 21) (.tmp 33) 24 41 i0 _ 96 rfl Tryz.underlying24 hi jq hz1 hz2 rfl (by decide) (by decide) w.heap.size (.slice D cs.length cd) cs.length cs rfl (ku.q aaG) V9.heap.size 0 1 1 [c5] rfl (jW (f:=ay.cells) bc99) rfl (by decide) (by omega) (Q.trans lN aaG).size ?_
     intro A9 c9 w9 jS jd jJ bW nY
     have bD:Q w w9:=fB (Q.trans lN aaG) (Nat.le_refl _) (ku.q aaG) bW
     have hps:=aaG.size
     have iO:ah w9 g3 37 (au a2):=(bW.block g3 (hV.q aaG).lt (fun e=>hD3 e.symm)).trans (hV.q aaG)
     refine hK' _ _ ⟨bD,iO⟩ ?_
     clear hK' K'
     try simp only[aax]
     refine aS 14 (.slice A9 (cs.length+1) c9) ⟨bD,iO⟩ ?_
     try simp only[aax]
     refine wpAnyH_done (by kernel_rfl) ?_ _
     have lQ:=Aw (n9:=cs.length+1) (c9:=c9) (fun x hx=>(zB x hx).q aaG) eH bW (fun g hg=>by have:=hDlt g hg;omega) nY
     exact uH A9 c9 c5 w9 bD jS jd jJ lQ hcB
   refine uT (fun y=>Q z.w y) (by kernel_rfl) ?_
   have hz0:Q z.w W7.drew:=hq7.drew
   have hzd:Q W7 W7.drew:=(Q.refl _).drew
   refine aS 0 (.int .i64 (cs.length:Int)) hz0 ?_
   try simp only[aax]
   refine kL 1 2 (fun K' hK'=> ?_) fun K' hK'=> ?_
   focus
    go_simp
    refine(hK8 ⟨W7.drew,hzd⟩).mono ?_
    rintro e y8 ⟨rfl,hk8⟩
    have hq8:=Q.trans hzd hk8
    refine hK' _ _ (Q.trans hq7 hq8) ?_
    clear hK' K'
    try simp only[aax]
    refine aW 2 fun K' hK'=> ?_
    refine dY (JK 37 (.tmp 3) _ _ rfl rfl (dh ⟨y8,hq8⟩)) ?_
   rotate_left
   focus
    refine dY (JK 37 (.tmp 3) _ _ rfl rfl (dh ⟨W7.drew,hzd⟩)) ?_
    refine hK' _ _ (Q.trans hq7 hzd) ?_
    clear hK' K'
    try simp only[aax]
    refine aW 1 fun K' hK'=> ?_
    go_simp
    refine(hK8 ⟨W7.drew,hzd⟩).mono ?_
    rintro e y8 ⟨rfl,hk8⟩
    have hq8:=Q.trans hzd hk8
   rotate_left
   all_goals
    refine hK' _ _ (Q.trans hq7 hq8) ?_
    clear hK' K'
    try simp only[aax]
    refine aW 3 fun K' hK'=> ?_
    go_simp
    refine(jo ⟨y8,hq8⟩).mono ?_
    rintro e z8 ⟨a2,rfl,hba,⟨hr1,hr2⟩,hin,hs8⟩
    have bD:=Q.trans hq8 hs8
    refine hK' _ _ (Q.trans hq7 bD) ?_
    clear hK' K'
    try simp only[aax]
    refine aW 4 fun K' hK'=> ?_
    refine oJ (Ik.q bD) 37 (.tmp 3) (.tmp 20) a2.cells rfl rfl rfl (by kernel_rfl) (dL _) (Nat.le_refl 20) ?_
    intro V hV ZK dH
    rw[bC _ _ (by rfl)]at hV
    have aK:Q z.w V:=ZK _ _ hg3 (Q.trans hq7 bD)
    refine hK' _ _ aK ?_
    clear hK' K'
    try simp only[aax]
    refine wpAnyH_done (by kernel_rfl) ?_ _
    have h8s:=hq8.size
    have hr1:dI y8.heap.size z8 a2.toA 1 dP a2.to:=hr1
    have hr2:dI y8.heap.size z8 a2.gy 5 bQ.cells a2.wraps:=hr2
    have hr1:=hr1.far (w':=V) (fun b hb=>dH b (by omega))
    have hr2:=hr2.far (w':=V) (fun b hb=>dH b (by omega))
    have ql:bU V a2:=⟨gB hr1.rows,lY hr2.rows,hin.toC,hin.dF⟩
    have vC:iy (gu D) V a2:=iy.wE ql hr1 hr2 (fun g hg=>by have:=hDlt g hg;omega)
    exact agB V a2 aK hV hba ql vC
  ·have h4:cs.length=4:=by omega
   have HF:Hid (Zr w (.returned (.slice D cs.length cd)) z.w):=Lib.hid ⟨D,cd,cs,rfl,hsc,hcm,hown,hof.out,by rw[hss.out,h4],z.q⟩
   have h4I:¬(cs.length:Int)<4:=by omega
   rw[h4]at HF
   clear hown hss hof hId gq hfl hDr hbc
   go_wp2_with fail
   go_ret
   exact HF.out
end bP
end Go.Proofs.YtbemmjnjoabadaaGreatDoor
