/- part 19 -/
import Derived.Test.YtbemmjnjoabadaaGreatDoorK16
set_option linter.unusedVariables false
set_option linter.unusedSimpArgs false
set_option maxHeartbeats 8000000
set_option maxRecDepth 100000
namespace Go.Proofs.YtbemmjnjoabadaaGreatDoor
namespace Known
open Go.RowKit aQ Mem _root_.Go.Proofs.YtbemmjnjoabadaaGreatDoor.Code aY Sign _root_.Go.Proofs.YtbemmjnjoabadaaGreatDoor.Item
def aP(a:ak):ak:=ak.wr' (ak.to' a none 0) none 0
theorem Uy{a b:ak}(h:aP a=aP b):a=ak.wr' (ak.to' b a.toA a.toC) a.gy a.dF:=by
 cases a
 cases b
 unfold aP ak.wr' ak.to' at h
 unfold ak.wr' ak.to'
 injection h
 subst_vars
 rfl
theorem Pj{a b:ak}(h:aP a=aP b):wS (vU a)=wS (vU b):=by
 rw[Uy h]
 rfl
theorem JB{a b:ak}(h:aP a=aP b):bT a=bT b:=by
 rw[Uy h]
 rfl
theorem aoW{a b:ak}(h:aP a=aP b):jP a=jP b:=by
 rw[Uy h]
 rfl
theorem aoX(w:World)(a:Option Addr)(n c n' c':Nat):(binOp .eql 33 (.slice a n c) (.slice none n' c')).run Tryz.prog w= .ok (.bool a.isNone) w:=Lib.run_eql_slice_nil w _ _ a n c n' c' Tryz.underlying33
theorem aoY(w:World):(Instr.buildSlice 33 0 #[]).run Tryz.prog w= .ok (.slice (some ⟨w.heap.size,0,none⟩) 0 0) (w.alloc (.cells #[] 115)):=by kernel_rfl
theorem aem(A:Option Addr)(c:Nat)(l:List bQ)(w:World)(hS:dS w A 5 bQ.cells l)(hl:l.length<=1000000):Calls Tryz.prog 81 #[.slice A l.length c] w (O1 5 bQ.cells l w):=by
 obtain⟨i0,hi,hz0,hz1,hz2⟩:=info_parts X4
 have q22:=aoX
 cases A with
 |none=>
  have h0:l=[]:=by
   rcases Nat.eq_zero_or_pos l.length with h|h
   ·exact List.length_eq_zero_iff.1 h
   ·obtain⟨_,_,e,_⟩:=hS h
    cases e
  subst h0
  go_enter Tryz.func81,Tryz.ntmps81
  go_wp2_with fail
  go_ret
  exact⟨none,0,rfl,Nat.le_refl _,Nat.zero_le _,fun h=>by simp at h,Q.refl _⟩
 |some a=>
  have hq1:=aO w #[] 115
  have hown:=adK w 115 5
  have hS1:=hS.q hq1
  obtain⟨w1,hw1⟩:∃w1,w.alloc (.cells #[] 115)=w1:=⟨_,rfl⟩
  have hbs:=aoY w
  have hs1:w.heap.size<=w1.heap.size:=by rw[<-hw1];simp
  rw[hw1]at hq1 hown hS1 hbs
  clear hw1
  go_enter Tryz.func81,Tryz.ntmps81
  go_upto_region 3 with(fail)
  refine wp_region_lit ?_
  refine Uk 33 0 _ #[] _ rfl rfl (by simp) hbs ?_
  dsimp only[Act.put]
  simp only[List.setIfInBounds_toArray,List.set_cons_succ,List.set_cons_zero]
  refine adt (.tmp 0) (.slice (some a) l.length c) rfl rfl rfl ?_
  dsimp only[Act.put]
  simp only[List.setIfInBounds_toArray,List.set_cons_succ,List.set_cons_zero]
  refine Jw LV X3 rfl (.tmp 5) (.tmp 6) 33 115 i0 _ 64 rfl Tryz.underlying33 hi hz0 hz1 hz2 rfl (by decide) (by decide) w.heap.size (.slice (some ⟨w.heap.size,0,none⟩) 0 0) 0 [] rfl hown (some a) l.length c l rfl hS1 rfl (by omega) hs1 ?_
  intro A2 c2 w2 hc2 hm2 hown2 hg2
  have hq2:Q w w2:=fB hq1 (Nat.le_refl _) hown hg2
  rw[Nat.zero_add]at hown2
  have hfin:O1 5 bQ.cells l w (.returned (.slice A2 l.length c2)) w2:=⟨A2,c2,rfl,by omega,hm2,xU LV hown2 rfl,hq2⟩
  have HF:=Lib.hid hfin
  clear hfin hown2 hg2 hq2
  go_wp2_with fail
  go_ret
  exact HF.out
def aen(a:ak)(w:World)(e:Ending)(w':World):Prop:=∃a2:ak,e= .returned (.agg (jT (vU a2)))/\aP a2=aP a/\bU w' a2/\Q w w'
theorem aeo(a:ak)(w:World)(hD:bU w a)(hl:a.to.length<=1000000)(hl2:a.wraps.length<=1000000):Calls Tryz.prog 86 #[.agg (au a)] w (aen a w):=by
 have hb1:=ah.new w 37 (au a)
 have hq1:=aO w (au a) 37
 have hbr:=ah.new' (g:=w.heap.size+1) (w.alloc (.cells (au a) 37)) 150 (jT vS) (by simp)
 have hq2:=aO (w.alloc (.cells (au a) 37)) (jT vS) 150
 have hb1:=hb1.q hq2
 have hq:=Q.trans hq1 hq2
 obtain⟨w2,hw2⟩:∃w2,w2=(w.alloc (.cells (au a) 37)).alloc (.cells (jT vS) 150):=⟨_,rfl⟩
 rw[<-hw2]at hb1 hbr hq
 have hcl:=fun y:Wd w2=>LW a.toA a.toC a.to y.w (Jz (hD.to.q (Q.trans hq y.q))) hl
 have cT:=aB (.slice a.toA a.to.length a.toC) hb1 9
 have hB1:∀y:Wd w2,ah y.w w.heap.size 37 a.cells.toArray:=fun y=>y.blk hb1
 have hBr:∀y:Wd w2,ah y.w (w.heap.size+1) 150 vS.cells.toArray:=fun y=>y.blk hbr
 have hfz:∀y:Wd w2,y.w.frozen? ⟨w.heap.size,9,none⟩=false:=fun y=>(hB1 y).frozen 9
 obtain⟨u,hu⟩:∃u:Wd w2,u.w=w2:=⟨⟨w2,Q.refl _⟩,rfl⟩
 have HX:=Lib.hid (hu.trans hw2)
 have HQ:=Lib.hid hq
 have hws:w2.heap.size=w.heap.size+1+1:=by rw[hw2];simp
 clear hu hw2 hq1 hq2 hq hb1 hbr
 go_enter Tryz.func86,Tryz.ntmps86
 go_upto_region 1 with(fail)
 refine(show Code.wp _ _ _ _ u.w->Code.wp _ _ _ _ _ from fun h=>by rw[HX.out]at h;exact h) ?_
 go_upto_region 2 with(go_at_call 63;refine(hcl _).mono ?_;rintro e w' ⟨TA,tc,rfl,ht1,ht2,pY,hq3⟩;obtain⟨y,rfl⟩:=Wd.next _ hq3;clear hq3)
 have hus:=u.q.size
 have hW0:=ah.setCells [.slice TA a.to.length tc] 9 _ y.w (hB1 y) (show 10<=20 by decide)
 rw[JA]at hW0
 have Fh:=fun b (hne:b≠w.heap.size)=>tY (g:=w.heap.size) hne [.slice TA a.to.length tc] 9 y.w
 have hbel0:=fun(B:Nat) (w0:World) (hB:B<=w.heap.size) (hw:Below B w0 y.w)=>below_setCells hB [.slice TA a.to.length tc] 9 w0 y.w hw
 obtain⟨W,fO⟩:∃W,y.w.setCell ⟨w.heap.size,9,none⟩ (.slice TA a.to.length tc)=W:=⟨_,rfl⟩
 have kT:y.w.setCells w.heap.size 9 [.slice TA a.to.length tc]=W:=fO
 rw[kT]at hW0 Fh hbel0
 rw[fO]
 have aJ:Q w W:=hbel0 _ _ (Nat.le_refl _) (Q.trans HQ.out y.q)
 have Pm:=pY.far (w':=W) (fun b hb=>Fh b (by omega))
 have Pn:ah W (w.heap.size+1) 150 vS.cells.toArray:=(Fh _ (by omega)).trans (hBr y)
 have hWs:w.heap.size+1+1<=W.heap.size:=Nat.le_trans (by have:=y.q.size;omega) (hbel0 0 y.w (Nat.zero_le _) (Below.refl _ _)).size
 have uh:=Lib.hid aJ
 have Po:=fun y:Wd W=>aem a.gy a.dF a.wraps y.w (adL (hD.wraps.q (Q.trans uh.out y.q))) hl2
 have cT2:=aB (.slice a.gy a.wraps.length a.dF) hW0 15
 have hB2:∀y:Wd W,ah y.w w.heap.size 37 (ak.to' a TA tc).cells.toArray:=fun y=>y.blk hW0
 have Pq:∀y:Wd W,ah y.w (w.heap.size+1) 150 vS.cells.toArray:=fun y=>y.blk Pn
 have Yh:∀y:Wd W,y.w.frozen? ⟨w.heap.size,15,none⟩=false:=fun y=>(hB2 y).frozen 15
 have Pv:∀z:Wd W,dI (w.heap.size+1+1) z.w TA 1 dP a.to:=fun z h0=>by
  obtain⟨b,o,e,h1,h2,h3⟩:=Pm.q z.q h0
  exact⟨b,o,e,by omega,h2,h3⟩
 obtain⟨v,hv⟩:=Wd.first W
 rw[hv]
 clear hv fO kT hW0 Fh hbel0 pY hB1 hBr hfz cT hcl aJ Pm Pn
 go_upto_region 3 with(go_at_call 81;refine(Po _).mono ?_;rintro e w' ⟨WA,wc,rfl,hr1,hr2,hrR,hq3⟩;obtain⟨z,rfl⟩:=Wd.next _ hq3;clear hq3)
 have hvs:=v.q.size
 have BG:=ah.setCells [.slice WA a.wraps.length wc] 15 _ z.w (hB2 z) (show 16<=20 by decide)
 rw[show splice (ak.to' a TA tc).cells 15 [.slice WA a.wraps.length wc]=(ak.wr' (ak.to' a TA tc) WA wc).cells from O4 (ak.to' a TA tc) WA wc]at BG
 have BH:=fun b (hne:b≠w.heap.size)=>tY (g:=w.heap.size) hne [.slice WA a.wraps.length wc] 15 z.w
 have JC:=fun(B:Nat) (w0:World) (hB:B<=w.heap.size) (hw:Below B w0 z.w)=>below_setCells hB [.slice WA a.wraps.length wc] 15 w0 z.w hw
 obtain⟨Z,JD⟩:∃Z,z.w.setCell ⟨w.heap.size,15,none⟩ (.slice WA a.wraps.length wc)=Z:=⟨_,rfl⟩
 have Px:z.w.setCells w.heap.size 15 [.slice WA a.wraps.length wc]=Z:=JD
 rw[Px]at BG BH JC
 rw[JD]
 have gI:Q w Z:=JC _ _ (Nat.le_refl _) (Q.trans uh.out z.q)
 have Py:=(Pv z).far (w':=Z) (fun b hb=>BH b (by omega))
 have Pz:=hrR.far (w':=Z) (fun b hb=>BH b (by omega))
 have Yi:ah Z (w.heap.size+1) 150 vS.cells.toArray:=(BH _ (by omega)).trans (Pq z)
 have dh:=Wd.load (P:=Tryz.prog) (ty:=37) BG.lt (ah.range BG) Tryz.underlying37 rfl (by kernel_rfl) ⟨Z,Q.refl Z⟩
 have uj:=Lib.hid gI
 obtain⟨a2,ha2⟩:∃a2,a2=ak.wr' (ak.to' a TA tc) WA wc:=⟨_,rfl⟩
 rw[<-ha2]at dh
 have dh:(Instr.loadAt 37 (.pointer (some ⟨w.heap.size,0,none⟩))).run Tryz.prog Z= .ok (.agg (au a2)) Z:=dh
 have HA:=Lib.hid ha2
 clear JD Px BG BH JC hrR hB2 Pq Yh cT2 Po gI Pv ha2
 go_upto_region 3 with(fail)
 refine wp_region_lit ?_
 refine OC 37 (.tmp 1) (.pointer (some ⟨w.heap.size,0,none⟩)) (.agg (au a2)) rfl rfl rfl dh ?_
 dsimp only[Act.put]
 simp only[List.setIfInBounds_toArray,List.set_cons_succ,List.set_cons_zero]
 refine LQ 150 _ #[(0, .int .i64 0),(1, .agg (au a2))] (.agg (jT (vU a2))) rfl rfl (by simp only[List.map_toArray,List.map_cons,List.map_nil];rfl) (aow _ _) ?_
 dsimp only[Act.put]
 simp only[List.setIfInBounds_toArray,List.set_cons_succ,List.set_cons_zero]
 refine eY Yi rfl 150 (.tmp 2) (.tmp 12) (vU a2).cells rfl rfl rfl (by kernel_rfl) (ads _) (Nat.le_refl 49) ?_
 intro W3 hW3 kQ yT
 rw[bC _ _ (by rfl)]at hW3
 have hq3:Q w W3:=kQ _ _ (Nat.le_succ _) uj.out
 have ht3:=Py.far (w':=W3) (fun b hb=>yT b (by omega))
 have hr3:=Pz.far (w':=W3) (fun b hb=>yT b (by omega))
 have hin:mQ W3 (vU a2):=by
  rw[HA.out]
  exact⟨⟨gB ht3.rows,lY hr3.rows,⟨ht1,ht2⟩,⟨hr1,hr2⟩⟩,XZ W3⟩
 have hfin:aen a w (.returned (.agg (jT (vU a2)))) W3:=⟨_,rfl,by rw[HA.out];rfl,hin.act,hq3⟩
 have HF:=Lib.hid hfin
 clear kQ yT dh ht3 hr3 Py Pz hin hfin hq3
 go_wp2_with fail
 exact bodyPost_ret (results_cell_row rfl _ _ (w.heap.size+1) 150 (jT (vU a2)) (0,0) _ rfl hW3 Tryz.underlying150 rfl (by kernel_rfl)) rfl HF.out
end Known
namespace bP
open Go.RowKit aQ Mem _root_.Go.Proofs.YtbemmjnjoabadaaGreatDoor.Code aY Sign _root_.Go.Proofs.YtbemmjnjoabadaaGreatDoor.Item _root_.Go.Proofs.YtbemmjnjoabadaaGreatDoor.Known
def L9(a:ak)(w:World)(e:Ending)(w':World):Prop:=∃a2:ak,e= .returned (.agg (au a2))/\aP a2=aP a/\(dI w.heap.size w' a2.toA 1 dP a2.to/\dI w.heap.size w' a2.gy 5 bQ.cells a2.wraps)/\bU w' a2/\Q w w'
def iV(a:ak):ak:={a with e:=0,s:=0}
def gQ(k:Int×Int)(a:ak):ak:={a with e:=(yM k (jP (iV a))).1,s:=(yM k (jP (iV a))).2}
def gU(k:Int×Int)(a:ak):ak:=if bT (iV a)&&iP k then gQ k a else aH
theorem aoZ(a:ak):splice a.cells 18 [.int .i64 0, .int .i64 0]=(iV a).cells:=rfl
theorem ao0(k:Int×Int)(a:ak):splice (iV a).cells 18 [.int .i64 (yM k (jP (iV a))).1, .int .i64 (yM k (jP (iV a))).2]=(gQ k a).cells:=rfl
theorem Yj{w:World}{a:ak}(h:bU w a)(e s:Int):bU w {a with e:=e,s:=s}:=⟨h.to,h.wraps,h.toC,h.dF⟩
theorem ao1(w:World):(Instr.build 35 #[]).run Tryz.prog w= .ok (.agg #[.int .i64 0, .int .i64 0]) w:=by kernel_rfl
theorem ao2(w:World):(Instr.build 37 #[]).run Tryz.prog w= .ok (.agg (au aH)) w:=by kernel_rfl
theorem BI(w:World):bU w aH:=(adE w)
theorem ao3(a:ak):(jP a).size<=60000:=by
 unfold jP
 split
 ·rename_i h
  rw[tK]
  exact XT a h
 ·exact Nat.zero_le _
theorem JE(k:Int×Int)(a:ak)(w:World)(hT:Tab w)(hk1:k.1<=9223372036854775807)(hk2:k.2<=9223372036854775807)(hA:bU w a)(hl:a.to.length<=1000000)(hl2:a.wraps.length<=1000000):
 Calls Tryz.prog 32 #[.agg (bH k), .agg (au a)] w (L9 (gU k a) w):=by
 have hbk:=ah.new w 66 (bH k)
 have hq1:=aO w (bH k) 66
 have hbb:=ah.new' (g:=w.heap.size+1) (w.alloc (.cells (bH k) 66)) 37 (au a) (by simp)
 have hq2:=aO (w.alloc (.cells (bH k) 66)) (au a) 37
 have hbr:=ah.new' (g:=w.heap.size+1+1) ((w.alloc (.cells (bH k) 66)).alloc (.cells (au a) 37)) 37 (au aH) (by simp)
 have hq3:=aO ((w.alloc (.cells (bH k) 66)).alloc (.cells (au a) 37)) (au aH) 37
 have hbk:=(hbk.q hq2).q hq3
 have hbb:=hbb.q hq3
 have hq:=Q.trans (Q.trans hq1 hq2) hq3
 clear hq1 hq2 hq3
 obtain⟨w3,hw3⟩:∃w3,w3=(((w.alloc (.cells (bH k) 66)).alloc (.cells (au a) 37)).alloc (.cells (au aH) 37)):=⟨_,rfl⟩
 rw[<-hw3]at hbk hbb hbr hq
 have hws:w3.heap.size=w.heap.size+1+1+1:=by rw[hw3];simp
 have HX:=Lib.hid hw3
 clear hw3
 go_enter Tryz.func32,Tryz.ntmps32
 go_upto_region 1 with(fail)
 refine(show Code.wp _ _ _ _ w3->Code.wp _ _ _ _ _ from fun h=>by rw[HX.out]at h;exact h) ?_
 go_upto_region 2 with(first|(refine LQ 35 _ #[] (.agg #[.int .i64 0, .int .i64 0]) rfl rfl (by simp only[List.map_toArray,List.map_cons,List.map_nil];rfl) (ao1 _) ?_)|(refine eY (cs:=a.cells) hbb rfl 35 (.tmp 6) (.tmp 5) [.int .i64 0, .int .i64 0] rfl rfl rfl (by kernel_rfl) (by simp[Value.oneCell']) (Nat.le_refl 20) ?_))
 intro W hW hbel bJ
 rw[aoZ]at hW
 have aJ:Q w W:=hbel _ _ (by omega) hq
 have hbkW:ah W w.heap.size 66 (bH k):=(bJ _ (by omega)).trans hbk
 have Yk:ah W (w.heap.size+1+1) 37 aH.cells.toArray:=(bJ _ (by omega)).trans hbr
 have hAW:∀y:Wd W,bU y.w (iV a):=fun y=>Yj (hA.q (Q.trans aJ y.q)) 0 0
 have hTW:∀y:Wd W,Tab y.w:=fun y=>hT.q (Q.trans aJ y.q)
 have hLa:=dX (P:=Tryz.prog) (au (iV a)) hW Tryz.underlying37
 have k0:=aB (.int .i64 k.1) hbkW 0
 have k1:=aB (.int .i64 k.2) hbkW 1
 have hRi:∀y:Wd W,Calls Tryz.prog 66 #[.agg (au (iV a))] y.w fun e w'=>e= .returned (.bool (bT (iV a)))/\Q y.w w':=fun y=>EY (iV a) y.w (hAW y)
 have hRk:∀y:Wd W,Calls Tryz.prog 58 #[.agg (bH k)] y.w fun e w'=>e= .returned (.bool (iP k))/\Q y.w w':=fun y=>Ji k y.w
 have HS:=Lib.hid (show gU k a=if bT (iV a)&&iP k then gQ k a else aH from rfl)
 have uh:=Lib.hid aJ
 have hWl:=Yk.lt
 clear hbel bJ hq hbk hbb hbr aJ
 obtain⟨v,hv⟩:=Wd.first W
 rw[hv]
 clear hv
 rcases(show bT (iV a)=false∨(bT (iV a)=true/\iP k=false)∨(bT (iV a)=true/\iP k=true) by cases bT (iV a)<;>cases iP k<;>simp)with h1|⟨h1,h2⟩|⟨h1,h2⟩
 rotate_left 2
 ·have HS2:Hid (gU k a=gQ k a):=Lib.hid (by rw[HS.out,h1,h2];rfl)
  rw[h1]at hRi
  rw[h2]at hRk
  have JF:∀y:Wd W,Calls Tryz.prog 80 #[.agg (au (iV a))] y.w fun e w'=>e= .returned (.string (jP (iV a)))/\Q y.w w':=fun y=>XR (iV a) y.w (hAW y)
  have jo:=fun y:Wd W=>amd k (jP (iV a)) y.w (hTW y) hk1 hk2 (by have:=ao3 (iV a);omega)
  go_upto_region 4 with(first|(refine aI (.tmp 3) (hLa _) ?_)|(go_at_call 66;refine(hRi _).mono ?_;rintro e w' ⟨rfl,hq2⟩;obtain⟨y,rfl⟩:=Wd.next _ hq2;clear hq2)|(go_at_call 58;refine(hRk _).mono ?_;rintro e w' ⟨rfl,hq2⟩;obtain⟨y2,rfl⟩:=Wd.next _ hq2;clear hq2))
  refine TR y2 0 5 (by kernel_rfl) (by kernel_rfl) (by intro c d v a w h;cases d<;>exact h) ?_
  simp only[List.take_succ_cons,List.take_zero,List.drop_succ_cons,List.drop_zero]
  refine TN ?_
  repeat(first|(refine OD 37 (.tmp 3) (.pointer (some ⟨w.heap.size+1,0,none⟩)) (.agg (au (iV a))) ?_ ?_ ?_ ?_ ?_;rfl;rfl;rfl;exact hLa;dsimp only[Act.put];simp only[List.setIfInBounds_toArray,List.set_cons_succ,List.set_cons_zero])|go_big_quiet_step (first|(go_at_call 80;exact Wd.call _ (JF _))|(go_at_call 79;exact Wd.call _ (jo _))))
  refine wpQuiet_nil ?_
  rintro w'' ⟨y3,rfl⟩
  go_wp2_with (refine eY (cs:=(iV a).cells) (y3.blk hW) rfl 35 (.tmp 20) (.tmp 19) [.int .i64 (yM k (jP (iV a))).1, .int .i64 (yM k (jP (iV a))).2] rfl rfl rfl (by kernel_rfl) (by simp[Value.oneCell']) (Nat.le_refl 20) ?_)
  intro W2 hW2 fJ ji
  rw[ao0]at hW2
  have jc:Q w W2:=fJ _ _ (by omega) (Q.trans uh.out y3.q)
  have hsz2:W.heap.size<=W2.heap.size:=Nat.le_trans y3.q.size (fJ 0 y3.w (Nat.zero_le _) (Below.refl _ _)).size
  have ao4:ah W2 (w.heap.size+1+1) 37 aH.cells.toArray:=(ji _ (by omega)).trans (y3.blk Yk)
  have hsA:∀y:Wd W2,bU y.w (gQ k a):=fun y=>Yj (hA.q (Q.trans jc y.q)) _ _
  have hs0:bU w (gQ k a):=Yj hA _ _
  have hlt:(gQ k a).to.length<=1000000:=hl
  have hlw:(gQ k a).wraps.length<=1000000:=hl2
  have HQ2:=Lib.hid jc
  clear fJ ji hLa hRi hRk JF jo hAW hTW k0 k1 hA hl hl2 h1 h2 jc
  generalize gQ k a=a3 at*
  have hcl:=fun y:Wd W2=>LW a3.toA a3.toC a3.to y.w (Jz (hsA y).to) hlt
  have cT:=aB (.slice a3.toA a3.to.length a3.toC) hW2 9
  have hB1:∀y:Wd W2,ah y.w (w.heap.size+1) 37 a3.cells.toArray:=fun y=>y.blk hW2
  have hBr:∀y:Wd W2,ah y.w (w.heap.size+1+1) 37 aH.cells.toArray:=fun y=>y.blk ao4
  have hfz:∀y:Wd W2,y.w.frozen? ⟨w.heap.size+1,9,none⟩=false:=fun y=>(hB1 y).frozen 9
  obtain⟨u,hu⟩:=Wd.first W2
  rw[hu]
  clear hu
  go_upto_region 6 with(go_at_call 63;refine(hcl _).mono ?_;rintro e w' ⟨TA,tc,rfl,ht1,ht2,pY,hq3⟩;obtain⟨y,rfl⟩:=Wd.next _ hq3;clear hq3)
  have hus:=u.q.size
  have hW0:=ah.setCells [.slice TA a3.to.length tc] 9 _ y.w (hB1 y) (show 10<=20 by decide)
  rw[JA]at hW0
  have Fh:=fun b (hne:b≠w.heap.size+1)=>tY (g:=w.heap.size+1) hne [.slice TA a3.to.length tc] 9 y.w
  have hbel0:=fun(B:Nat) (w0:World) (hB:B<=w.heap.size+1) (hw:Below B w0 y.w)=>below_setCells hB [.slice TA a3.to.length tc] 9 w0 y.w hw
  obtain⟨W4,fO⟩:∃W4,y.w.setCell ⟨w.heap.size+1,9,none⟩ (.slice TA a3.to.length tc)=W4:=⟨_,rfl⟩
  have kT:y.w.setCells (w.heap.size+1) 9 [.slice TA a3.to.length tc]=W4:=fO
  rw[kT]at hW0 Fh hbel0
  rw[fO]
  have G7:Q w W4:=hbel0 _ _ (by omega) (Q.trans HQ2.out y.q)
  have Pm:=pY.far (w':=W4) (fun b hb=>Fh b (by omega))
  have Pn:ah W4 (w.heap.size+1+1) 37 aH.cells.toArray:=(Fh _ (by omega)).trans (hBr y)
  have hWs:w.heap.size+1+1+1<=W4.heap.size:=Nat.le_trans (by have:=y.q.size;omega) (hbel0 0 y.w (Nat.zero_le _) (Below.refl _ _)).size
  have HQ4:=Lib.hid G7
  have Po:=fun y:Wd W4=>aem a3.gy a3.dF a3.wraps y.w (adL (hs0.wraps.q (Q.trans HQ4.out y.q))) hlw
  have cT2:=aB (.slice a3.gy a3.wraps.length a3.dF) hW0 15
  have hB2:∀y:Wd W4,ah y.w (w.heap.size+1) 37 (ak.to' a3 TA tc).cells.toArray:=fun y=>y.blk hW0
  have Pq:∀y:Wd W4,ah y.w (w.heap.size+1+1) 37 aH.cells.toArray:=fun y=>y.blk Pn
  have Yh:∀y:Wd W4,y.w.frozen? ⟨w.heap.size+1,15,none⟩=false:=fun y=>(hB2 y).frozen 15
  have Pv:∀z:Wd W4,dI (w.heap.size+1+1+1) z.w TA 1 dP a3.to:=fun z=>(Pm.q z.q).low (by omega)
  obtain⟨v4,hv4⟩:=Wd.first W4
  rw[hv4]
  clear hv4 fO kT hW0 Fh hbel0 pY hB1 hBr hfz cT hcl G7 Pm Pn
  go_upto_region 7 with(go_at_call 81;refine(Po _).mono ?_;rintro e w' ⟨WA,wc,rfl,hr1,hr2,hrR,hq3⟩;obtain⟨z,rfl⟩:=Wd.next _ hq3;clear hq3)
  have hvs:=v4.q.size
  have BG:=ah.setCells [.slice WA a3.wraps.length wc] 15 _ z.w (hB2 z) (show 16<=20 by decide)
  rw[show splice (ak.to' a3 TA tc).cells 15 [.slice WA a3.wraps.length wc]=(ak.wr' (ak.to' a3 TA tc) WA wc).cells from O4 (ak.to' a3 TA tc) WA wc]at BG
  have BH:=fun b (hne:b≠w.heap.size+1)=>tY (g:=w.heap.size+1) hne [.slice WA a3.wraps.length wc] 15 z.w
  have JC:=fun(B:Nat) (w0:World) (hB:B<=w.heap.size+1) (hw:Below B w0 z.w)=>below_setCells hB [.slice WA a3.wraps.length wc] 15 w0 z.w hw
  obtain⟨Z,JD⟩:∃Z,z.w.setCell ⟨w.heap.size+1,15,none⟩ (.slice WA a3.wraps.length wc)=Z:=⟨_,rfl⟩
  have Px:z.w.setCells (w.heap.size+1) 15 [.slice WA a3.wraps.length wc]=Z:=JD
  rw[Px]at BG BH JC
  rw[JD]
  have gI:Q w Z:=JC _ _ (by omega) (Q.trans HQ4.out z.q)
  have Py:=(Pv z).far (w':=Z) (fun b hb=>BH b (by omega))
  have Pz:=hrR.far (w':=Z) (fun b hb=>BH b (by omega))
  have Yi:ah Z (w.heap.size+1+1) 37 aH.cells.toArray:=(BH _ (by omega)).trans (Pq z)
  have dh:=Wd.load (P:=Tryz.prog) (ty:=37) BG.lt (ah.range BG) Tryz.underlying37 rfl (by kernel_rfl) ⟨Z,Q.refl Z⟩
  have uj:=Lib.hid gI
  obtain⟨a2,ha2⟩:∃a2,a2=ak.wr' (ak.to' a3 TA tc) WA wc:=⟨_,rfl⟩
  rw[<-ha2]at dh
  have dh:(Instr.loadAt 37 (.pointer (some ⟨w.heap.size+1,0,none⟩))).run Tryz.prog Z= .ok (.agg (au a2)) Z:=dh
  have HA:=Lib.hid ha2
  have hzs:w.heap.size+1+1+1<=z.w.heap.size:=by have:=z.q.size;omega
  clear JD Px BG BH JC hrR hB2 Pq Yh cT2 Po gI Pv ha2
  go_upto_region 7 with(fail)
  refine wp_region_lit ?_
  refine OC 37 (.tmp 3) (.pointer (some ⟨w.heap.size+1,0,none⟩)) (.agg (au a2)) rfl rfl rfl dh ?_
  dsimp only[Act.put]
  simp only[List.setIfInBounds_toArray,List.set_cons_succ,List.set_cons_zero]
  refine eY (cs:=aH.cells) Yi rfl 37 (.tmp 4) (.tmp 29) a2.cells rfl rfl rfl (by kernel_rfl) (dL _) (Nat.le_refl 20) ?_
  intro W5 mV G6 Yl
  rw[bC _ _ (by rfl)]at mV
  have hq5:Q w W5:=G6 _ _ (by omega) uj.out
  have Ym:=Py.far (w':=W5) (fun b hb=>Yl b (by omega))
  have Mc:=Pz.far (w':=W5) (fun b hb=>Yl b (by omega))
  have hin:bU W5 a2:=by
   rw[HA.out]
   exact⟨gB Ym.rows,lY Mc.rows,⟨ht1,ht2⟩,⟨hr1,hr2⟩⟩
  have hfr:dI w.heap.size W5 a2.toA 1 dP a2.to/\dI w.heap.size W5 a2.gy 5 bQ.cells a2.wraps:=by
   rw[HA.out]
   exact⟨Ym.low (by omega),Mc.low (by omega)⟩
  have HF:Hid (L9 (gU k a) w (.returned (.agg (au a2))) W5):=Lib.hid ⟨a2,rfl,by rw[HS2.out,HA.out];rfl,hfr,hin,hq5⟩
  clear G6 Yl dh Ym Mc Py Pz hin hq5 hfr
  go_wp2_with fail
  exact bodyPost_ret (results_cell_row rfl _ _ (w.heap.size+1+1) 37 (au a2) (0,0) _ rfl mV Tryz.underlying37 rfl (by kernel_rfl)) rfl HF.out
 all_goals
  have HS2:Hid (gU k a=aH):=Lib.hid (by rw[HS.out];simp[*])
  rw[h1]at hRi
  try rw[h2]at hRk
  go_wp2_with (first|(refine aI (.tmp 3) (hLa _) ?_)|(go_at_call 66;refine(hRi _).mono ?_;rintro e w' ⟨rfl,hq2⟩;obtain⟨y,rfl⟩:=Wd.next _ hq2;clear hq2)|(go_at_call 58;refine(hRk _).mono ?_;rintro e w' ⟨rfl,hq2⟩;obtain⟨y,rfl⟩:=Wd.next _ hq2;clear hq2)|(refine LQ 37 _ #[] (.agg (au aH)) rfl rfl (by simp only[List.map_toArray,List.map_cons,List.map_nil];rfl) (ao2 _) ?_)|(refine eY (cs:=aH.cells) (y.blk Yk) rfl 37 (.tmp 4) (.tmp 15) aH.cells rfl rfl rfl (by kernel_rfl) (dL _) (Nat.le_refl 20) ?_))
  intro W3 hW3 kQ yT
  rw[bC _ _ (by rfl)]at hW3
  have hq3:Q w W3:=kQ _ _ (by omega) (Q.trans uh.out y.q)
  have HF:Hid (L9 (gU k a) w (.returned (.agg (au aH))) W3):=Lib.hid ⟨aH,rfl,by rw[HS2.out],⟨fun h=>absurd h (Nat.lt_irrefl 0),fun h=>absurd h (Nat.lt_irrefl 0)⟩,BI W3,hq3⟩
  clear kQ yT hq3 hLa hRi hRk hAW hTW
  go_wp2_with fail
  exact bodyPost_ret (results_cell_row rfl _ _ (w.heap.size+1+1) 37 (au aH) (0,0) _ rfl hW3 Tryz.underlying37 rfl (by kernel_rfl)) rfl HF.out
end bP
namespace Item
open Go.RowKit aQ Mem _root_.Go.Proofs.YtbemmjnjoabadaaGreatDoor.Code aY Sign
theorem ao7(i:dO)(hk:i.kind=0):(yO i).size<=120000000:=by
 unfold yO
 cases h:tV i
 ·rw[if_neg Bool.false_ne_true];decide
 ·rw[if_pos rfl,tK]
  unfold Lu
  rw[List.length_append,if_pos hk]
  have h1:=TS i.kind
  have h2:=adD (adC h hk)
  rw[ny]
  omega
theorem ao8(i:dO)(hk:i.kind=0):(yO i).toList.isEmpty= !tV i:=by
 unfold yO
 cases h:tV i
 ·rw[if_neg Bool.false_ne_true,ByteArray.toList_eq];rfl
 ·rw[if_pos rfl,ByteArray.toList_eq,rY]
  have:0<(Lu i).length:=by
   unfold Lu
   rw[List.length_append]
   have:0<(fV i.kind).length:=by
    unfold fV aU
    rw[if_neg (by omega),rY]
    exact abv _
   omega
  cases hl:Lu i with
  |nil=>rw[hl]at this;cases this
  |cons x r=>rfl
theorem ao9(i:dO)(w:World)(hI:mQ w i)(hk:i.kind=0)(h:tV i=false):Calls Tryz.prog 131 #[.agg (jT i)] w fun e w'=>e= .returned (.string (yO i))/\Q w w':=by
 obtain⟨w1,x,hx,hq1,hl,hr⟩:=boxed w 150 i.cells
 have hx:w.alloc (.cells (jT i) 150)=x.w:=hx
 have EZ:∀y:Wd w1,(Instr.loadAt 150 (.pointer (some ⟨w.heap.size,0,none⟩))).run Tryz.prog y.w= .ok (.agg (jT i)) y.w:=Wd.load hl hr Tryz.underlying150 rfl (by kernel_rfl)
 have hI':∀y:Wd w1,mQ y.w i:=fun y=>hI.q (Q.trans hq1 y.q)
 have HR:Hid (yO i=⟨#[]⟩):=Lib.hid (by unfold yO;rw[h];rfl)
 clear hr
 go_enter Tryz.func131,Tryz.ntmps131
 go_wp2_with (first|(refine aI (.tmp 1) (EZ _) ?_)|(go_at_call 183;refine(adF _ _ (hI' _) hk).mono ?_;rintro e w' ⟨rfl,hq2⟩;obtain⟨y,rfl⟩:=Wd.next _ hq2;clear hq2))
 go_ret
 exact⟨by rw[HR.out];rfl,Q.trans hq1 (Wd.q _)⟩
theorem apa(i:dO)(w:World)(hI:mQ w i)(h:tV i=true)(hk:i.kind=0):Calls Tryz.prog 131 #[.agg (jT i)] w fun e w'=>e= .returned (.string (yO i))/\Q w w':=by
 obtain⟨w1,x,hx,hq1,hbk⟩:=boxedB w 150 i.cells
 have hl:=hbk.lt
 have hr:=ah.range hbk
 have hx:w.alloc (.cells (jT i) 150)=x.w:=hx
 have EZ:∀y:Wd w1,(Instr.loadAt 150 (.pointer (some ⟨w.heap.size,0,none⟩))).run Tryz.prog y.w= .ok (.agg (jT i)) y.w:=Wd.load hl hr Tryz.underlying150 rfl (by kernel_rfl)
 have hI':∀y:Wd w1,mQ y.w i:=fun y=>hI.q (Q.trans hq1 y.q)
 have hra:=adC h hk
 have HR:Hid (yO i=⟨(fV 0++(xP i.act).data.toList).toArray⟩):=Lib.hid (by unfold yO Lu;rw[h,if_pos rfl,if_pos hk,hk])
 have hab:=adD hra
 have HK:=Lib.hid hk
 clear hra hk
 go_enter Tryz.func131,Tryz.ntmps131
 go_wp2_with (refine aI (.tmp 1) (EZ _) ?_)
 refine(adF _ _ (hI' _) HK.out).mono ?_
 rintro e w' ⟨rfl,hq2⟩
 obtain⟨y,rfl⟩:=Wd.next _ hq2
 clear hq2
 have Yn:Q w y.w:=Q.trans hq1 y.q
 have hq3:=aO y.w #[.slice none 0 0] 229
 have hnew:=kK.new y.w (B:=w.heap.size) Yn.size
 have hlt:w.heap.size<y.w.heap.size:=Nat.lt_of_lt_of_le hl y.q.size
 have hsi:wU w.heap.size y.w.heap.size (y.w.alloc (.cells #[.slice none 0 0] 229)) w.heap.size:=wU.blk ((hbk.q y.q).q hq3) (by omega) (by decide)
 have JG:=yP (yP hr y.q hl) hq3 hlt
 have aJ:=Lib.hid (Q.trans Yn hq3)
 generalize hW2:y.w.alloc (.cells #[.slice none 0 0] 229)=W2 at*
 obtain⟨y2,hy2⟩:=Kd.first w.heap.size y.w.heap.size W2
 have hb2:kK w.heap.size y.w.heap.size y2.w []:=hy2▸hnew
 rw[hy2]at hW2
 have c0:∀z:Kd w.heap.size y.w.heap.size W2,z.w.cell? ⟨w.heap.size,0,none⟩=some (.int .i64 i.kind):=fun z=>(z.q.range hsi JG) 0 _ rfl
 rw[HK.out]at c0
 have hsl:∀z:Kd w.heap.size y.w.heap.size W2,w.heap.size<z.w.heap.size:=fun z=>Nat.lt_of_lt_of_le hsi.lt z.q.size
 have hAc:∀z:Kd w.heap.size y.w.heap.size W2,∀u:Wd z.w,(Instr.loadAt 37 (.pointer (some ⟨w.heap.size,1,none⟩))).run Tryz.prog u.w= .ok (.agg (au i.act)) u.w:=fun z=>Uj (hsl z) (z.q.range hsi JG)
 clear hy2 hnew hsi JG EZ hI' hx hbk hr hq3 Yn
 go_wp2_with (go_at_call 184;refine(amY hb2 [0] _ _ _ rfl rfl rfl (by simp) (by simp)).mono ?_;rintro e w' ⟨rfl,hb3,hk1⟩;obtain⟨y3,rfl⟩:=Kd.next _ hk1;clear hk1)
 obtain⟨hB,v,hgv,hown⟩:=hb3
 have apb:Q w y3.w:=Tk.q y3.q rfl aJ.out
 have cg:∀z:Wd y3.w,z.w.cell? ⟨y.w.heap.size,0,none⟩=some v:=fun z=>(z.q.cell (p:=⟨y.w.heap.size,0,none⟩) hgv.lt).trans (hgv.cell 0)
 have hA2:=hAc y3
 have hIA:∀z:Wd y3.w,bU z.w i.act:=fun z=>hI.act.q (Q.trans apb z.q)
 obtain⟨i0,hi,hz0,hz1,hz2⟩:=info_parts Code.Dt
 refine TR (⟨_,Q.refl _⟩:Wd y3.w) 0 5 (by kernel_rfl) (by kernel_rfl) (by intro c d v a w h;cases d<;>exact h) ?_
 simp only[List.take_succ_cons,List.take_zero,List.drop_succ_cons,List.drop_zero]
 refine TN ?_
 repeat(first|(refine OD 37 (.tmp 17) (.pointer (some ⟨w.heap.size,1,none⟩)) (.agg (au i.act)) ?_ ?_ ?_ ?_ ?_;rfl;rfl;rfl;exact hA2;dsimp only[Act.put];simp only[List.setIfInBounds_toArray,List.set_cons_succ,List.set_cons_zero])|go_big_quiet_step (exact Wd.call _ (anO _ _ (hIA _))))
 refine wpQuiet_nil ?_
 rintro w'' ⟨z,rfl⟩
 have hown':=hown.q z.q
 have hg':=hgv.q z.q
 have hYl:([]++[0].flatMap fV:List UInt8).length<=10:=by simp;exact TS 0
 generalize hY:([]++[0].flatMap fV:List UInt8)=Y at*
 have HY:Hid (Y=fV 0):=Lib.hid (by rw[<-hY];simp)
 clear hY
 go_wp2_with (at_builtin;refine SS _ rfl (.tmp 16) (.tmp 19) 126 9 rfl w.heap.size 5 i0 Tryz.underlying126 Tryz.underlying9 hi hz0 hz1 hz2 v Y.length (cellsOf Y) rfl hown' (xP i.act) rfl ?_ ?_ ?_ ?_)
 ·simp only[maxLen];omega
 ·omega
 ·have:=hg'.lt;omega
 intro v2 w2 hown2 hgr
 have Yo:(xP i.act).size=(xP i.act).data.toList.length:=by rw[ny]
 rw[strCells_eq,Yo,<-Je,<-List.length_append]at hown2
 have hg2:=kK.at2 hg' hown' hgr
 have z0:w2.cell? ⟨y.w.heap.size,0,none⟩=some v:=hg2.cell 0
 have z1:=hg2.frozen 0
 have hown3:=kK.own (L':=Y++(xP i.act).data.toList) hg' hown' hown2 hgr
 have hk4:=(kK.step (L':=Y++(xP i.act).data.toList) hB hg' hown' hown2 hgr).2
 obtain⟨A2,cap2,rfl,-,-⟩:=hown2.shape
 have hcv:=Lh (P:=Tryz.prog) _ w.heap.size 126 9 5 _ _ Tryz.underlying126 Tryz.underlying5 Tryz.underlying9 hown3
 have HQ:=Lib.hid (Tk.q ((y3.q.trans (Tk.pV z.q)).trans hk4) rfl aJ.out)
 rw[List.length_append,<-Yo]at hcv HQ
 clear hown hown' hown2 hown3 hk4 hg2 hg' hgv hgr cg hA2 hIA Yo c0 hAc
 go_wp2
 go_ret
 exact⟨by rw[HR.out,<-HY.out];rfl,HQ.out⟩
theorem apc(i:dO)(w:World)(hI:mQ w i)(hk:i.kind=0):Calls Tryz.prog 131 #[.agg (jT i)] w fun e w'=>e= .returned (.string (yO i))/\Q w w':=by
 cases h:tV i
 ·exact ao9 i w hI hk h
 ·exact apa i w hI h hk
theorem aes(i:dO)(w:World)(hT:Tab w)(hI:mQ w i)(hk:i.kind=0):Calls Tryz.prog 85 #[.agg (jT i)] w fun e w'=>e= .returned (.string (wS i))/\Q w w':=by
 obtain⟨w1,x,hx,hq1,hl,hr⟩:=boxed w 150 i.cells
 have hx:w.alloc (.cells (jT i) 150)=x.w:=hx
 have EZ:∀y:Wd w1,(Instr.loadAt 150 (.pointer (some ⟨w.heap.size,0,none⟩))).run Tryz.prog y.w= .ok (.agg (jT i)) y.w:=Wd.load hl hr Tryz.underlying150 rfl (by kernel_rfl)
 have hI':∀y:Wd w1,mQ y.w i:=fun y=>hI.q (Q.trans hq1 y.q)
 have hT':∀y:Wd w1,Tab y.w:=fun y=>hT.q (Q.trans hq1 y.q)
 have hem:=ao8 i hk
 have hle:=ao7 i hk
 clear hr
 cases h:tV i
 all_goals
  have HR:=Lib.hid (show wS i=if tV i then su (yO i)else bK from rfl)
  rw[h]at HR hem
  clear h
  go_enter Tryz.func85,Tryz.ntmps85
  go_wp2_with (first|(refine aI (.tmp 1) (EZ _) ?_)|(go_at_call 131;refine(apc _ _ (hI' _) hk).mono ?_;rintro e w' ⟨rfl,hq2⟩;obtain⟨y,rfl⟩:=Wd.next _ hq2;clear hq2)|(go_at_call 93;refine(Jf _ _ (hT' _) (by omega)).mono ?_;rintro e w' ⟨rfl,hq2⟩;obtain⟨y,rfl⟩:=Wd.next _ hq2;clear hq2))
  go_ret
  exact⟨by rw[HR.out];rfl,Q.trans hq1 (Wd.q _)⟩
end Item
end Go.Proofs.YtbemmjnjoabadaaGreatDoor
