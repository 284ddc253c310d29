/- part 28 -/
import Derived.Test.YtbemmjnjoabadaaGreatDoorK24
set_option linter.unusedVariables false
set_option linter.unusedSimpArgs false
set_option maxHeartbeats 8000000
set_option maxRecDepth 100000
namespace Go.Proofs.YtbemmjnjoabadaaGreatDoor
namespace bP
open Go.RowKit aQ Mem _root_.Go.Proofs.YtbemmjnjoabadaaGreatDoor.Code aY Sign _root_.Go.Proofs.YtbemmjnjoabadaaGreatDoor.Item _root_.Go.Proofs.YtbemmjnjoabadaaGreatDoor.Known
structure vg where
 mG:Int
 do_:Int
 who:Int
 what:Int
 text:ByteArray
 time:Int
def vg.cells(x:vg):List Value:=[.int .i64 x.mG, .int .i64 x.do_, .int .i64 x.who, .int .i64 x.what, .string x.text, .int .i64 x.time]
def ND(x:vg):Array Value:=x.cells.toArray
def oM(k:Int):Bool:=(k==2)||((k==3)||((k==4)||((k==5)||((k==6)||((k==13)||((k==14)||(k==12)))))))
def pI(k:Int):Bool:=jh k||((k==14)||(k==12))
def oN(k:Int):Bool:=decide (7<=k)&&decide (k<=11)
def NG(a:ak)(t:ByteArray):ak:={a with target:=t}
def setObj(a:ak)(t:ByteArray):ak:={a with object:=t}
def jZ(a:ak)(t:ByteArray):ak:={a with text:=t}
def mJ(x:vg)(a:ak):ak:=if oN x.do_ then NG a (dn (x.who%4).toNat)else a
def mM(x:vg)(l:List ByteArray)(a:ak):ak:=if oM x.do_&&decide (0<l.length)then setObj a (l.getD (x.what%(l.length:Int)).toNat bK)else a
def mO(x:vg)(a:ak):ak:=if pI x.do_ then jZ a x.text else a
def mP(c:ay)(x:vg)(l:List ByteArray):ak:=mO x (mM x l (mJ x (iW c x.do_ x.time)))
theorem arl(a:ak)(t:ByteArray):splice a.cells 6 [.string t]=(NG a t).cells:=rfl
theorem Ec(a:ak)(t:ByteArray):splice a.cells 5 [.string t]=(setObj a t).cells:=rfl
theorem Ed(a:ak)(t:ByteArray):splice a.cells 10 [.string t]=(jZ a t).cells:=rfl
theorem uq{g o:Nat}{w W:World}{a b:ak}{t:ByteArray}(hB:w.heap.size<=g)(hq:Q w W)(hb:ah W g 37 a.cells.toArray)(ho:o+1<=20)(hs:splice a.cells o [.string t]=b.cells):
 ∃V,W.setCell ⟨g,o,none⟩ (.string t)=V/\ah V g 37 b.cells.toArray/\Q w V/\∀k,k≠g->V.heap[k]?=W.heap[k]?:=by
 have h1:=ah.setCells [.string t] o _ W hb ho
 rw[hs]at h1
 exact⟨_,rfl,h1,below_setCells hB [.string t] o w W hq,fun k hk=>tY (g:=g) hk [.string t] o W⟩
theorem arn(c:ay)(x:vg)(A:Option Addr)(lc:Nat)(l:List ByteArray)(w:World)(hT:Tab w)(hL:Strs w A l)(hl:l.length<=1000000)(hw:I64 x.who)(hx:I64 x.what):Calls Tryz.prog 34 #[.agg (aF c), .agg (ND x), .slice A l.length lc] w fun e w'=>e= .returned (.agg (au (mP c x l)))/\Q w w':=by
 have hmx:maxLen=9223372036854775807:=by decide
 obtain⟨w1,y1,hy1,hq1,hbk1⟩:=boxedB w 41 c.cells
 have hy1:w.alloc (.cells (aF c) 41)=y1.w:=hy1
 obtain⟨w2,y2,hy2,hq2,hbk2⟩:=boxedB y1.w 79 x.cells
 have hy2:y1.w.alloc (.cells (ND x) 79)=y2.w:=hy2
 obtain⟨w3,y3,hy3,hq3,lJ⟩:=boxedB y2.w 37 aH.cells
 have hy3:y2.w.alloc (.cells #[.string ⟨#[]⟩, .int .i64 0, .string ⟨#[]⟩, .int .i64 0, .int .i64 0, .string ⟨#[]⟩, .string ⟨#[]⟩, .int .i64 0, .string ⟨#[]⟩, .slice none 0 0, .string ⟨#[]⟩, .string ⟨#[]⟩, .string ⟨#[]⟩, .string ⟨#[]⟩, .int .i64 0, .slice none 0 0, .int .i64 0, .int .i64 0, .int .i64 0, .int .i64 0] 37)=y3.w:=hy3
 have hqa:Q w y2.w:=Q.trans (Q.trans hq1 y1.q) (Q.trans hq2 y2.q)
 have dR:Q w w3:=Q.trans hqa hq3
 have hB1:ah w3 w.heap.size 41 c.cells.toArray:=hbk1.q (Q.trans y1.q (Q.trans hq2 (Q.trans y2.q hq3)))
 have hB2:ah w3 y1.w.heap.size 79 x.cells.toArray:=hbk2.q (Q.trans y2.q hq3)
 have hs1:w.heap.size<=y1.w.heap.size:=(Q.trans hq1 y1.q).size
 have hs2:w.heap.size<=y2.w.heap.size:=hqa.size
 have hl1:=hB1.lt
 have hl2:=hB2.lt
 have hl3:=lJ.lt
 have cZ:=dX (P:=Tryz.prog) (aF c) hB1 Tryz.underlying41
 have b1:=aB (.int .i64 x.do_) hB2 1
 have b5:=aB (.int .i64 x.time) hB2 5
 have hDr:=fun y:Wd w3=>JH c x.do_ x.time y.w
 have HR:=Lib.hid (show mP c x l=mO x (mM x l (mJ x (iW c x.do_ x.time)))from rfl)
 have HQ:=Lib.hid dR
 generalize mP c x l=R at*
 generalize iW c x.do_ x.time=a0 at*
 generalize hg4:y1.w.heap.size=g4 at*
 generalize MJ:y2.w.heap.size=g6 at*
 clear hbk1 hbk2 hq1 hq2 hqa dR
 go_enter Tryz.func34,Tryz.ntmps34
 go_upto_region 2 with(first|(refine aI (.tmp 3) (cZ _) ?_)|(go_at_call 31;refine(hDr _).mono ?_;rintro e w5 ⟨rfl,hq5⟩;obtain⟨y5,rfl⟩:=Wd.next y3 hq5)|(refine fM (ah.new y5.w 37 aH.cells.toArray) rfl 37 (.tmp 7) (.tmp 14) a0.cells rfl rfl rfl (by kernel_rfl) (dL _) (Nat.le_refl 20) ?_))
 intro W hW hbel
 rw[bC _ _ (by rfl)]at hW
 have Qi:Q w3 W:=hbel _ _ y5.q.size (Q.trans y5.q (aO _ _ _))
 have h5s:=y5.q.size
 generalize y5.w.heap.size=g7 at*
 have aX:Q w W:=Q.trans HQ.out Qi
 have fU:ah W w.heap.size 41 c.cells.toArray:=hB1.q Qi
 have hC2:ah W g4 79 x.cells.toArray:=hB2.q Qi
 have dJ:ah W g6 37 aH.cells.toArray:=lJ.q Qi
 have uw:w.heap.size<=g7:=by omega
 have uy:g6≠g7:=by omega
 have uz:g4≠g7:=by omega
 have qh:w.heap.size<=g6:=hs2
 clear hbel hB1 hB2 lJ cZ b1 b5 hDr Qi h5s hq5
 by_cases ht:7<=x.do_/\x.do_<=11
 ·have e1:decide (7<=x.do_)=true:=decide_eq_true ht.1
  have e2:decide (x.do_<=11)=true:=decide_eq_true ht.2
  have n1:(x.do_==1)=false:=by simp;omega
  have n2:(x.do_==2)=false:=by simp;omega
  have n3:(x.do_==3)=false:=by simp;omega
  have n4:(x.do_==4)=false:=by simp;omega
  have n5:(x.do_==5)=false:=by simp;omega
  have n6:(x.do_==6)=false:=by simp;omega
  have n13:(x.do_==13)=false:=by simp;omega
  have n14:(x.do_==14)=false:=by simp;omega
  have n12:(x.do_==12)=false:=by simp;omega
  have hRR:R=NG a0 (dn (x.who%4).toNat):=by rw[HR.out];unfold mO mM mJ pI oM oN jh;simp[*]
  have hpb:jh x.do_=false:=by unfold jh;simp[*]
  have b1:=aB (.int .i64 x.do_) hC2 1
  have b2:=aB (.int .i64 x.who) hC2 2
  have b3:=aB (.int .i64 x.what) hC2 3
  have b4:=aB (.string x.text) hC2 4
  have c5:=aB (.string a0.object) hW 5
  have f5:=bI hW 5
  have c6:=aB (.string a0.target) hW 6
  have f6:=bI hW 6
  have c10:=aB (.string a0.text) hW 10
  have f10:=bI hW 10
  have hTy:∀y:Wd W,Tab y.w:=fun y=>hT.q (Q.trans aX y.q)
  have cO:∀y:Wd W,Strs y.w A l:=fun y=>hL.q (Q.trans aX y.q)
  have bf:=fun y:Wd W=>iE x.do_ y.w
  have fP:=fun y:Wd W=>Cm x.who 4 y.w hw (by decide)
  have hId:=fun y:Wd W=>Vb (x.who%4).toNat y.w (hTy y) (by omega)
  have hpn:(((x.who%4).toNat:Nat):Int)=x.who%4:=by omega
  rw[hpn]at hId
  obtain⟨v,hv⟩:=Wd.first W
  rw[hv]
  clear hv
  generalize dn (x.who%4).toNat=tg at*
  rw[hpb]at bf
  have e3:=ht.1
  have e4:=ht.2
  clear ht
  go_upto_region 4 with(first|(go_at_call 20;refine(fP _).mono ?_;rintro e w' ⟨rfl,bM⟩;obtain⟨v,rfl⟩:=Wd.next _ bM;clear bM)|(go_at_call 11;refine(hId _).mono ?_;rintro e w' ⟨rfl,bM⟩;obtain⟨v,rfl⟩:=Wd.next _ bM;clear bM))
  clear fP hId
  obtain⟨V1,bG,hV,aK,dH⟩:=uq (b:=NG a0 tg) uw (Q.trans aX v.q) (v.blk hW) (show 6+1<=20 by decide) (arl a0 tg)
  rw[bG]
  replace hC2:=(dH g4 uz).trans (v.blk hC2)
  replace dJ:=(dH g6 uy).trans (v.blk dJ)
  replace aX:=aK
  replace hW:=hV
  clear bG dH aK hV b1 b2 b3 b4 c5 c6 c10 f5 f6 f10 hTy cO bf
  generalize NG a0 tg=a1 at*
  have b1:=aB (.int .i64 x.do_) hC2 1
  have b2:=aB (.int .i64 x.who) hC2 2
  have b3:=aB (.int .i64 x.what) hC2 3
  have b4:=aB (.string x.text) hC2 4
  have c5:=aB (.string a1.object) hW 5
  have f5:=bI hW 5
  have c6:=aB (.string a1.target) hW 6
  have f6:=bI hW 6
  have c10:=aB (.string a1.text) hW 10
  have f10:=bI hW 10
  have hTy:∀y:Wd V1,Tab y.w:=fun y=>hT.q (Q.trans aX y.q)
  have cO:∀y:Wd V1,Strs y.w A l:=fun y=>hL.q (Q.trans aX y.q)
  have bf:=fun y:Wd V1=>iE x.do_ y.w
  rw[hpb]at bf
  obtain⟨v,hv⟩:=Wd.first V1
  rw[hv]
  clear hv
  go_upto_region 9 with(first|(go_at_call 48;refine(bf _).mono ?_;rintro e w' ⟨rfl,bM⟩;obtain⟨v,rfl⟩:=Wd.next _ bM;clear bM))
  have dh:=pU (P:=Tryz.prog) (au a1) (v.blk hW) Tryz.underlying37
  have eu:ah v.w g6 37 aH.cells.toArray:=v.blk dJ
  have dD:=Q.trans aX v.q
  clear b1 b2 b3 b4 c5 c6 c10 f5 f6 f10 hTy cO bf hC2 dJ hW aX
  go_wp2_with (first|(refine aI (.tmp 7) dh ?_)|(refine eY (cs:=aH.cells) eu rfl 37 (.tmp 6) (.tmp 97) a1.cells rfl rfl rfl (by kernel_rfl) (dL _) (Nat.le_refl 20) ?_))
  intro Z hZ eG iY
  rw[bC _ _ (by rfl)]at hZ
  have gI:Q w Z:=eG _ _ qh dD
  have HF:=Lib.hid hRR
  clear eG iY dD hRR dh eu
  go_wp2_with fail
  exact bodyPost_ret (results_cell_row rfl _ _ g6 37 (au a1) (0,0) _ rfl hZ Tryz.underlying37 rfl (by kernel_rfl)) rfl ⟨by rw[HF.out],gI⟩
 by_cases hk:x.do_=2∨x.do_=3∨x.do_=14∨x.do_=12
 ·rcases hk with hdo|hdo|hdo|hdo
  all_goals
   by_cases hlen:0<l.length
   ·have hRR:R=jZ (setObj a0 (l.getD (x.what%(l.length:Int)).toNat bK)) x.text:=by rw[HR.out];unfold mO mM mJ pI oM oN jh;rw[hdo];simp[hlen]
    have hix:((x.what%(l.length:Int)).toNat:Int)=x.what%(l.length:Int):=Int.toNat_of_nonneg (Int.emod_nonneg _ (by omega))
    have hib:(x.what%(l.length:Int)).toNat<l.length:=by have:=Int.emod_lt_of_pos x.what (show(0:Int)<(l.length:Int) by omega);omega
    rw[List.getD_eq_getElem?_getD,List.getElem?_eq_getElem hib,Option.getD_some]at hRR
    have b1:=aB (.int .i64 x.do_) hC2 1
    rw[hdo]at b1
    have b2:=aB (.int .i64 x.who) hC2 2
    have b3:=aB (.int .i64 x.what) hC2 3
    have b4:=aB (.string x.text) hC2 4
    have c5:=aB (.string a0.object) hW 5
    have f5:=bI hW 5
    have c6:=aB (.string a0.target) hW 6
    have f6:=bI hW 6
    have c10:=aB (.string a0.text) hW 10
    have f10:=bI hW 10
    have hTy:∀y:Wd W,Tab y.w:=fun y=>hT.q (Q.trans aX y.q)
    have cO:∀y:Wd W,Strs y.w A l:=fun y=>hL.q (Q.trans aX y.q)
    have bf:=fun y:Wd W=>iE x.do_ y.w
    rw[hdo]at bf
    have fP:=fun y:Wd W=>Cm x.what (l.length:Int) y.w hx (by omega)
    have hcx:∀y:Wd W,∃b o,A=some ⟨b,o,none⟩/\y.w.cell? ⟨b,o+(x.what%(l.length:Int)).toNat,none⟩=some (.string l[(x.what%(l.length:Int)).toNat]):=fun y=>by
     obtain⟨b,o,e,h1,h2⟩:=cO y hlen
     exact⟨b,o,e,h2 _ hib⟩
    obtain⟨v,hv⟩:=Wd.first W
    rw[hv]
    clear hv
    obtain⟨b,o,eA,-⟩:=hcx v
    have hcy:∀y:Wd W,y.w.cell? ⟨b,o+(x.what%(l.length:Int)).toNat,none⟩=some (.string l[(x.what%(l.length:Int)).toNat]):=fun y=>by
     obtain⟨b2,o2,e2,h2⟩:=hcx y
     rw[eA]at e2
     injection e2 with e2
     injection e2 with e2 e3
     subst e2 e3
     exact h2
    generalize l[(x.what%(l.length:Int)).toNat]=ob at*
    have hl0:(0:Int)<(l.length:Int):=by omega
    generalize Ko:(x.what%(l.length:Int)).toNat=nV at*
    rw[<-hix]at fP
    have Kq:(nV:Int)<(l.length:Int):=by omega
    have hix0:(0:Int)<=(nV:Int):=by omega
    generalize l.length=ll at*
    clear hcx
    rw[eA]
    go_upto_region 7 with(first|(go_at_call 20;refine(fP _).mono ?_;rintro e w' ⟨rfl,bM⟩;obtain⟨v,rfl⟩:=Wd.next _ bM;clear bM))
    clear hcy fP
    obtain⟨V2,bG,hV,aK,dH⟩:=uq (b:=setObj a0 ob) uw (Q.trans aX v.q) (v.blk hW) (show 5+1<=20 by decide) (Ec a0 ob)
    rw[bG]
    replace hC2:=(dH g4 uz).trans (v.blk hC2)
    replace dJ:=(dH g6 uy).trans (v.blk dJ)
    replace aX:=aK
    replace hW:=hV
    clear bG dH aK hV b1 b2 b3 b4 c5 c6 c10 f5 f6 f10 hTy cO bf
    generalize setObj a0 ob=a1 at*
    have b1:=aB (.int .i64 x.do_) hC2 1
    rw[hdo]at b1
    have b2:=aB (.int .i64 x.who) hC2 2
    have b3:=aB (.int .i64 x.what) hC2 3
    have b4:=aB (.string x.text) hC2 4
    have c5:=aB (.string a1.object) hW 5
    have f5:=bI hW 5
    have c6:=aB (.string a1.target) hW 6
    have f6:=bI hW 6
    have c10:=aB (.string a1.text) hW 10
    have f10:=bI hW 10
    have hTy:∀y:Wd V2,Tab y.w:=fun y=>hT.q (Q.trans aX y.q)
    have cO:∀y:Wd V2,Strs y.w A l:=fun y=>hL.q (Q.trans aX y.q)
    have bf:=fun y:Wd V2=>iE x.do_ y.w
    rw[hdo]at bf
    obtain⟨v,hv⟩:=Wd.first V2
    rw[hv]
    clear hv
    go_upto_region 9 with(first|(go_at_call 48;refine(bf _).mono ?_;rintro e w' ⟨rfl,bM⟩;obtain⟨v,rfl⟩:=Wd.next _ bM;clear bM))
    obtain⟨V3,bG,hV,aK,dH⟩:=uq (b:=jZ a1 x.text) uw (Q.trans aX v.q) (v.blk hW) (show 10+1<=20 by decide) (Ed a1 x.text)
    rw[bG]
    replace hC2:=(dH g4 uz).trans (v.blk hC2)
    replace dJ:=(dH g6 uy).trans (v.blk dJ)
    replace aX:=aK
    replace hW:=hV
    clear bG dH aK hV b1 b2 b3 b4 c5 c6 c10 f5 f6 f10 hTy cO bf
    generalize jZ a1 x.text=a2 at*
    have b1:=aB (.int .i64 x.do_) hC2 1
    rw[hdo]at b1
    have b2:=aB (.int .i64 x.who) hC2 2
    have b3:=aB (.int .i64 x.what) hC2 3
    have b4:=aB (.string x.text) hC2 4
    have c5:=aB (.string a2.object) hW 5
    have f5:=bI hW 5
    have c6:=aB (.string a2.target) hW 6
    have f6:=bI hW 6
    have c10:=aB (.string a2.text) hW 10
    have f10:=bI hW 10
    have hTy:∀y:Wd V3,Tab y.w:=fun y=>hT.q (Q.trans aX y.q)
    have cO:∀y:Wd V3,Strs y.w A l:=fun y=>hL.q (Q.trans aX y.q)
    have bf:=fun y:Wd V3=>iE x.do_ y.w
    rw[hdo]at bf
    obtain⟨v,hv⟩:=Wd.first V3
    rw[hv]
    clear hv
    have dh:=pU (P:=Tryz.prog) (au a2) (v.blk hW) Tryz.underlying37
    have eu:ah v.w g6 37 aH.cells.toArray:=v.blk dJ
    have dD:=Q.trans aX v.q
    clear b1 b2 b3 b4 c5 c6 c10 f5 f6 f10 hTy cO bf hC2 dJ hW aX
    go_wp2_with (first|(refine aI (.tmp 7) dh ?_)|(refine eY (cs:=aH.cells) eu rfl 37 (.tmp 6) (.tmp 97) a2.cells rfl rfl rfl (by kernel_rfl) (dL _) (Nat.le_refl 20) ?_))
    intro Z hZ eG iY
    rw[bC _ _ (by rfl)]at hZ
    have gI:Q w Z:=eG _ _ qh dD
    have HF:=Lib.hid hRR
    clear eG iY dD hRR dh eu
    go_wp2_with fail
    exact bodyPost_ret (results_cell_row rfl _ _ g6 37 (au a2) (0,0) _ rfl hZ Tryz.underlying37 rfl (by kernel_rfl)) rfl ⟨by rw[HF.out],gI⟩
   ·have hl00:l.length=0:=by omega
    have hRR:R=jZ a0 x.text:=by rw[HR.out];unfold mO mM mJ pI oM oN jh;rw[hdo];simp[hl00]
    rw[hl00]
    have b1:=aB (.int .i64 x.do_) hC2 1
    rw[hdo]at b1
    have b2:=aB (.int .i64 x.who) hC2 2
    have b3:=aB (.int .i64 x.what) hC2 3
    have b4:=aB (.string x.text) hC2 4
    have c5:=aB (.string a0.object) hW 5
    have f5:=bI hW 5
    have c6:=aB (.string a0.target) hW 6
    have f6:=bI hW 6
    have c10:=aB (.string a0.text) hW 10
    have f10:=bI hW 10
    have hTy:∀y:Wd W,Tab y.w:=fun y=>hT.q (Q.trans aX y.q)
    have cO:∀y:Wd W,Strs y.w A l:=fun y=>hL.q (Q.trans aX y.q)
    have bf:=fun y:Wd W=>iE x.do_ y.w
    rw[hdo]at bf
    obtain⟨v,hv⟩:=Wd.first W
    rw[hv]
    clear hv
    go_upto_region 9 with(first|(go_at_call 48;refine(bf _).mono ?_;rintro e w' ⟨rfl,bM⟩;obtain⟨v,rfl⟩:=Wd.next _ bM;clear bM))
    obtain⟨V4,bG,hV,aK,dH⟩:=uq (b:=jZ a0 x.text) uw (Q.trans aX v.q) (v.blk hW) (show 10+1<=20 by decide) (Ed a0 x.text)
    rw[bG]
    replace hC2:=(dH g4 uz).trans (v.blk hC2)
    replace dJ:=(dH g6 uy).trans (v.blk dJ)
    replace aX:=aK
    replace hW:=hV
    clear bG dH aK hV b1 b2 b3 b4 c5 c6 c10 f5 f6 f10 hTy cO bf
    generalize jZ a0 x.text=a1 at*
    have b1:=aB (.int .i64 x.do_) hC2 1
    rw[hdo]at b1
    have b2:=aB (.int .i64 x.who) hC2 2
    have b3:=aB (.int .i64 x.what) hC2 3
    have b4:=aB (.string x.text) hC2 4
    have c5:=aB (.string a1.object) hW 5
    have f5:=bI hW 5
    have c6:=aB (.string a1.target) hW 6
    have f6:=bI hW 6
    have c10:=aB (.string a1.text) hW 10
    have f10:=bI hW 10
    have hTy:∀y:Wd V4,Tab y.w:=fun y=>hT.q (Q.trans aX y.q)
    have cO:∀y:Wd V4,Strs y.w A l:=fun y=>hL.q (Q.trans aX y.q)
    have bf:=fun y:Wd V4=>iE x.do_ y.w
    rw[hdo]at bf
    obtain⟨v,hv⟩:=Wd.first V4
    rw[hv]
    clear hv
    have dh:=pU (P:=Tryz.prog) (au a1) (v.blk hW) Tryz.underlying37
    have eu:ah v.w g6 37 aH.cells.toArray:=v.blk dJ
    have dD:=Q.trans aX v.q
    clear b1 b2 b3 b4 c5 c6 c10 f5 f6 f10 hTy cO bf hC2 dJ hW aX
    go_wp2_with (first|(refine aI (.tmp 7) dh ?_)|(refine eY (cs:=aH.cells) eu rfl 37 (.tmp 6) (.tmp 97) a1.cells rfl rfl rfl (by kernel_rfl) (dL _) (Nat.le_refl 20) ?_))
    intro Z hZ eG iY
    rw[bC _ _ (by rfl)]at hZ
    have gI:Q w Z:=eG _ _ qh dD
    have HF:=Lib.hid hRR
    clear eG iY dD hRR dh eu
    go_wp2_with fail
    exact bodyPost_ret (results_cell_row rfl _ _ g6 37 (au a1) (0,0) _ rfl hZ Tryz.underlying37 rfl (by kernel_rfl)) rfl ⟨by rw[HF.out],gI⟩
 have hk1:=hk
 by_cases hk:x.do_=4∨x.do_=5∨x.do_=6∨x.do_=13
 ·rcases hk with hdo|hdo|hdo|hdo
  all_goals
   by_cases hlen:0<l.length
   ·have hRR:R=setObj a0 (l.getD (x.what%(l.length:Int)).toNat bK):=by rw[HR.out];unfold mO mM mJ pI oM oN jh;rw[hdo];simp[hlen]
    have hix:((x.what%(l.length:Int)).toNat:Int)=x.what%(l.length:Int):=Int.toNat_of_nonneg (Int.emod_nonneg _ (by omega))
    have hib:(x.what%(l.length:Int)).toNat<l.length:=by have:=Int.emod_lt_of_pos x.what (show(0:Int)<(l.length:Int) by omega);omega
    rw[List.getD_eq_getElem?_getD,List.getElem?_eq_getElem hib,Option.getD_some]at hRR
    have b1:=aB (.int .i64 x.do_) hC2 1
    rw[hdo]at b1
    have b2:=aB (.int .i64 x.who) hC2 2
    have b3:=aB (.int .i64 x.what) hC2 3
    have b4:=aB (.string x.text) hC2 4
    have c5:=aB (.string a0.object) hW 5
    have f5:=bI hW 5
    have c6:=aB (.string a0.target) hW 6
    have f6:=bI hW 6
    have c10:=aB (.string a0.text) hW 10
    have f10:=bI hW 10
    have hTy:∀y:Wd W,Tab y.w:=fun y=>hT.q (Q.trans aX y.q)
    have cO:∀y:Wd W,Strs y.w A l:=fun y=>hL.q (Q.trans aX y.q)
    have bf:=fun y:Wd W=>iE x.do_ y.w
    rw[hdo]at bf
    have fP:=fun y:Wd W=>Cm x.what (l.length:Int) y.w hx (by omega)
    have hcx:∀y:Wd W,∃b o,A=some ⟨b,o,none⟩/\y.w.cell? ⟨b,o+(x.what%(l.length:Int)).toNat,none⟩=some (.string l[(x.what%(l.length:Int)).toNat]):=fun y=>by
     obtain⟨b,o,e,h1,h2⟩:=cO y hlen
     exact⟨b,o,e,h2 _ hib⟩
    obtain⟨v,hv⟩:=Wd.first W
    rw[hv]
    clear hv
    obtain⟨b,o,eA,-⟩:=hcx v
    have hcy:∀y:Wd W,y.w.cell? ⟨b,o+(x.what%(l.length:Int)).toNat,none⟩=some (.string l[(x.what%(l.length:Int)).toNat]):=fun y=>by
     obtain⟨b2,o2,e2,h2⟩:=hcx y
     rw[eA]at e2
     injection e2 with e2
     injection e2 with e2 e3
     subst e2 e3
     exact h2
    generalize l[(x.what%(l.length:Int)).toNat]=ob at*
    have hl0:(0:Int)<(l.length:Int):=by omega
    generalize Ko:(x.what%(l.length:Int)).toNat=nV at*
    rw[<-hix]at fP
    have Kq:(nV:Int)<(l.length:Int):=by omega
    have hix0:(0:Int)<=(nV:Int):=by omega
    generalize l.length=ll at*
    clear hcx
    rw[eA]
    go_upto_region 7 with(first|(go_at_call 20;refine(fP _).mono ?_;rintro e w' ⟨rfl,bM⟩;obtain⟨v,rfl⟩:=Wd.next _ bM;clear bM))
    clear hcy fP
    obtain⟨V5,bG,hV,aK,dH⟩:=uq (b:=setObj a0 ob) uw (Q.trans aX v.q) (v.blk hW) (show 5+1<=20 by decide) (Ec a0 ob)
    rw[bG]
    replace hC2:=(dH g4 uz).trans (v.blk hC2)
    replace dJ:=(dH g6 uy).trans (v.blk dJ)
    replace aX:=aK
    replace hW:=hV
    clear bG dH aK hV b1 b2 b3 b4 c5 c6 c10 f5 f6 f10 hTy cO bf
    generalize setObj a0 ob=a1 at*
    have b1:=aB (.int .i64 x.do_) hC2 1
    rw[hdo]at b1
    have b2:=aB (.int .i64 x.who) hC2 2
    have b3:=aB (.int .i64 x.what) hC2 3
    have b4:=aB (.string x.text) hC2 4
    have c5:=aB (.string a1.object) hW 5
    have f5:=bI hW 5
    have c6:=aB (.string a1.target) hW 6
    have f6:=bI hW 6
    have c10:=aB (.string a1.text) hW 10
    have f10:=bI hW 10
    have hTy:∀y:Wd V5,Tab y.w:=fun y=>hT.q (Q.trans aX y.q)
    have cO:∀y:Wd V5,Strs y.w A l:=fun y=>hL.q (Q.trans aX y.q)
    have bf:=fun y:Wd V5=>iE x.do_ y.w
    rw[hdo]at bf
    obtain⟨v,hv⟩:=Wd.first V5
    rw[hv]
    clear hv
    go_upto_region 9 with(first|(go_at_call 48;refine(bf _).mono ?_;rintro e w' ⟨rfl,bM⟩;obtain⟨v,rfl⟩:=Wd.next _ bM;clear bM))
    have dh:=pU (P:=Tryz.prog) (au a1) (v.blk hW) Tryz.underlying37
    have eu:ah v.w g6 37 aH.cells.toArray:=v.blk dJ
    have dD:=Q.trans aX v.q
    clear b1 b2 b3 b4 c5 c6 c10 f5 f6 f10 hTy cO bf hC2 dJ hW aX
    go_wp2_with (first|(refine aI (.tmp 7) dh ?_)|(refine eY (cs:=aH.cells) eu rfl 37 (.tmp 6) (.tmp 97) a1.cells rfl rfl rfl (by kernel_rfl) (dL _) (Nat.le_refl 20) ?_))
    intro Z hZ eG iY
    rw[bC _ _ (by rfl)]at hZ
    have gI:Q w Z:=eG _ _ qh dD
    have HF:=Lib.hid hRR
    clear eG iY dD hRR dh eu
    go_wp2_with fail
    exact bodyPost_ret (results_cell_row rfl _ _ g6 37 (au a1) (0,0) _ rfl hZ Tryz.underlying37 rfl (by kernel_rfl)) rfl ⟨by rw[HF.out],gI⟩
   ·have hl00:l.length=0:=by omega
    have hRR:R=a0:=by rw[HR.out];unfold mO mM mJ pI oM oN jh;rw[hdo];simp[hl00]
    rw[hl00]
    have b1:=aB (.int .i64 x.do_) hC2 1
    rw[hdo]at b1
    have b2:=aB (.int .i64 x.who) hC2 2
    have b3:=aB (.int .i64 x.what) hC2 3
    have b4:=aB (.string x.text) hC2 4
    have c5:=aB (.string a0.object) hW 5
    have f5:=bI hW 5
    have c6:=aB (.string a0.target) hW 6
    have f6:=bI hW 6
    have c10:=aB (.string a0.text) hW 10
    have f10:=bI hW 10
    have hTy:∀y:Wd W,Tab y.w:=fun y=>hT.q (Q.trans aX y.q)
    have cO:∀y:Wd W,Strs y.w A l:=fun y=>hL.q (Q.trans aX y.q)
    have bf:=fun y:Wd W=>iE x.do_ y.w
    rw[hdo]at bf
    obtain⟨v,hv⟩:=Wd.first W
    rw[hv]
    clear hv
    go_upto_region 9 with(first|(go_at_call 48;refine(bf _).mono ?_;rintro e w' ⟨rfl,bM⟩;obtain⟨v,rfl⟩:=Wd.next _ bM;clear bM))
    have dh:=pU (P:=Tryz.prog) (au a0) (v.blk hW) Tryz.underlying37
    have eu:ah v.w g6 37 aH.cells.toArray:=v.blk dJ
    have dD:=Q.trans aX v.q
    clear b1 b2 b3 b4 c5 c6 c10 f5 f6 f10 hTy cO bf hC2 dJ hW aX
    go_wp2_with (first|(refine aI (.tmp 7) dh ?_)|(refine eY (cs:=aH.cells) eu rfl 37 (.tmp 6) (.tmp 97) a0.cells rfl rfl rfl (by kernel_rfl) (dL _) (Nat.le_refl 20) ?_))
    intro Z hZ eG iY
    rw[bC _ _ (by rfl)]at hZ
    have gI:Q w Z:=eG _ _ qh dD
    have HF:=Lib.hid hRR
    clear eG iY dD hRR dh eu
    go_wp2_with fail
    exact bodyPost_ret (results_cell_row rfl _ _ g6 37 (au a0) (0,0) _ rfl hZ Tryz.underlying37 rfl (by kernel_rfl)) rfl ⟨by rw[HF.out],gI⟩
 have hk0:=hk
 by_cases hdo:x.do_=1
 ·have hRR:R=jZ a0 x.text:=by rw[HR.out];unfold mO mM mJ pI oM oN jh;rw[hdo];simp
  have b1:=aB (.int .i64 x.do_) hC2 1
  rw[hdo]at b1
  have b2:=aB (.int .i64 x.who) hC2 2
  have b3:=aB (.int .i64 x.what) hC2 3
  have b4:=aB (.string x.text) hC2 4
  have c5:=aB (.string a0.object) hW 5
  have f5:=bI hW 5
  have c6:=aB (.string a0.target) hW 6
  have f6:=bI hW 6
  have c10:=aB (.string a0.text) hW 10
  have f10:=bI hW 10
  have hTy:∀y:Wd W,Tab y.w:=fun y=>hT.q (Q.trans aX y.q)
  have cO:∀y:Wd W,Strs y.w A l:=fun y=>hL.q (Q.trans aX y.q)
  have bf:=fun y:Wd W=>iE x.do_ y.w
  rw[hdo]at bf
  obtain⟨v,hv⟩:=Wd.first W
  rw[hv]
  clear hv
  go_upto_region 9 with(first|(go_at_call 48;refine(bf _).mono ?_;rintro e w' ⟨rfl,bM⟩;obtain⟨v,rfl⟩:=Wd.next _ bM;clear bM))
  obtain⟨V6,bG,hV,aK,dH⟩:=uq (b:=jZ a0 x.text) uw (Q.trans aX v.q) (v.blk hW) (show 10+1<=20 by decide) (Ed a0 x.text)
  rw[bG]
  replace hC2:=(dH g4 uz).trans (v.blk hC2)
  replace dJ:=(dH g6 uy).trans (v.blk dJ)
  replace aX:=aK
  replace hW:=hV
  clear bG dH aK hV b1 b2 b3 b4 c5 c6 c10 f5 f6 f10 hTy cO bf
  generalize jZ a0 x.text=a1 at*
  have b1:=aB (.int .i64 x.do_) hC2 1
  rw[hdo]at b1
  have b2:=aB (.int .i64 x.who) hC2 2
  have b3:=aB (.int .i64 x.what) hC2 3
  have b4:=aB (.string x.text) hC2 4
  have c5:=aB (.string a1.object) hW 5
  have f5:=bI hW 5
  have c6:=aB (.string a1.target) hW 6
  have f6:=bI hW 6
  have c10:=aB (.string a1.text) hW 10
  have f10:=bI hW 10
  have hTy:∀y:Wd V6,Tab y.w:=fun y=>hT.q (Q.trans aX y.q)
  have cO:∀y:Wd V6,Strs y.w A l:=fun y=>hL.q (Q.trans aX y.q)
  have bf:=fun y:Wd V6=>iE x.do_ y.w
  rw[hdo]at bf
  obtain⟨v,hv⟩:=Wd.first V6
  rw[hv]
  clear hv
  have dh:=pU (P:=Tryz.prog) (au a1) (v.blk hW) Tryz.underlying37
  have eu:ah v.w g6 37 aH.cells.toArray:=v.blk dJ
  have dD:=Q.trans aX v.q
  clear b1 b2 b3 b4 c5 c6 c10 f5 f6 f10 hTy cO bf hC2 dJ hW aX
  go_wp2_with (first|(refine aI (.tmp 7) dh ?_)|(refine eY (cs:=aH.cells) eu rfl 37 (.tmp 6) (.tmp 97) a1.cells rfl rfl rfl (by kernel_rfl) (dL _) (Nat.le_refl 20) ?_))
  intro Z hZ eG iY
  rw[bC _ _ (by rfl)]at hZ
  have gI:Q w Z:=eG _ _ qh dD
  have HF:=Lib.hid hRR
  clear eG iY dD hRR dh eu
  go_wp2_with fail
  exact bodyPost_ret (results_cell_row rfl _ _ g6 37 (au a1) (0,0) _ rfl hZ Tryz.underlying37 rfl (by kernel_rfl)) rfl ⟨by rw[HF.out],gI⟩
 have hn:=ht
 have m1:=hdo
 have n1:(x.do_==1)=false:=by simp;omega
 have n2:(x.do_==2)=false:=by simp;omega
 have n3:(x.do_==3)=false:=by simp;omega
 have n4:(x.do_==4)=false:=by simp;omega
 have n5:(x.do_==5)=false:=by simp;omega
 have n6:(x.do_==6)=false:=by simp;omega
 have n13:(x.do_==13)=false:=by simp;omega
 have n14:(x.do_==14)=false:=by simp;omega
 have n12:(x.do_==12)=false:=by simp;omega
 have htb:oN x.do_=false:=by
  unfold oN
  rcases Classical.em (7<=x.do_)with h|h
  ·have:¬x.do_<=11:=fun h2=>hn ⟨h,h2⟩
   simp[this]
  ·simp[h]
 have hRR:R=a0:=by rw[HR.out];unfold mO mM mJ;rw[htb];unfold pI oM jh;simp[*]
 have hpb:jh x.do_=false:=by unfold jh;simp[*]
 have b1:=aB (.int .i64 x.do_) hC2 1
 have b2:=aB (.int .i64 x.who) hC2 2
 have b3:=aB (.int .i64 x.what) hC2 3
 have b4:=aB (.string x.text) hC2 4
 have c5:=aB (.string a0.object) hW 5
 have f5:=bI hW 5
 have c6:=aB (.string a0.target) hW 6
 have f6:=bI hW 6
 have c10:=aB (.string a0.text) hW 10
 have f10:=bI hW 10
 have hTy:∀y:Wd W,Tab y.w:=fun y=>hT.q (Q.trans aX y.q)
 have cO:∀y:Wd W,Strs y.w A l:=fun y=>hL.q (Q.trans aX y.q)
 have bf:=fun y:Wd W=>iE x.do_ y.w
 obtain⟨v,hv⟩:=Wd.first W
 rw[hv]
 clear hv
 rw[hpb]at bf
 have hsp:¬7<=x.do_∨(7<=x.do_/\¬x.do_<=11):=by omega
 clear hn htb
 rcases hsp with h7|⟨h7,h11⟩
 ·go_upto_region 9 with(first|(go_at_call 48;refine(bf _).mono ?_;rintro e w' ⟨rfl,bM⟩;obtain⟨v,rfl⟩:=Wd.next _ bM;clear bM))
  have dh:=pU (P:=Tryz.prog) (au a0) (v.blk hW) Tryz.underlying37
  have eu:ah v.w g6 37 aH.cells.toArray:=v.blk dJ
  have dD:=Q.trans aX v.q
  clear b1 b2 b3 b4 c5 c6 c10 f5 f6 f10 hTy cO bf hC2 dJ hW aX
  go_wp2_with (first|(refine aI (.tmp 7) dh ?_)|(refine eY (cs:=aH.cells) eu rfl 37 (.tmp 6) (.tmp 97) a0.cells rfl rfl rfl (by kernel_rfl) (dL _) (Nat.le_refl 20) ?_))
  intro Z hZ eG iY
  rw[bC _ _ (by rfl)]at hZ
  have gI:Q w Z:=eG _ _ qh dD
  have HF:=Lib.hid hRR
  clear eG iY dD hRR dh eu
  go_wp2_with fail
  exact bodyPost_ret (results_cell_row rfl _ _ g6 37 (au a0) (0,0) _ rfl hZ Tryz.underlying37 rfl (by kernel_rfl)) rfl ⟨by rw[HF.out],gI⟩
 ·go_upto_region 9 with(first|(go_at_call 48;refine(bf _).mono ?_;rintro e w' ⟨rfl,bM⟩;obtain⟨v,rfl⟩:=Wd.next _ bM;clear bM))
  have dh:=pU (P:=Tryz.prog) (au a0) (v.blk hW) Tryz.underlying37
  have eu:ah v.w g6 37 aH.cells.toArray:=v.blk dJ
  have dD:=Q.trans aX v.q
  clear b1 b2 b3 b4 c5 c6 c10 f5 f6 f10 hTy cO bf hC2 dJ hW aX
  go_wp2_with (first|(refine aI (.tmp 7) dh ?_)|(refine eY (cs:=aH.cells) eu rfl 37 (.tmp 6) (.tmp 97) a0.cells rfl rfl rfl (by kernel_rfl) (dL _) (Nat.le_refl 20) ?_))
  intro Z hZ eG iY
  rw[bC _ _ (by rfl)]at hZ
  have gI:Q w Z:=eG _ _ qh dD
  have HF:=Lib.hid hRR
  clear eG iY dD hRR dh eu
  go_wp2_with fail
  exact bodyPost_ret (results_cell_row rfl _ _ g6 37 (au a0) (0,0) _ rfl hZ Tryz.underlying37 rfl (by kernel_rfl)) rfl ⟨by rw[HF.out],gI⟩
end bP
end Go.Proofs.YtbemmjnjoabadaaGreatDoor
