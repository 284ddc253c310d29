/-
  agoralaw24.same, walked.
-/
import Derived.Test.YtbemmjnjoabadaaGreatDoorXG
import Derived.Test.YtbemmjnjoabadaaGreatDoorK42
import Derived.Test.YtbemmjnjoabadaaGreatDoorK43
set_option linter.unusedVariables false
set_option linter.unusedSimpArgs false
set_option maxHeartbeats 8000000
set_option maxRecDepth 100000
namespace Go.Proofs.YtbemmjnjoabadaaGreatDoor
namespace bP
open Go.RowKit aQ Mem _root_.Go.Proofs.YtbemmjnjoabadaaGreatDoor.Code aY Sign _root_.Go.Proofs.YtbemmjnjoabadaaGreatDoor.Item _root_.Go.Proofs.YtbemmjnjoabadaaGreatDoor.Known
def abe(a b:iJ):Bool:=decide (a.since=b.since)&&(decide (a.pub=b.pub)&&decide (a.home=b.home))
theorem aiF(a b:iJ)(x y:Bool):decide (((a.since,a.pub,a.home),x)=((b.since,b.pub,b.home),y))=(abe a b&&(x==y)):=by
 unfold abe
 rw[Bool.eq_iff_iff]
 simp only[Prod.mk.injEq,decide_eq_true_eq,Bool.and_eq_true,beq_iff_eq,and_assoc]
section
open Go.Op Go.Instr
theorem aiG(a b c a' b' c':Int)(w:World):(binOp .neq 111 (.agg #[.int .i64 a, .int .i64 b, .int .i64 c]) (.agg #[.int .i64 a', .int .i64 b', .int .i64 c'])).run Tryz.prog w= .ok (.bool (!(decide (a=a')&&(decide (b=b')&&decide (c=c'))))) w:=by
 have u4:=Tryz.underlying3
 have a4:=Tryz.isAgg3
 have z4:=Tryz.sizeOf3
 have hS:Tryz.prog.underlying 111=some (.struct (Tryz.prog.fieldsOf 111)):=by kernel_rfl
 have hp:Tryz.prog.stoodInHeld 111=false:=by kernel_rfl
 rw[run_neq_struct,show(10000:Nat)=9999+1 from rfl,run_equalIn_agg w 9999 111 _ _ hS hp]
 simp only[Program.fieldsOf,Tryz.underlying111]
 go_simp
 by_cases h1:a=a'<;>by_cases h2:b=b'<;>by_cases h3:c=c'<;>simp[h1,h2,h3]
theorem aiH(a b:iJ)(w:World):(binOp .neq 111 (.agg #[.int .i64 a.since, .int .i64 a.pub, .int .i64 a.home]) (.agg #[.int .i64 b.since, .int .i64 b.pub, .int .i64 b.home])).run Tryz.prog w= .ok (.bool (!abe a b)) w:=aiG ..
theorem aiI(op:BinOp)(a b:Operand)(xs ys:Array Value)(w:World):(eqGuard op 111 a b (.agg xs) (.agg ys)).run Tryz.prog w= .ok () w:=run_eqGuard_agg w op _ _ _ _ _ (by kernel_rfl)
end
def V9(c:ay)(n:Nat):ay:={c with acts:=c.acts.take n}
def aaN(o:Option iJ):(Int×Int×Int)×Bool:=(((o.getD gK).since,(o.getD gK).pub,(o.getD gK).home),o.isSome)
def sameAt(c d:ay)(j:Nat):Bool:=decide (aaN (eP c j)=aaN (eP d j))
def aaJ(c:ay)(i n:Nat):Bool:=(List.range (i+1)).all (sameAt c (V9 c n))
theorem aiJ(c d:ay)(j:Nat):(List.range (j+1)).all (sameAt c d)=((List.range j).all (sameAt c d)&&sameAt c d j):=by
 rw[List.range_succ,List.all_append]
 simp
theorem aiR(c d:ay)(j m:Nat)(h:j<m)(hs:sameAt c d j=false):(List.range m).all (sameAt c d)=false:=by
 rw[List.all_eq_false]
 exact⟨j,List.mem_range.2 h,by rw[hs];simp⟩
theorem afp(k:iJ):k.cells.toArray.all (·.oneCell')=true:=by simp[iJ.cells,Value.oneCell']
theorem aiS(c:ay)(i n:Nat)(w:World)(hI:gX w c)(hi:i<=100000)(hn:n<=c.acts.length):Calls Tryz.prog 18 #[.agg (aF c), .int .i64 (i:Int), .int .i64 (n:Int)] w fun e w'=>e= .returned (.bool (aaJ c i n))/\Q w w':=by
 have hmx:maxLen=9223372036854775807:=by decide
 obtain⟨w1,y1,hy1,hq1,hbk1⟩:=boxedB w 41 c.cells
 have hy1:w.alloc (.cells (aF c) 41)=y1.w:=hy1
 have cZ:=dX (P:=Tryz.prog) (aF c) hbk1 Tryz.underlying41
 have c1:=aB (.slice c.aA c.acts.length c.aC) hbk1 1
 have hnc:n<=c.aC:=Nat.le_trans hn hI.aC.1
 have hg3:=hbk1.lt
 have HQ:=Lib.hid hq1
 have hId:∀y,Q w y->gX y (V9 c n):=fun y hy=>⟨aeB (hI.acts.q hy) n,fun a ha=>(hI.each a (List.mem_of_mem_take ha)).q hy,⟨Nat.le_trans (List.length_take_le _ _) hnc,hI.aC.2⟩,hI.keys.q hy,hI.kC⟩
 have hK1:∀(y:World) (j:Int),Q w y->Calls Tryz.prog 55 #[.agg (aF c), .int .i64 j] y (BD (eP c j) y):=fun y j hy=>O9 c j y (hI.q hy)
 have hK2:∀(y:World) (j:Int),Q w y->Calls Tryz.prog 55 #[.agg (aF (V9 c n)), .int .i64 j] y (BD (eP (V9 c n) j) y):=fun y j hy=>O9 (V9 c n) j y (hId y hy)
 have hcl:(V9 c n).acts.length=n:=by show(c.acts.take n).length=n;rw[List.length_take];omega
 have hsp:splice c.cells 1 [.slice c.aA n c.aC]=(V9 c n).cells:=by
  have h:(V9 c n).cells=[.string c.id, .slice c.aA (V9 c n).acts.length c.aC, .slice c.kA c.keys.length c.kC, .string c.prev, .int .i64 c.gen, .bool c.fork]:=rfl
  rw[h,hcl]
  rfl
 have HSP:=Lib.hid hsp
 have HSM:=Lib.hid (show aaJ c i n=(List.range (i+1)).all (sameAt c (V9 c n))from rfl)
 unfold BD at hK1 hK2
 obtain⟨na,hna⟩:∃na,c.acts.length=na:=⟨_,rfl⟩
 rw[hna]at c1 hn
 have hnI:(n:Int)<=(c.aC:Int):=by omega
 clear hId hcl hsp hbk1
 go_enter Tryz.func18,Tryz.ntmps18
 go_upto_region 2 with(first|(refine aI (.tmp 3) (cZ _) ?_)|(refine fM (ah.new y1.w 41 fE.cells.toArray) rfl 41 (.tmp 7) (.tmp 13) c.cells rfl rfl rfl (by kernel_rfl) (nJ _) (Nat.le_refl 6) ?_))
 intro W hW hbel
 rw[bC _ _ (by rfl)]at hW
 have aJ:Q w1 W:=hbel _ _ y1.q.size (Q.trans y1.q (aO _ _ _))
 have hge:w1.heap.size<=y1.w.heap.size:=y1.q.size
 generalize y1.w.heap.size=g7 at*
 clear hbel
 obtain⟨v,hv⟩:∃v:Wd w1,W=v.w:=⟨⟨W,aJ⟩,rfl⟩
 rw[hv]at hW⊢
 clear hv aJ
 have cF:v.w.cell? ⟨g7,1,none⟩=some (.slice c.aA c.acts.length c.aC):=hW.cell 1
 have fF:v.w.frozen? ⟨g7,1,none⟩=false:=hW.frozen 1
 go_upto_region 3 with(fail)
 have hX:=ah.setCells [.slice c.aA n c.aC] 1 _ v.w hW (show 1+1<=6 by decide)
 rw[HSP.out]at hX
 have jv:Q w1 (v.w.setCells g7 1 [.slice c.aA n c.aC]):=below_setCells hge [.slice c.aA n c.aC] 1 w1 v.w v.q
 obtain⟨X,bG⟩:∃X,v.w.setCell ⟨g7,1,none⟩ (.slice c.aA n c.aC)=X:=⟨_,rfl⟩
 have hX:ah X g7 41 (V9 c n).cells.toArray:=bG▸hX
 have jv:Q w1 X:=bG▸jv
 rw[bG]
 clear bG cF fF hW HSP
 obtain⟨d,hd⟩:∃d,V9 c n=d:=⟨_,rfl⟩
 rw[hd]at hX hK2 HSM
 have dh:=dX (P:=Tryz.prog) (aF d) hX Tryz.underlying41
 have uU:∀y:Wd X,(Instr.loadAt 41 (.pointer (some ⟨w.heap.size,0,none⟩))).run Tryz.prog y.w= .ok (.agg (aF c)) y.w:=fun y=>cZ ⟨y.w,Q.trans jv y.q⟩
 have hM1:∀(y:Wd X) (j:Int),_:=fun y j=>hK1 y.w j (Q.trans HQ.out (Q.trans jv y.q))
 have hM2:∀(y:Wd X) (j:Int),_:=fun y j=>hK2 y.w j (Q.trans HQ.out (Q.trans jv y.q))
 have HQX:=Lib.hid (Q.trans HQ.out jv)
 clear hK1 hK2 cZ hX jv hd c1 hnI
 obtain⟨v0,hv0⟩:=Wd.first X
 rw[hv0]
 clear hv0
 go_wp2_with fail
 go_loopw [8] (fun ix wr=>∃(j:Nat) (z:Wd X),ix= .int .i64 j/\wr=z.w/\j<=i+1/\Hid ((List.range j).all (sameAt c d)=true)) (fun ix _=>i+1-(intOf ix).toNat)
 case atStart=>exact⟨0,v0,rfl,rfl,Nat.zero_le _,Lib.hid rfl⟩
 case round=>
  obtain⟨j,z,rfl,rfl,hj,HA⟩:=hrel
  by_cases hlt:j<=i
  ·have pX:(j:Int)<=(i:Int):=by omega
   have hN1:=fun y:Wd X=>hM1 y (j:Int)
   have Ny:=fun y:Wd X=>hM2 y (j:Int)
   have hsa:sameAt c d j=decide (aaN (eP c j)=aaN (eP d j)):=rfl
   have hst:=aiJ c d j
   rw[HA.out,Bool.true_and]at hst
   have hno:=aiR c d j (i+1) (by omega)
   generalize eP c (j:Int)=o1 at*
   generalize eP d (j:Int)=o2 at*
   unfold aaN at hsa
   generalize o1.getD gK=k1 at*
   generalize o2.getD gK=k2 at*
   generalize o1.isSome=b1 at*
   generalize o2.isSome=b2 at*
   have afO:sameAt c d j=(abe k1 k2&&(b1==b2)):=by rw[hsa,aiF]
   have hgd:=aiI
   have hne2:=fun w=>aiH k1 k2 w
   have HSA:=Lib.hid afO
   have HST:=Lib.hid hst
   have HNO:=Lib.hid hno
   clear hsa afO hst hno HA
   generalize abe k1 k2=ek at*
   obtain⟨s1,p1,h1⟩:=k1
   obtain⟨s2,p2,h2⟩:=k2
   dsimp only[dV,iJ.cells]at hN1 Ny hne2
   go_upto_region 7 with(first|(refine aI (.tmp 3) (uU _) ?_)|(go_at_call 55;refine(hN1 _).mono ?_;rintro e w' ⟨rfl,hq⟩;obtain⟨z1,rfl⟩:=Wd.next _ hq;clear hq)|(refine fM (ah.new z1.w 111 gK.cells.toArray) rfl 111 (.tmp 9) (.tmp 28) (iJ.cells ⟨s1,p1,h1⟩) rfl rfl rfl (by kernel_rfl) (afp _) (Nat.le_refl 3) ?_))
   intro W9 hW9 afU
   rw[bC _ _ (by rfl)]at hW9
   have bD:Q X W9:=afU _ _ z1.q.size (Q.trans z1.q (aO _ _ _))
   generalize z1.w.heap.size=g9 at*
   clear afU
   have aiW:∀y:Wd W9,(Instr.loadAt 41 (.pointer (some ⟨g7,0,none⟩))).run Tryz.prog y.w= .ok (.agg (aF d)) y.w:=fun y=>dh ⟨y.w,Q.trans bD y.q⟩
   have afW:=fun y:Wd W9=>Ny ⟨y.w,Q.trans bD y.q⟩
   obtain⟨v9,hv9⟩:=Wd.first W9
   rw[hv9]
   clear hv9
   go_upto_region 8 with(first|(refine aI (.tmp 7) (aiW _) ?_)|(go_at_call 55;refine(afW _).mono ?_;rintro e w' ⟨rfl,hq⟩;obtain⟨z2,rfl⟩:=Wd.next v9 hq;clear hq)|(refine fM (ah.new z2.w 111 gK.cells.toArray) rfl 111 (.tmp 11) (.tmp 34) (iJ.cells ⟨s2,p2,h2⟩) rfl rfl rfl (by kernel_rfl) (afp _) (Nat.le_refl 3) ?_))
   intro W11 ab3 afY
   rw[bC _ _ (by rfl)]at ab3
   have hq11:Q W9 W11:=afY _ _ z2.q.size (Q.trans z2.q (aO _ _ _))
   generalize z2.w.heap.size=g11 at*
   have aee:=hW9.q hq11
   clear afY hW9
   have hL1:∀y:Wd W11,(Instr.loadAt 111 (.pointer (some ⟨g9,0,none⟩))).run Tryz.prog y.w= .ok (.agg #[.int .i64 s1, .int .i64 p1, .int .i64 h1]) y.w:=Wd.load (ty:=111) aee.lt (ah.range (cs:=[.int .i64 s1, .int .i64 p1, .int .i64 h1]) aee) Tryz.underlying111 rfl (by kernel_rfl)
   have hL2:∀y:Wd W11,(Instr.loadAt 111 (.pointer (some ⟨g11,0,none⟩))).run Tryz.prog y.w= .ok (.agg #[.int .i64 s2, .int .i64 p2, .int .i64 h2]) y.w:=Wd.load (ty:=111) ab3.lt (ah.range (cs:=[.int .i64 s2, .int .i64 p2, .int .i64 h2]) ab3) Tryz.underlying111 rfl (by kernel_rfl)
   obtain⟨v11,af2⟩:=Wd.first W11
   rw[af2]
   clear af2 hN1 Ny afW aiW aee ab3
   rcases(show ek=false∨(ek=true/\b1=true/\b2=false)∨(ek=true/\b1=false/\b2=true)∨(ek=true/\b1=true/\b2=true)∨(ek=true/\b1=false/\b2=false) by cases ek<;>cases b1<;>cases b2<;>simp)with rfl|⟨rfl,rfl,rfl⟩|⟨rfl,rfl,rfl⟩|⟨rfl,rfl,rfl⟩|⟨rfl,rfl,rfl⟩
   ·have HF:Hid (aaJ c i n=false):=Lib.hid (by rw[HSM.out];exact HNO.out (by rw[HSA.out];rfl))
    clear HNO HSA HST
    go_wp2_with (first|(refine aI (.tmp 9) (hL1 _) ?_)|(refine aI (.tmp 11) (hL2 _) ?_))
    go_ret
    exact⟨by rw[HF.out];rfl,Q.trans HQX.out (Q.trans bD (Q.trans hq11 v11.q))⟩
   ·have HF:Hid (aaJ c i n=false):=Lib.hid (by rw[HSM.out];exact HNO.out (by rw[HSA.out];rfl))
    clear HNO HSA HST
    go_wp2_with (first|(refine aI (.tmp 9) (hL1 _) ?_)|(refine aI (.tmp 11) (hL2 _) ?_))
    go_ret
    exact⟨by rw[HF.out];rfl,Q.trans HQX.out (Q.trans bD (Q.trans hq11 v11.q))⟩
   ·have HF:Hid (aaJ c i n=false):=Lib.hid (by rw[HSM.out];exact HNO.out (by rw[HSA.out];rfl))
    clear HNO HSA HST
    go_wp2_with (first|(refine aI (.tmp 9) (hL1 _) ?_)|(refine aI (.tmp 11) (hL2 _) ?_))
    go_ret
    exact⟨by rw[HF.out];rfl,Q.trans HQX.out (Q.trans bD (Q.trans hq11 v11.q))⟩
   ·have HA2:Hid ((List.range (j+1)).all (sameAt c d)=true):=Lib.hid (by rw[HST.out,HSA.out];rfl)
    clear HNO HSA HST
    go_wp2_with (first|(refine aI (.tmp 9) (hL1 _) ?_)|(refine aI (.tmp 11) (hL2 _) ?_))
    exact⟨⟨j+1,⟨v11.w,Q.trans bD (Q.trans hq11 v11.q)⟩,by go_num,rfl,by omega,HA2⟩,by simp only[intOf];omega⟩
   ·have HA2:Hid ((List.range (j+1)).all (sameAt c d)=true):=Lib.hid (by rw[HST.out,HSA.out];rfl)
    clear HNO HSA HST
    go_wp2_with (first|(refine aI (.tmp 9) (hL1 _) ?_)|(refine aI (.tmp 11) (hL2 _) ?_))
    exact⟨⟨j+1,⟨v11.w,Q.trans bD (Q.trans hq11 v11.q)⟩,by go_num,rfl,by omega,HA2⟩,by simp only[intOf];omega⟩
  ·have hgt:¬(j:Int)<=(i:Int):=by omega
   obtain rfl:j=i+1:=by omega
   have HF:Hid (aaJ c i n=true):=Lib.hid (by rw[HSM.out];exact HA.out)
   clear HA hM1 hM2
   go_wp2_with fail
   go_ret
   exact⟨by rw[HF.out];rfl,Q.trans HQX.out z.q⟩
end bP
end Go.Proofs.YtbemmjnjoabadaaGreatDoor
