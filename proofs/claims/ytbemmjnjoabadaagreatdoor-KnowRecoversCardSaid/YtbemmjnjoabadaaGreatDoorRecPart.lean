/-
  regain.Part and regain.Key, walked (on a setup whose wrap is opened or not; on parts that join).
-/
import Derived.Test.YtbemmjnjoabadaaGreatDoorXV
import Derived.Test.YtbemmjnjoabadaaGreatDoorK42
import Derived.Test.YtbemmjnjoabadaaGreatDoorK43
import Derived.Test.YtbemmjnjoabadaaGreatDoorRecLaw
set_option linter.unusedVariables false
set_option linter.unusedSimpArgs false
set_option maxHeartbeats 8000000
set_option maxRecDepth 100000
namespace Go.Proofs.YtbemmjnjoabadaaGreatDoor
namespace Rel
open Go.RowKit aQ Mem _root_.Go.Proofs.YtbemmjnjoabadaaGreatDoor.Code aY Sign _root_.Go.Proofs.YtbemmjnjoabadaaGreatDoor.Item _root_.Go.Proofs.YtbemmjnjoabadaaGreatDoor.Known _root_.Go.Proofs.YtbemmjnjoabadaaGreatDoor.bP
def shA(p:Int×Int):Array Value:= #[.int .i64 p.1, .int .i64 p.2]
theorem akV(p:Int×Int):(shA p).all (·.oneCell')=true:=by simp[shA,Value.oneCell']
theorem azZ(w:World):(Instr.build 72 #[]).run Tryz.prog w= .ok (.agg (shA (0,0))) w:=by kernel_rfl
theorem az0(a b:Int)(w:World):(Instr.build 72 #[(0, .int .i64 a),(1, .int .i64 b)]).run Tryz.prog w= .ok (.agg (shA (a,b))) w:=by kernel_rfl
structure aiD(x:bQ):Prop where
 to:x.to<=9223372036854775807
 lV:x.lV<=9223372036854775807
 sz:x.n.size+x.d.size<=140737488353000
theorem az1(x:Int)(a:ak)(j:Nat)(p:ByteArray)(w:World)(hT:Tab w)(hW:tX w a.gy a.wraps)(hk:a.kind=19)(hj:j<a.wraps.length)(hs:aiD a.wraps[j])(hU:bV.BP x a.wraps[j].kH=(p,false)):
 Calls Tryz.prog 26 #[.int .i64 x, .agg (au a), .int .i64 (j:Int)] w fun e w'=>e= .returned (.tuple #[.agg (shA (0,0)), .bool false])/\Q w w':=by
 have hb1:=ah.new w 37 (au a)
 have hq1:=aO w (au a) 37
 have hbr:=ah.new' (g:=w.heap.size+1) (w.alloc (.cells (au a) 37)) 72 (shA (0,0)) (by simp)
 have hq2:=aO (w.alloc (.cells (au a) 37)) (shA (0,0)) 72
 have hb1:=hb1.q hq2
 have hq:=Q.trans hq1 hq2
 clear hq1 hq2
 obtain⟨W0,hW0⟩:∃W0,W0=(w.alloc (.cells (au a) 37)).alloc (.cells (shA (0,0)) 72):=⟨_,rfl⟩
 rw[<-hW0]at hb1 hbr hq
 have c3:∀y:Wd W0,y.w.cell? ⟨w.heap.size,3,none⟩=some (.int .i64 19):=fun y=>by
  rw[<-hk]
  exact(y.blk hb1).cell 3
 obtain⟨nw,hnw⟩:∃nw,a.wraps.length=nw:=⟨_,rfl⟩
 have c15:∀y:Wd W0,y.w.cell? ⟨w.heap.size,15,none⟩=some (.slice a.gy nw a.dF):=fun y=>hnw▸(y.blk hb1).cell 15
 have hjN:j<nw:=by omega
 have hjI:(j:Int)<(nw:Int):=by omega
 have hj0:(0:Int)<=(j:Int):=by omega
 have hjn:¬(j:Int)<0:=by omega
 have hjm:¬(nw:Int)<=(j:Int):=by omega
 obtain⟨b3,o3,eA,hb3,hcs3⟩:=(hW.q hq) (by omega)
 have hld:=Wd.load (P:=Tryz.prog) (ty:=115) hb3 (hcs3 j hj) Tryz.underlying115 rfl (by kernel_rfl)
 have Fp:=fun y:Wd W0=>bV.arE x a.wraps[j].to a.wraps[j].lV a.wraps[j].n a.wraps[j].d a.wraps[j].t p false y.w (hT.q (Q.trans hq y.q)) hs.to hs.lV hs.sz hU
 rw[eA]at c15
 have HX:=Lib.hid hW0
 have HQ:=Lib.hid hq
 have Yc:=Lib.hid hbr
 have hlt0:=hbr.lt
 clear hW0 hb1 hq hbr hT hW hs hU hcs3 hk hnw
 generalize a.wraps[j]=v at*
 go_enter Tryz.func26,Tryz.ntmps26
 go_upto_region 1 with(fail)
 refine(show Code.wp _ _ _ _ W0->Code.wp _ _ _ _ _ from fun h=>by rw[HX.out]at h;exact h) ?_
 obtain⟨y0,hy0⟩:=Wd.first W0
 rw[hy0]
 go_wp2_with (first|(refine kR 33 115 (.tmp 30) (.tmp 31) b3 o3 nw a.dF j 5 rfl rfl rfl rfl Tryz.underlying33 (by kernel_rfl) Tryz.sizeOf115 hjN ?_)|(refine aI (.tmp 32) (hld _) ?_)|(go_at_call 67;refine(Fp _).mono ?_;rintro e w' ⟨rfl,hq2⟩;obtain⟨z1,rfl⟩:=Wd.next y0 hq2;clear hq2)|(refine LQ 72 _ #[] (.agg (shA (0,0))) rfl rfl (by simp only[List.map_toArray,List.map_cons,List.map_nil];rfl) (azZ _) ?_)|(refine eY (cs:=[.int .i64 0, .int .i64 0]) (z1.blk Yc.out) rfl 72 (.tmp 6) (.tmp 39) [.int .i64 0, .int .i64 0] rfl rfl rfl (by kernel_rfl) (akV (0,0)) (Nat.le_refl 2) ?_))
 intro W3 hW3 kQ yT
 rw[bC _ _ (by rfl)]at hW3
 have HF:Hid (Q w W3):=Lib.hid (kQ _ _ (Nat.le_succ _) (Q.trans HQ.out z1.q))
 clear kQ yT
 go_wp2_with fail
 exact bodyPost_ret (nG rfl _ _ (w.heap.size+1) 72 (shA (0,0)) (0,0) _ (.bool false) rfl rfl hW3 Tryz.underlying72 rfl (by kernel_rfl)) rfl ⟨rfl,HF.out⟩
theorem az2(x:Int)(a:ak)(j:Nat)(s:Int×Int)(w:World)(hT:Tab w)(hW:tX w a.gy a.wraps)(hk:a.kind=19)(hj:j<a.wraps.length)(hs:aiD a.wraps[j])(hb:1<=s.1/\s.1<2305843009213693951/\0<=s.2/\s.2<2305843009213693951)(hU:bV.BP x a.wraps[j].kH=(WH s,true)):
 Calls Tryz.prog 26 #[.int .i64 x, .agg (au a), .int .i64 (j:Int)] w fun e w'=>e= .returned (.tuple #[.agg (shA s), .bool true])/\Q w w':=by
 obtain⟨X,Y⟩:=s
 obtain⟨hx1,hx2,hy1,hy2⟩:=hb
 dsimp only at hx1 hx2 hy1 hy2
 have hb1:=ah.new w 37 (au a)
 have hq1:=aO w (au a) 37
 have hbr:=ah.new' (g:=w.heap.size+1) (w.alloc (.cells (au a) 37)) 72 (shA (0,0)) (by simp)
 have hq2:=aO (w.alloc (.cells (au a) 37)) (shA (0,0)) 72
 have hb1:=hb1.q hq2
 have hq:=Q.trans hq1 hq2
 clear hq1 hq2
 obtain⟨W0,hW0⟩:∃W0,W0=(w.alloc (.cells (au a) 37)).alloc (.cells (shA (0,0)) 72):=⟨_,rfl⟩
 rw[<-hW0]at hb1 hbr hq
 have c3:∀y:Wd W0,y.w.cell? ⟨w.heap.size,3,none⟩=some (.int .i64 19):=fun y=>by
  rw[<-hk]
  exact(y.blk hb1).cell 3
 obtain⟨nw,hnw⟩:∃nw,a.wraps.length=nw:=⟨_,rfl⟩
 have c15:∀y:Wd W0,y.w.cell? ⟨w.heap.size,15,none⟩=some (.slice a.gy nw a.dF):=fun y=>hnw▸(y.blk hb1).cell 15
 have hjN:j<nw:=by omega
 have hjI:(j:Int)<(nw:Int):=by omega
 have hj0:(0:Int)<=(j:Int):=by omega
 have hjn:¬(j:Int)<0:=by omega
 have hjm:¬(nw:Int)<=(j:Int):=by omega
 obtain⟨b3,o3,eA,hb3,hcs3⟩:=(hW.q hq) (by omega)
 have hld:=Wd.load (P:=Tryz.prog) (ty:=115) hb3 (hcs3 j hj) Tryz.underlying115 rfl (by kernel_rfl)
 obtain⟨S,hS⟩:∃S,WH (X,Y)=S:=⟨_,rfl⟩
 have hS0:S=aU X++aU Y:=hS.symm
 have hSz:S.size<=9223372036854775807:=by
  have h1:=iI X
  have h2:=iI Y
  rw[hS0,ByteArray.size_append]
  omega
 rw[hS]at hU
 have Fp:=fun y:Wd W0=>bV.arE x a.wraps[j].to a.wraps[j].lV a.wraps[j].n a.wraps[j].d a.wraps[j].t S true y.w (hT.q (Q.trans hq y.q)) hs.to hs.lV hs.sz hU
 have Ky:=fun y:Wd W0=>Dec.azJ S y.w
 have hN1:=fun(g:Nat) (V:World) (hB:ah V g 181 #[.string S, .bool false])=>Dec.ash g S (aU Y) X V hB hS0 (by omega) hSz
 have Ny:=fun(g:Nat) (V:World) (hB:ah V g 181 #[.string (aU Y), .bool false])=>Dec.ash g (aU Y) ⟨#[]⟩ Y V hB (by apply ByteArray.ext;simp) (by omega) (by have:=iI Y;omega)
 have hDn:=fun(g:Nat) (V:World) (hB:ah V g 181 #[.string ⟨#[]⟩, .bool false])=>Dec.azK g V hB
 have hTx:=fun V:World=>aqW X Y V (by omega) (by omega)
 rw[<-hS0]at hTx
 rw[eA]at c15
 have HX:=Lib.hid hW0
 have HQ:=Lib.hid hq
 have Yc:=Lib.hid hbr
 have hlt0:=hbr.lt
 have hnx1:¬X<1:=by omega
 have hnx2:¬(2305843009213693950:Int)<X:=by omega
 have aAD:¬Y<0:=by omega
 have aAE:¬(2305843009213693950:Int)<Y:=by omega
 clear hW0 hb1 hq hbr hT hW hs hU hcs3 hk hnw hS hS0 hSz hx1 hx2 hy1 hy2
 generalize a.wraps[j]=v at*
 generalize aU Y=aAF at*
 go_enter Tryz.func26,Tryz.ntmps26
 go_upto_region 1 with(fail)
 refine(show Code.wp _ _ _ _ W0->Code.wp _ _ _ _ _ from fun h=>by rw[HX.out]at h;exact h) ?_
 obtain⟨y0,hy0⟩:=Wd.first W0
 rw[hy0]
 go_upto_region 6 with(first|(refine kR 33 115 (.tmp 30) (.tmp 31) b3 o3 nw a.dF j 5 rfl rfl rfl rfl Tryz.underlying33 (by kernel_rfl) Tryz.sizeOf115 hjN ?_)|(refine aI (.tmp 32) (hld _) ?_)|(go_at_call 67;refine(Fp _).mono ?_;rintro e w' ⟨rfl,hq2⟩;obtain⟨z1,rfl⟩:=Wd.next y0 hq2;clear hq2))
 go_upto_region 7 with(go_at_call 68;refine(Ky z1).mono ?_;rintro e V1 ⟨rfl,hR1,aK⟩)
 have ai1:Q w V1:=Q.trans (Q.trans HQ.out z1.q) aK
 have hB1:ah V1 (w.heap.size+1) 72 (shA (0,0)):=(z1.blk Yc.out).q aK
 have hz1:w.heap.size+1<z1.w.heap.size:=(z1.blk Yc.out).lt
 clear aK
 generalize z1.w.heap.size=G at*
 go_upto_region 8 with(first|(go_at_call 69;refine(hN1 _ _ (by with_reducible assumption)).mono ?_;rintro e V2 ⟨rfl,hR2⟩;have hK2:=hR2.blk)|(go_at_call 69;refine(Ny _ _ (by with_reducible assumption)).mono ?_;rintro e V3 ⟨rfl,hR3⟩)|(refine LQ 72 _ #[(0, .int .i64 X),(1, .int .i64 Y)] (.agg (shA (X,Y))) rfl rfl (by simp only[List.map_toArray,List.map_cons,List.map_nil];rfl) (az0 X Y _) ?_)|(refine eY (cs:=[.int .i64 0, .int .i64 0]) (ah.new V3 72 (shA (0,0))) rfl 72 (.tmp 11) (.tmp 46) [.int .i64 X, .int .i64 Y] rfl rfl rfl (by kernel_rfl) (akV (X,Y)) (Nat.le_refl 2) ?_))
 intro W4 lH mX mY
 rw[bC _ _ (by rfl)]at lH
 have hB2:ah V2 (w.heap.size+1) 72 (shA (0,0)):=(hR2.far _ (by omega)).trans hB1
 have hB3:ah V3 (w.heap.size+1) 72 (shA (0,0)):=(hR3.far _ (by omega)).trans hB2
 have hq3:Q w V3:=hR3.below _ _ (by omega) (hR2.below _ _ (by omega) ai1)
 have hrd:ah V3 G 181 #[.string ⟨#[]⟩, .bool false]:=hR3.blk
 have hG3:=hrd.lt
 have hs3:=hq3.size
 have hq4:Q w W4:=mX _ _ (by omega) (Q.trans hq3 (aO _ _ _))
 have asA:ah W4 G 181 #[.string ⟨#[]⟩, .bool false]:=(mY G (by omega)).trans (hrd.q (aO _ _ _))
 have hB4:ah W4 (w.heap.size+1) 72 (shA (0,0)):=(mY _ (by omega)).trans (hB3.q (aO _ _ _))
 have s0:W4.cell? ⟨V3.heap.size,0,none⟩=some (.int .i64 X):=lH.cell 0
 have s1:W4.cell? ⟨V3.heap.size,1,none⟩=some (.int .i64 Y):=lH.cell 1
 have az3:=hDn G W4 asA
 have az4:=hTx W4
 have HB4:=Lib.hid hB4
 have HW4:=Lib.hid lH
 have HQ4:=Lib.hid hq4
 generalize V3.heap.size=g11 at*
 clear hDn hTx hB4 lH hq4 asA hG3 hs3 hrd hq3 hB3 hB2 hB1 ai1 mX mY hR1 hR2 hR3 hK2 Fp Ky hN1 Ny hld c3 c15
 go_upto_region 10 with(first|(go_at_call 70;refine az3.mono ?_;rintro e w' ⟨rfl,rfl⟩)|(go_at_call 65;refine az4.mono ?_;rintro e w5 ⟨rfl,hq5⟩;have t0:w5.cell? ⟨g11,0,none⟩=some (.int .i64 X):=(HW4.out.q hq5).cell 0;have t1:w5.cell? ⟨g11,1,none⟩=some (.int .i64 Y):=(HW4.out.q hq5).cell 1))
 go_wp2_with (refine eY (cs:=[.int .i64 0, .int .i64 0]) (HB4.out.q hq5) rfl 72 (.tmp 6) (.tmp 77) [.int .i64 X, .int .i64 Y] rfl rfl rfl (by kernel_rfl) (akV (X,Y)) (Nat.le_refl 2) ?_)
 intro W6 yh afV alg
 rw[bC _ _ (by rfl)]at yh
 have HF:Hid (Q w W6):=Lib.hid (afV _ _ (Nat.le_succ _) (Q.trans HQ4.out hq5))
 clear afV alg
 go_wp2_with fail
 exact bodyPost_ret (nG rfl _ _ (w.heap.size+1) 72 (shA (X,Y)) (0,0) _ (.bool true) rfl rfl yh Tryz.underlying72 rfl (by kernel_rfl)) rfl ⟨rfl,HF.out⟩
theorem az5(a:ak)(A:Option Addr)(cp:Nat)(l:List (Int×Int))(k:Int×Int)(w:World)(hT:Tab w)(hk:a.kind=19)(hS:oG.RX w A l)(hlc:l.length<=cp)(hcm:cp<=maxLen)(hn:l.length<=1000000)(hj:oG.aeh l a.n=(k.1,true))(hk1:1<=k.1/\k.1<=9223372036854775807)(ho:Sign.keyOf k.1=k)(hr:iP k=true)(hm:a.m=k.2):
 Calls Tryz.prog 27 #[.agg (au a), .slice A l.length cp] w fun e w'=>e= .returned (.tuple #[.agg (bH k), .bool true])/\Q w w':=by
 have hb1:=ah.new w 37 (au a)
 have hq1:=aO w (au a) 37
 have hbr:=ah.new' (g:=w.heap.size+1) (w.alloc (.cells (au a) 37)) 66 (bH (0,0)) (by simp)
 have hq2:=aO (w.alloc (.cells (au a) 37)) (bH (0,0)) 66
 have hb1:=hb1.q hq2
 have hq:=Q.trans hq1 hq2
 clear hq1 hq2
 obtain⟨W0,hW0⟩:∃W0,W0=(w.alloc (.cells (au a) 37)).alloc (.cells (bH (0,0)) 66):=⟨_,rfl⟩
 rw[<-hW0]at hb1 hbr hq
 have c3:∀y:Wd W0,y.w.cell? ⟨w.heap.size,3,none⟩=some (.int .i64 19):=fun y=>by
  rw[<-hk]
  exact(y.blk hb1).cell 3
 have c16:=aB (.int .i64 a.n) hb1 16
 have c17:∀y:Wd W0,y.w.cell? ⟨w.heap.size,17,none⟩=some (.int .i64 k.2):=fun y=>by
  rw[<-hm]
  exact(y.blk hb1).cell 17
 have hJo:=fun y:Wd W0=>oG.alr A cp l a.n y.w (hS.q (Q.trans hq y.q)) hlc hcm hn
 rw[hj]at hJo
 have Ag:=fun y:Wd W0=>acB k.1 y.w
 rw[ho]at Ag
 have gJ:=fun y:Wd W0=>Ji k y.w
 rw[hr]at gJ
 have HX:=Lib.hid hW0
 have HQ:=Lib.hid hq
 have Yc:=Lib.hid hbr
 have hlt0:=hbr.lt
 clear hW0 hb1 hq hbr hT hS hk hj ho hr hm
 generalize l.length=nl at*
 obtain⟨kx,ky⟩:=k
 dsimp only[yK]at Ag gJ c17 hJo
 go_enter Tryz.func27,Tryz.ntmps27
 go_upto_region 1 with(fail)
 refine(show Code.wp _ _ _ _ W0->Code.wp _ _ _ _ _ from fun h=>by rw[HX.out]at h;exact h) ?_
 obtain⟨y0,hy0⟩:=Wd.first W0
 rw[hy0]
 go_upto_region 7 with(first|(go_at_call 71;refine(hJo _).mono ?_;rintro e w' ⟨rfl,hq2⟩;obtain⟨z1,rfl⟩:=Wd.next y0 hq2;clear hq2)|(go_at_call 72;refine(Ag _).mono ?_;rintro e w' ⟨rfl,hq2⟩;obtain⟨z2,rfl⟩:=Wd.next z1 hq2;clear hq2)|(refine eY (cs:=[.int .i64 0, .int .i64 0]) (ah.new z2.w 66 (bH (0,0))) rfl 66 (.tmp 8) (.tmp 24) [.int .i64 kx, .int .i64 ky] rfl rfl rfl (by kernel_rfl) (vP (kx,ky)) (Nat.le_refl 2) ?_))
 intro W4 lH mX mY
 rw[bC _ _ (by rfl)]at lH
 have hq4:Q W0 W4:=mX _ _ z2.q.size (Q.trans z2.q (aO _ _ _))
 have s0:=aB (.int .i64 kx) lH 0
 have s1:=aB (.int .i64 ky) lH 1
 have aAG:∀y:Wd W4,y.w.cell? ⟨w.heap.size,17,none⟩=some (.int .i64 ky):=fun y=>c17 ⟨y.w,Q.trans hq4 y.q⟩
 have az6:∀y:Wd W4,Calls Tryz.prog 58 #[.agg #[.int .i64 kx, .int .i64 ky]] y.w fun e w'=>e= .returned (.bool true)/\Q y.w w':=fun y=>gJ ⟨y.w,Q.trans hq4 y.q⟩
 have HB4:=Lib.hid (Yc.out.q hq4)
 have HQ4:=Lib.hid (Q.trans HQ.out hq4)
 clear mX mY lH hq4 c17 c16 c3 gJ Ag hJo
 generalize z2.w.heap.size=g8 at*
 obtain⟨v,hv⟩:=Wd.first W4
 rw[hv]
 clear hv hy0 z1
 go_wp2_with (first|(go_at_call 58;refine(az6 _).mono ?_;rintro e w' ⟨rfl,hq2⟩;obtain⟨z3,rfl⟩:=Wd.next v hq2;clear hq2)|(refine eY (cs:=[.int .i64 0, .int .i64 0]) (z3.blk HB4.out) rfl 66 (.tmp 4) (.tmp 36) [.int .i64 kx, .int .i64 ky] rfl rfl rfl (by kernel_rfl) (vP (kx,ky)) (Nat.le_refl 2) ?_))
 intro W6 yh afV alg
 rw[bC _ _ (by rfl)]at yh
 have HF:Hid (Q w W6):=Lib.hid (afV _ _ (Nat.le_succ _) (Q.trans HQ4.out z3.q))
 clear afV alg
 go_wp2_with fail
 exact bodyPost_ret (nG rfl _ _ (w.heap.size+1) 66 (bH (kx,ky)) (0,0) _ (.bool true) rfl rfl yh Tryz.underlying66 rfl (by kernel_rfl)) rfl ⟨rfl,HF.out⟩
end Rel
end Go.Proofs.YtbemmjnjoabadaaGreatDoor
