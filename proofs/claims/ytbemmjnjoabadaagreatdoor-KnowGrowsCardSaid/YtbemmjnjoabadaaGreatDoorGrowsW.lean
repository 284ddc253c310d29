/-
  agoralaw24.KnowGrows, walked.
-/
import Derived.Test.YtbemmjnjoabadaaGreatDoorXG
import Derived.Test.YtbemmjnjoabadaaGreatDoorK42
import Derived.Test.YtbemmjnjoabadaaGreatDoorK43
import Derived.Test.YtbemmjnjoabadaaGreatDoorGrowsLaw
set_option linter.unusedVariables false
set_option linter.unusedSimpArgs false
set_option maxHeartbeats 40000000
set_option maxRecDepth 100000
namespace Go.Proofs.YtbemmjnjoabadaaGreatDoor
namespace Rel
open Go.RowKit aQ Mem _root_.Go.Proofs.YtbemmjnjoabadaaGreatDoor.Code aY Sign _root_.Go.Proofs.YtbemmjnjoabadaaGreatDoor.Item _root_.Go.Proofs.YtbemmjnjoabadaaGreatDoor.Known _root_.Go.Proofs.YtbemmjnjoabadaaGreatDoor.bP
theorem agh{w:World}{A:Option Addr}{l:List Int}(h:Ints w A l):dS w A 1 Ap l:=fun h0=>by
 obtain⟨b,o,e,hb,hc⟩:=h h0
 refine⟨b,o,e,hb,fun j hj i v hv=> ?_⟩
 cases i with
 |zero=>
  rw[Nat.mul_one,Nat.add_zero,hc j hj]
  exact hv
 |succ i=>cases hv
theorem akc(c:ay)(n:Nat)(h:aeU [c] n=true):c.acts.length<=14/\n<=5:=by
 unfold aeU Hf at h
 simp only[List.any_cons,List.any_nil,Bool.or_false,Bool.and_eq_true,Bool.not_eq_true',decide_eq_false_iff_not,decide_eq_true_eq]at h
 exact⟨by omega,by omega⟩
theorem akz(w:World):(Instr.buildSlice 49 0 #[]).run Tryz.prog w= .ok (.slice (some ⟨w.heap.size,0,none⟩) 0 0) (w.alloc (.cells #[] 3)):=by kernel_rfl
theorem akA{w:World}{base n c:Nat}{A:Option Addr}{l:List Int}(h:aV w base 3 1 (.slice A n c) n (l.flatMap Ap))(hn:n=l.length):Ints w A l:=
 bP.yQ (aV.rows (f:=Ap) (k:=1) Y6 (base:=base) (e:=3) (c:=c) h hn)
theorem akN(ps:List Int)(c:ay)(k:Nat):(xI ps c k).length<=k:=by
 unfold xI
 rw[List.length_map]
 exact Nat.le_trans (List.length_filter_le _ _) (by rw[List.length_range];exact Nat.le_refl _)
theorem aep{w0:World}(x:Wd w0)(n:Nat):∃y:Wd w0,x.w.drewN n=y.w:=⟨⟨_,Q.drewN x.q n⟩,rfl⟩
structure akV(ps qs:List Int)(c:ay)(n:Nat):Prop where
 app:∀i:Nat,jA (ps++qs) c (i:Int)=(jA ps c (i:Int)||jA qs c (i:Int))
 cut:∀i:Nat,i<n->aaJ c i n=true->jA ps (V9 c n) (i:Int)=jA ps c (i:Int)
 at_:∀i:Nat,i<c.acts.length->jA (ps++qs) c (i:Int)=true->(xI (ps++qs) c c.acts.length)[(xI (ps++qs) c i).length]?=some ⟨c.id,(i:Int)⟩
 step:∀i:Nat,xI (ps++qs) c (i+1)=xI (ps++qs) c i++if jA (ps++qs) c (i:Int)then[⟨c.id,(i:Int)⟩]else[]
 recv:∀i:Nat,ug ps c (i:Int)=true->ug (ps++qs) c (i:Int)=true
theorem alg(ps qs:List Int)(c:ay)(n:Nat)(hn:n<=c.acts.length):akV ps qs c n:=
 ⟨fun i=>ajG ps qs c i,fun i hi hs=>ajR ps c i n hi hn hs,fun i hi hr=>aj3 _ c i _ hi hr,fun i=>awk _ c i,fun i h=>ajH ps qs c i h⟩
theorem alm(c:ay)(A B:Option Addr)(ca cb:Nat)(xs ys:List Int)(n:Int)(w:World)(hT:Tab w)(hI:gX w c)(hX:Ints w A xs)(hY:Ints w B ys)(hx:∀x∈xs,I64 x)(hy:∀x∈ys,I64 x)(hlx:xs.length<=ca)(hly:ys.length<=cb)(hcx:ca<=maxLen)(hcy:cb<=maxLen):
 Calls Tryz.prog 5 #[.agg (aF c), .slice A xs.length ca, .slice B ys.length cb, .int .i64 n] w fun e w'=>e= .returned (.bool true)/\Q w w':=by
 have hmx:maxLen=9223372036854775807:=by decide
 obtain⟨i0,hi,jq,hz1,hz2⟩:=info_parts Vd
 obtain⟨w1,y1,hy1,hq1,hbk⟩:=boxedB w 41 c.cells
 have hy1:w.alloc (.cells (aF c) 41)=y1.w:=hy1
 have cZ:=dX (P:=Tryz.prog) (aF c) hbk Tryz.underlying41
 have c1:=aB (.slice c.aA c.acts.length c.aC) hbk 1
 have c0:=aB (.string c.id) hbk 0
 have hSm:=fun y:Wd w1=>ay3 y.w (hT.q (Q.trans hq1 y.q))
 have hbs:∀w:World,(Instr.buildSlice 24 1 #[(0, .agg (aF c))]).run Tryz.prog w= .ok (.slice (some ⟨w.heap.size,0,none⟩) 1 1) (w.alloc (.cells (aF c) 41)):=fun w=>by kernel_rfl
 have Qh:=fun y:Wd w1=>hI.q (Q.trans hq1 y.q)
 have hXy:=fun y:Wd w1=>hX.q (Q.trans hq1 y.q)
 have hYy:=fun y:Wd w1=>hY.q (Q.trans hq1 y.q)
 have hCI:∀y:Wd w1,JL (y.w.alloc (.cells (aF c) 41)) (some ⟨y.w.heap.size,0,none⟩) [c]:=fun y=>⟨jW (ah.new y.w 41 (aF c)),fun d hd=>by rw[List.mem_singleton.1 hd];exact(Qh y).q (aO _ _ _)⟩
 have hFe:∀y:Wd w1,Calls Tryz.prog 14 #[.slice (some ⟨y.w.heap.size,0,none⟩) 1 1, .slice A xs.length ca] (y.w.alloc (.cells (aF c) 41)) fun e w'=>e= .returned (.bool (aeU [c] xs.length))/\Q (y.w.alloc (.cells (aF c) 41)) w':=fun y=>axI (some ⟨y.w.heap.size,0,none⟩) A 1 ca xs.length [c] _ (hCI y) (show 1<=maxLen by decide) (by omega)
 have HQ:=Lib.hid hq1
 have hal:=hI.aC
 obtain⟨nx,hnx⟩:∃nx,xs.length=nx:=⟨_,rfl⟩
 obtain⟨aaH,hny⟩:∃aaH,ys.length=aaH:=⟨_,rfl⟩
 obtain⟨na,hna⟩:∃na,c.acts.length=na:=⟨_,rfl⟩
 rw[hnx]at hFe⊢
 rw[hny]at⊢
 rw[hna]at c1 hal
 have hg1:=hbk.lt
 clear hbk
 rcases(show aeU [c] nx=false∨(aeU [c] nx=true/\(3:Int)<(nx:Int))∨(aeU [c] nx=true/\¬(3:Int)<(nx:Int)/\(3:Int)<(aaH:Int))∨(aeU [c] nx=true/\¬(3:Int)<(nx:Int)/\¬(3:Int)<(aaH:Int)/\n<0)∨(aeU [c] nx=true/\¬(3:Int)<(nx:Int)/\¬(3:Int)<(aaH:Int)/\¬n<0/\(na:Int)<n)∨(aeU [c] nx=true/\¬(3:Int)<(nx:Int)/\¬(3:Int)<(aaH:Int)/\¬n<0/\¬(na:Int)<n) by
  cases aeU [c] nx
  ·exact .inl rfl
  ·by_cases h1:(3:Int)<(nx:Int)
   ·exact .inr (.inl ⟨rfl,h1⟩)
   by_cases h2:(3:Int)<(aaH:Int)
   ·exact .inr (.inr (.inl ⟨rfl,h1,h2⟩))
   by_cases h3:n<0
   ·exact .inr (.inr (.inr (.inl ⟨rfl,h1,h2,h3⟩)))
   by_cases h4:(na:Int)<n
   ·exact .inr (.inr (.inr (.inr (.inl ⟨rfl,h1,h2,h3,h4⟩))))
   ·exact .inr (.inr (.inr (.inr (.inr ⟨rfl,h1,h2,h3,h4⟩)))))with g1|⟨g1,g2⟩|⟨g1,g2,g3⟩|⟨g1,g2,g3,g4⟩|⟨g1,g2,g3,g4,g5⟩|⟨g1,g2,g3,g4,g5⟩
 rotate_left 5
 ·obtain⟨m,rfl⟩:∃m:Nat,n=(m:Int):=⟨n.toNat,by omega⟩
  have hmn:m<=c.acts.length:=by omega
  have hfw:=akc c nx g1
  rw[g1]at hFe
  have hG:=alg (iZ xs) (iZ ys) c m hmn
  go_enter Tryz.func5,Tryz.ntmps5
  go_upto_region 2 with(go_at_call 7;refine(hSm _).mono ?_;rintro e w' ⟨rfl,hq⟩;obtain⟨v1,rfl⟩:=Wd.next _ hq;clear hq)
  go_upto_region 4 with(first|(refine aI (.tmp 4) (cZ _) ?_)|(refine Uk 24 1 _ #[(0, .agg (aF c))] _ rfl rfl (by simp only[List.map_toArray,List.map_cons,List.map_nil];rfl) (hbs _) ?_)|(go_at_call 14;refine(hFe _).mono ?_;rintro e w' ⟨rfl,hq⟩;obtain⟨v2,rfl⟩:=Wd.next v1 (Q.trans (aO _ _ _) hq);clear hq))
  have hsx:xs.length<=3:=by omega
  have hsy:ys.length<=3:=by omega
  go_upto_region 5 with(first|(refine Uk 49 0 _ #[] _ rfl rfl (by simp only[List.map_toArray,List.map_nil]) (akz _) ?_)|(at_builtin;refine Jw Y6 ard rfl (.tmp 47) (.tmp 48) 49 3 i0 _ 8 rfl Tryz.underlying49 hi jq hz1 hz2 rfl (by decide) (by decide) w1.heap.size (.slice (some ⟨v2.w.heap.size,0,none⟩) 0 0) 0 ([]:List Int) rfl (aV.empty_ v2.w w1.heap.size 1 3 v2.q.size) A nx ca xs rfl (agh ((hXy v2).q (aO _ _ _))) hnx (by omega) (Q.trans v2.q (aO _ _ _)).size ?_))
  intro A5 c5 w5 h5c h5m h5o h5g
  have hq5:Q w1 w5:=fB (Q.trans v2.q (aO _ _ _)) (Nat.le_refl _) (aV.empty_ v2.w w1.heap.size 1 3 v2.q.size) h5g
  clear h5g
  obtain⟨u5,hu5⟩:∃u:Wd w1,w5=u.w:=⟨⟨w5,hq5⟩,rfl⟩
  subst hu5
  go_upto_region 5 with(at_builtin;refine Jw Y6 ard rfl (.tmp 49) (.tmp 50) 49 3 i0 _ 8 rfl Tryz.underlying49 hi jq hz1 hz2 rfl (by decide) (by decide) w1.heap.size (.slice A5 nx c5) nx xs rfl h5o B aaH cb ys rfl (agh (hYy u5)) hny (by omega) u5.q.size ?_)
  intro A6 c6 w6 h6c h6m h6o h6g
  have hq6:Q w1 w6:=fB u5.q (Nat.le_refl _) h5o h6g
  have hzl:(xs++ys).length=nx+aaH:=by rw[List.length_append,hnx,hny]
  have hZ6:Ints w6 A6 (xs++ys):=akA (by rw[List.flatMap_append];exact h6o) hzl.symm
  obtain⟨zs,hzs⟩:∃zs,xs++ys=zs:=⟨_,rfl⟩
  have acF:∀x∈zs,I64 x:=fun x hm=>by
   rw[<-hzs]at hm
   rcases List.mem_append.1 hm with hm|hm
   ·exact hx x hm
   ·exact hy x hm
  have hps:iZ zs=iZ xs++iZ ys:=by rw[<-hzs,ai2]
  rw[hzs]at hZ6 hzl
  obtain⟨nz,hnz⟩:∃nz,nx+aaH=nz:=⟨_,rfl⟩
  rw[hnz]at h6c hzl⊢
  clear h6o h6g h5o h5c h5m hzs
  obtain⟨u6,hu6⟩:∃u:Wd w1,w6=u.w:=⟨⟨w6,hq6⟩,rfl⟩
  subst hu6
  have hmc:(m:Int)<=(c.aC:Int):=by omega
  have hcl:(V9 c m).acts.length=m:=af5 c m hmn
  have hsp:splice c.cells 1 [.slice c.aA m c.aC]=(V9 c m).cells:=by
   have h:(V9 c m).cells=[.string c.id, .slice c.aA (V9 c m).acts.length c.aC, .slice c.kA c.keys.length c.kC, .string c.prev, .int .i64 c.gen, .bool c.fork]:=rfl
   rw[h,hcl]
   rfl
  go_upto_region 6 with(first|(refine aI (.tmp 4) (cZ _) ?_)|(refine fM (ah.new u6.w 41 fE.cells.toArray) rfl 41 (.tmp 11) (.tmp 52) c.cells rfl rfl rfl (by kernel_rfl) (nJ _) (Nat.le_refl 6) ?_))
  intro W hW hbel
  rw[bC _ _ (by rfl)]at hW
  have aJ:Q u6.w W:=hbel _ _ (Nat.le_refl _) (aO _ _ _)
  clear hbel
  obtain⟨g7,Hy⟩:∃g,u6.w.heap.size=g:=⟨_,rfl⟩
  rw[Hy]at hW⊢
  obtain⟨v,hv⟩:∃v:Wd w1,W=v.w:=⟨⟨W,Q.trans u6.q aJ⟩,rfl⟩
  rw[hv]at hW aJ⊢
  clear hv
  have cF:v.w.cell? ⟨g7,1,none⟩=some (.slice c.aA c.acts.length c.aC):=hW.cell 1
  have fF:v.w.frozen? ⟨g7,1,none⟩=false:=hW.frozen 1
  rw[hna]at cF
  go_upto_region 7 with(fail)
  have hX7:=ah.setCells [.slice c.aA m c.aC] 1 _ v.w hW (show 1+1<=6 by decide)
  rw[hsp]at hX7
  have abk:Q u6.w (v.w.setCells g7 1 [.slice c.aA m c.aC]):=below_setCells (Nat.le_of_eq Hy) [.slice c.aA m c.aC] 1 u6.w v.w aJ
  obtain⟨X,bG⟩:∃X,v.w.setCell ⟨g7,1,none⟩ (.slice c.aA m c.aC)=X:=⟨_,rfl⟩
  have hX:ah X g7 41 (V9 c m).cells.toArray:=bG▸hX7
  have abk:Q u6.w X:=bG▸abk
  rw[bG]
  have jv:Q w1 X:=Q.trans u6.q abk
  have hZX:=hZ6.q abk
  clear bG cF fF hW aJ hX7 hsp hZ6
  have hDI:∀y,Q w1 y->gX y (V9 c m):=fun y hy=>⟨aeB ((Qh ⟨y,hy⟩).acts) m,fun a ha=>(Qh ⟨y,hy⟩).each a (List.mem_of_mem_take ha),⟨Nat.le_trans (List.length_take_le _ _) (show m<=c.aC by omega),show c.aC<=maxLen by omega⟩,(Qh ⟨y,hy⟩).keys,(Qh ⟨y,hy⟩).kC⟩
  have hasc:Sl (xJ (iZ zs) [c]):=by rw[agb];exact aeh _ _ _
  have hAl:=fun y:Wd X=>aw1 (some ⟨y.w.heap.size,0,none⟩) A6 1 c6 [c] zs (y.w.alloc (.cells (aF c) 41)) (hCI ⟨y.w,Q.trans jv y.q⟩) (hZX.q (Q.trans y.q (aO _ _ _))) acF (by omega) (show 1<=1000 by decide) (fun d hd=>by rw[List.mem_singleton.1 hd];omega) hasc
  unfold aw0 at hAl
  rw[agb,hzl]at hAl
  have agH:∀y:Wd X,(Instr.loadAt 41 (.pointer (some ⟨w.heap.size,0,none⟩))).run Tryz.prog y.w= .ok (.agg (aF c)) y.w:=fun y=>cZ ⟨y.w,Q.trans jv y.q⟩
  obtain⟨S,hS⟩:∃S,xI (iZ zs) c c.acts.length=S:=⟨_,rfl⟩
  obtain⟨aaX,hnS⟩:∃aaX,S.length=aaX:=⟨_,rfl⟩
  rw[hS,hnS]at hAl
  obtain⟨y0,hy0⟩:=Wd.first X
  rw[hy0]
  clear hy0
  go_upto_region 8 with(first|(refine aI (.tmp 4) (agH _) ?_)|(refine Uk 24 1 _ #[(0, .agg (aF c))] _ rfl rfl (by simp only[List.map_toArray,List.map_cons,List.map_nil];rfl) (hbs _) ?_)|(go_at_call 17;refine(hAl _).mono ?_;rintro e w8 ⟨SA,sc,rfl,hs1,hs2,hs3,hq8⟩))
  have aa8:Q X w8:=Q.trans y0.q (Q.trans (aO _ _ _) hq8)
  have hR8:=hs3.rows
  have q18:Q w1 w8:=Q.trans jv aa8
  have aaL:∀y:Wd w8,(Instr.loadAt 41 (.pointer (some ⟨w.heap.size,0,none⟩))).run Tryz.prog y.w= .ok (.agg (aF c)) y.w:=fun y=>cZ ⟨y.w,Q.trans q18 y.q⟩
  have agJ:∀y:Wd w8,(Instr.loadAt 41 (.pointer (some ⟨g7,0,none⟩))).run Tryz.prog y.w= .ok (.agg (aF (V9 c m))) y.w:=Wd.load (hX.q aa8).lt (ah.range (hX.q aa8)) Tryz.underlying41 rfl (by kernel_rfl)
  have c18:∀y:Wd w8,y.w.cell? ⟨w.heap.size,1,none⟩=some (.slice c.aA na c.aC):=fun y=>c1 ⟨y.w,Q.trans q18 y.q⟩
  have c08:∀y:Wd w8,y.w.cell? ⟨w.heap.size,0,none⟩=some (.string c.id):=fun y=>c0 ⟨y.w,Q.trans q18 y.q⟩
  have uQ:=fun(y:Wd w8) (j:Nat)=>aei c A ca xs (j:Int) y.w (Qh ⟨y.w,Q.trans q18 y.q⟩) (hXy ⟨y.w,Q.trans q18 y.q⟩) hx (by omega)
  have hRb:=fun(y:Wd w8) (j:Nat)=>aei c B cb ys (j:Int) y.w (Qh ⟨y.w,Q.trans q18 y.q⟩) (hYy ⟨y.w,Q.trans q18 y.q⟩) hy (by omega)
  have hRz:=fun(y:Wd w8) (j:Nat)=>aei c A6 c6 zs (j:Int) y.w (Qh ⟨y.w,Q.trans q18 y.q⟩) (hZX.q (Q.trans aa8 y.q)) acF (by omega)
  have iw:=fun(y:Wd w8) (j:Nat)=>aei (V9 c m) A ca xs (j:Int) y.w (hDI y.w (Q.trans q18 y.q)) (hXy ⟨y.w,Q.trans q18 y.q⟩) hx (by omega)
  have hVa:=fun(y:Wd w8) (j:Nat)=>ajU c A ca xs (j:Int) y.w (Qh ⟨y.w,Q.trans q18 y.q⟩) (hXy ⟨y.w,Q.trans q18 y.q⟩) hx (by omega)
  have hVz:=fun(y:Wd w8) (j:Nat)=>ajU c A6 c6 zs (j:Int) y.w (Qh ⟨y.w,Q.trans q18 y.q⟩) (hZX.q (Q.trans aa8 y.q)) acF (by omega)
  have hSa:=fun(y:Wd w8) (j:Nat) (hj:j<=100000)=>aiS c j m y.w (Qh ⟨y.w,Q.trans q18 y.q⟩) hj hmn
  rw[hps]at hRz hVz hS
  obtain⟨gA,gC,gS,gT,gR⟩:=hG
  rw[hS]at gS
  rw[hnx]at uQ iw hVa
  rw[hny]at hRb
  rw[hzl]at hRz hVz
  have apA:na<=14:=by omega
  have hSp:∀j,j<=c.acts.length->(xI (iZ xs++iZ ys) c j).length<=S.length:=fun j hj=>by
   rw[<-hS]
   exact(af7 _ c j _ hj).length_le
  have hSf:(xI (iZ xs++iZ ys) c na).length=aaX:=by rw[<-hna,hS,hnS]
  have HQ8:=Lib.hid (Q.trans HQ.out q18)
  clear hT hI hX hY hx hy hlx hly hcx hcy hy1 cZ hSm hbs Qh hXy hYy hCI hFe HQ hal c1 c0 hfw hsx hsy hzl hq5 hq6 h6c h6m acF hps hmc hcl jv hZX hDI hasc hAl agH hs1 hs2 hs3 hq8 abk q18 aa8 hS Hy
  clear hX
  obtain⟨x0,hx0⟩:=Wd.first w8
  rw[hx0]
  clear hx0
  go_wp2_with fail
  go_loopw [13,14] (fun a i wr=>∃(j:Nat) (z:Wd w8),a= .int .i64 ((xI (iZ xs++iZ ys) c j).length:Nat)/\i= .int .i64 j/\wr=z.w/\j<=na) (fun _ i _=>na-(intOf i).toNat)
  case atStart=>exact⟨0,x0,rfl,rfl,rfl,Nat.zero_le _⟩
  case round=>
   obtain⟨j,z,rfl,rfl,rfl,hj⟩:=hrel
   by_cases hlt:j<na
   ·have dM:j<c.acts.length:=by omega
    have pX:(j:Int)<(na:Int):=by omega
    have ea:=gA j
    have ec:=gC j
    have et:=gS j dM
    have es:=gT j
    have er:=gR j
    have ehs:=hSp (j+1) (by omega)
    have Qy:=fun y:Wd w8=>uQ y j
    have agM:=fun y:Wd w8=>hRb y j
    have abn:=fun y:Wd w8=>hRz y j
    have ag1:=fun y:Wd w8=>iw y j
    have ag7:=fun y:Wd w8=>hVa y j
    have ahM:=fun y:Wd w8=>hVz y j
    have ahO:=fun y:Wd w8=>hSa y j (by omega)
    rw[ea]at abn et es
    clear uQ hRb hRz iw hVa hVz hSa gA gC gS gT gR hSp ea
    generalize jA (iZ xs) c (j:Int)=bx at*
    generalize jA (iZ ys) c (j:Int)=bl at*
    generalize jA (iZ xs) (V9 c m) (j:Int)=bd at*
    generalize ug (iZ xs) c (j:Int)=ra at*
    generalize ug (iZ xs++iZ ys) c (j:Int)=rz at*
    generalize aaJ c j m=sm at*
    generalize hk1:xI (iZ xs++iZ ys) c (j+1)=L1 at*
    have hb0:=akN (iZ xs++iZ ys) c j
    generalize xI (iZ xs++iZ ys) c j=L0 at*
    have HK1:=Lib.hid hk1
    clear hk1
    have hrz:ra=true->rz=true:=er
    clear er
    have hgd:(¬(j:Int)<(m:Int))∨((j:Int)<(m:Int)/\bd=bx)∨((j:Int)<(m:Int)/\bd= !bx/\sm=false):=by
     by_cases h1:j<m
     ·by_cases h2:bd=bx
      ·exact .inr (.inl ⟨by omega,h2⟩)
      ·refine .inr (.inr ⟨by omega,by cases bd<;>cases bx<;>simp_all,?_⟩)
       cases hs:sm
       ·rfl
       ·exact absurd (ec h1 hs) h2
     ·exact .inl (by omega)
    clear ec
    have hra:ra=false∨(ra=true/\rz=true):=by
     cases h:ra
     ·exact .inl rfl
     ·exact .inr ⟨rfl,hrz h⟩
    clear hrz
    have hz3:(bx=true)∨(bx=false/\bl=true)∨(bx=false/\bl=false):=by cases bx<;>cases bl<;>simp
    have hpos:(0:Int)<=(L0.length:Int):=by omega
    rcases hz3 with rfl|⟨rfl,rfl⟩|⟨rfl,rfl⟩
    rotate_left 2
    ·simp only[Bool.or_false]at abn et es
     rw[if_neg (by simp),List.append_nil]at es
     simp only[Bool.not_false]at hgd
     clear et hR8
     go_upto_region 13 with(first|(refine aI (.tmp 4) (aaL _) ?_)|(go_at_call 13;refine(Qy _).mono ?_;rintro e w' ⟨rfl,hq⟩;obtain⟨a1,rfl⟩:=Wd.next _ hq;clear hq))
     go_upto_region 14 with(first|(refine aI (.tmp 4) (aaL _) ?_)|(go_at_call 13;refine(agM _).mono ?_;rintro e w' ⟨rfl,hq⟩;obtain⟨a2,rfl⟩:=Wd.next _ hq;clear hq))
     go_upto_region 15 with(first|(refine aI (.tmp 4) (aaL _) ?_)|(go_at_call 13;refine(abn _).mono ?_;rintro e w' ⟨rfl,hq⟩;obtain⟨a3,rfl⟩:=Wd.next _ hq;clear hq))
     rcases hgd with h1|⟨h1,rfl⟩|⟨h1,rfl,rfl⟩
     all_goals
      rcases hra with rfl|⟨rfl,rfl⟩
      all_goals
       go_wp2_with (first|(refine aI (.tmp 4) (aaL _) ?_)|(refine aI (.tmp 11) (agJ _) ?_)|(go_at_call 13;refine(ag1 _).mono ?_;rintro e w' ⟨rfl,hq⟩;obtain⟨a4,rfl⟩:=Wd.next _ hq;clear hq)|(go_at_call 18;refine(ahO _).mono ?_;rintro e w' ⟨rfl,hq⟩;obtain⟨a5,rfl⟩:=Wd.next _ hq;clear hq)|(go_at_call 19;(first|with_reducible refine(ag7 _).mono ?_|with_reducible refine(ahM _).mono ?_);rintro e w' ⟨rfl,hq⟩;obtain⟨a9,rfl⟩:=Wd.next _ hq;clear hq))
       exact⟨⟨j+1,_,by rw[HK1.out,es],by go_num,rfl,by omega⟩,by simp only[intOf];omega⟩
    all_goals
     have et2:=et rfl
     replace es:L1=L0++[⟨c.id,(j:Int)⟩]:=by simpa using es
     simp only[Bool.true_or,Bool.false_or]at abn
     simp only[Bool.not_true,Bool.not_false]at hgd
     have WQ:L0.length<S.length:=(List.getElem?_eq_some_iff.1 et2).1
     have e0:S[L0.length]=⟨c.id,(j:Int)⟩:=(List.getElem?_eq_some_iff.1 et2).2
     obtain⟨sb,so,rfl,hsb,hsc⟩:=hR8 (by omega)
     have s1:=Wd.get hsb (hsc L0.length WQ) 1 (v:= .int .i64 (j:Int)) (by rw[e0];rfl)
     have s0:=Wd.get hsb (hsc L0.length WQ) 0 (v:= .string c.id) (by rw[e0];rfl)
     simp only[Nat.add_zero]at s0
     have hkn:¬(aaX:Int)<=(L0.length:Int):=by omega
     have Vf:(L0.length:Int)<(aaX:Int):=by omega
     have hlen:((L1.length:Nat):Int)=(L0.length:Int)+1:=by rw[es];simp
     clear hsc e0 WQ et2 et hSf es
     generalize L0.length=k at*
     have hkd:decide (aaX<=k)=false:=by rw[decide_eq_false_iff_not];omega
     have apR:¬aaX<=k:=by omega
     have hkl:k<aaX:=by omega
     go_upto_region 13 with(first|(refine aI (.tmp 4) (aaL _) ?_)|(go_at_call 13;refine(Qy _).mono ?_;rintro e w' ⟨rfl,hq⟩;obtain⟨a1,rfl⟩:=Wd.next _ hq;clear hq))
     go_upto_region 14 with(first|(refine aI (.tmp 4) (aaL _) ?_)|(go_at_call 13;refine(agM _).mono ?_;rintro e w' ⟨rfl,hq⟩;obtain⟨a2,rfl⟩:=Wd.next _ hq;clear hq))
     go_upto_region 15 with(first|(refine aI (.tmp 4) (aaL _) ?_)|(go_at_call 13;refine(abn _).mono ?_;rintro e w' ⟨rfl,hq⟩;obtain⟨a3,rfl⟩:=Wd.next _ hq;clear hq))
     rcases hgd with h1|⟨h1,rfl⟩|⟨h1,rfl,rfl⟩
     all_goals
      go_upto_region 18 with(first|(refine aI (.tmp 4) (aaL _) ?_)|(refine aI (.tmp 11) (agJ _) ?_)|(go_at_call 13;refine(ag1 _).mono ?_;rintro e w' ⟨rfl,hq⟩;obtain⟨a4,rfl⟩:=Wd.next _ hq;clear hq)|(go_at_call 18;refine(ahO _).mono ?_;rintro e w' ⟨rfl,hq⟩;obtain⟨a5,rfl⟩:=Wd.next _ hq;clear hq))
      go_quiet (fail)
      first|(obtain⟨y9,hy9⟩:=aep a5 nq;rw[hy9];clear hy9)|(obtain⟨y9,hy9⟩:=aep a4 nq;rw[hy9];clear hy9)|(obtain⟨y9,hy9⟩:=aep a3 nq;rw[hy9];clear hy9)
      rcases hra with rfl|⟨rfl,rfl⟩
      all_goals
       go_wp2_with (first|(refine aI (.tmp 4) (aaL _) ?_)|(go_at_call 19;(first|with_reducible refine(ag7 _).mono ?_|with_reducible refine(ahM _).mono ?_);rintro e w' ⟨rfl,hq⟩;obtain⟨a9,rfl⟩:=Wd.next _ hq;clear hq))
       exact⟨⟨j+1,_,by rw[HK1.out,hlen],by go_num,rfl,by omega⟩,by simp only[intOf];omega⟩
   ·obtain rfl:j=na:=by omega
    have uO:¬(j:Int)<(j:Int):=by omega
    rw[hSf]
    go_wp2_with fail
    go_ret
    exact⟨rfl,Q.trans HQ8.out z.q⟩
 all_goals
  rw[g1]at hFe
  clear hXy hYy Qh hX hY hI hCI
  go_enter Tryz.func5,Tryz.ntmps5
  go_upto_region 2 with(go_at_call 7;refine(hSm _).mono ?_;rintro e w' ⟨rfl,hq⟩;obtain⟨v1,rfl⟩:=Wd.next _ hq;clear hq)
  go_wp2_with (first|(refine aI (.tmp 4) (cZ _) ?_)|(refine Uk 24 1 _ #[(0, .agg (aF c))] _ rfl rfl (by simp only[List.map_toArray,List.map_cons,List.map_nil];rfl) (hbs _) ?_)|(go_at_call 14;refine(hFe _).mono ?_;rintro e w' ⟨rfl,hq⟩;obtain⟨v2,rfl⟩:=Wd.next v1 (Q.trans (aO _ _ _) hq);clear hq))
  go_ret
  exact⟨rfl,Q.trans HQ.out v2.q⟩
end Rel
end Go.Proofs.YtbemmjnjoabadaaGreatDoor
