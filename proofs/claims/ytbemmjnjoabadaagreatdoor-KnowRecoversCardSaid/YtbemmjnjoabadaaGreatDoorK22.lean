/- part 22 -/
import Derived.Test.YtbemmjnjoabadaaGreatDoorK20
set_option linter.unusedVariables false
set_option linter.unusedSimpArgs false
set_option maxHeartbeats 16000000
set_option maxRecDepth 100000
namespace Go.Proofs.YtbemmjnjoabadaaGreatDoor
namespace bP
open Go.RowKit aQ Mem _root_.Go.Proofs.YtbemmjnjoabadaaGreatDoor.Code aY Sign _root_.Go.Proofs.YtbemmjnjoabadaaGreatDoor.Item _root_.Go.Proofs.YtbemmjnjoabadaaGreatDoor.Known
def dN(c:ay)(a:ak)(A:Option Addr)(n:Nat):ay:={c with acts:=c.acts++[a],aA:=A,aC:=n,prev:=bY a}
def FN(c:ay)(a:ak)(w:World)(e:Ending)(w':World):Prop:=∃A n,e= .returned (.agg (aF (dN c a A n)))/\gX w' (dN c a A n)/\dI w.heap.size w' A 20 ak.cells (c.acts++[a])/\Q w w'
theorem nJ(c:ay):c.cells.toArray.all (·.oneCell')=true:=by simp[ay.cells,Value.oneCell']
theorem Hu(c:ay)(a:ak)(A:Option Addr)(n m:Nat)(h:(c.acts++[a]).length=m):splice c.cells 1 [.slice A m n]=({c with acts:=c.acts++[a],aA:=A,aC:=n}:ay).cells:=by
 subst h
 rfl
theorem aqx(c:ay)(a:ak)(A:Option Addr)(n:Nat):splice ({c with acts:=c.acts++[a],aA:=A,aC:=n}:ay).cells 3 [.string (bY a)]=(dN c a A n).cells:=rfl
theorem JQ(c:ay)(a:ak)(w:World)(hT:Tab w)(hI:gX w c)(hA:bU w a)(hs:jU a)(hn:c.acts.length<=100000):Calls Tryz.prog 25 #[.agg (aF c), .agg (au a)] w (FN c a w):=by
 have hb1:=ah.new w 41 (aF c)
 have hq1:=aO w (aF c) 41
 have hb2:=ah.new' (g:=w.heap.size+1) (w.alloc (.cells (aF c) 41)) 37 (au a) (by simp)
 have hq2:=aO (w.alloc (.cells (aF c) 41)) (au a) 37
 have hb3:=ah.new' (g:=w.heap.size+1+1) ((w.alloc (.cells (aF c) 41)).alloc (.cells (au a) 37)) 41 (aF fE) (by simp)
 have hq3:=aO ((w.alloc (.cells (aF c) 41)).alloc (.cells (au a) 37)) (aF fE) 41
 have hb1:=(hb1.q hq2).q hq3
 have hb2:=hb2.q hq3
 have hq:=Q.trans (Q.trans hq1 hq2) hq3
 clear hq1 hq2 hq3
 obtain⟨w3,hw3⟩:∃w3,w3=(((w.alloc (.cells (aF c) 41)).alloc (.cells (au a) 37)).alloc (.cells (aF fE) 41)):=⟨_,rfl⟩
 rw[<-hw3]at hb1 hb2 hb3 hq
 have hws:w3.heap.size=w.heap.size+1+1+1:=by rw[hw3];simp
 have HX:=Lib.hid hw3
 obtain⟨i0,hi,hz0,hz1,hz2⟩:=info_parts apr
 have HQ:=Lib.hid hq
 have hSS:∀z,Q w3 z->Q w z/\ah z (w.heap.size+1) 37 (au a):=fun z hz=>⟨Q.trans hq hz,hb2.q hz⟩
 have FP:∀z,(Q w z/\ah z (w.heap.size+1) 37 (au a))->(Instr.loadAt 37 (.pointer (some ⟨w.heap.size+1,0,none⟩))).run Tryz.prog z= .ok (.agg (au a)) z:=fun z hz=>Wd.load (cs:=a.cells) hz.2.lt (ah.range hz.2) Tryz.underlying37 rfl (by kernel_rfl) ⟨z,Q.refl z⟩
 have hLC:∀z,Q w3 z->(Instr.loadAt 38 (.pointer (some ⟨w.heap.size,1,none⟩))).run Tryz.prog z= .ok (.slice c.aA c.acts.length c.aC) z:=fun z hz=>aey z _ _ _ _ Tryz.underlying38 rfl ((hb1.q hz).cell 1)
 have jQ:∀z,Q w3 z->dS z c.aA 20 ak.cells c.acts:=fun z hz=>hI.acts.q (Q.trans hq hz)
 have PW:Q w3 w3.drew:=(Q.refl _).drew
 have wB:(c.acts++[a]).length=c.acts.length+1:=by simp
 have wC:∀(A:Option Addr) (n:Nat) (W:World),ah W w.heap.size 41 ({c with acts:=c.acts++[a],aA:=A,aC:=n}:ay).cells.toArray->Q w W->ah W (w.heap.size+1) 37 (au a)->ah W (w.heap.size+1+1) 41 (aF fE)->dI w3.heap.size W A 20 ak.cells (c.acts++[a])->(c.acts++[a]).length<=n->n<=maxLen->
  (∀y:Wd W,(Instr.loadAt 37 (.pointer (some ⟨w.heap.size+1,0,none⟩))).run Tryz.prog y.w= .ok (.agg (au a)) y.w)/\(∀y:Wd W,Calls Tryz.prog 35 #[.agg (au a)] y.w fun e w'=>e= .returned (.string (bY a))/\Q y.w w')/\(∀y:Wd W,y.w.cell? ⟨w.heap.size,3,none⟩=some (.string c.prev))/\(∀y:Wd W,y.w.frozen? ⟨w.heap.size,3,none⟩=false)/\
  ∀y:Wd W,∃W2,y.w.setCell ⟨w.heap.size,3,none⟩ (.string (bY a))=W2/\(Instr.loadAt 41 (.pointer (some ⟨w.heap.size,0,none⟩))).run Tryz.prog W2= .ok (.agg (aF (dN c a A n))) W2/\ah W2 (w.heap.size+1+1) 41 fE.cells.toArray/\∀W4,(∀B w0,B<=w.heap.size+1+1->Below B w0 W2->Below B w0 W4)->(∀b,b≠w.heap.size+1+1->W4.heap[b]?=W2.heap[b]?)->FN c a w (.returned (.agg (aF (dN c a A n)))) W4:=by
  intro A n W hW aJ mg uZ mW hle hmx
  refine⟨Wd.load (cs:=a.cells) mg.lt (ah.range mg) Tryz.underlying37 rfl (by kernel_rfl),fun y=>Yp a y.w (hT.q (Q.trans aJ y.q)) (hA.q (Q.trans aJ y.q)) hs,fun y=>(y.blk hW).cell 3,fun y=>(y.blk hW).frozen 3,fun y=> ?_⟩
  have hW2:=ah.setCells [.string (bY a)] 3 _ y.w (y.blk hW) (show 4<=6 by decide)
  rw[aqx]at hW2
  have ji:=fun b (hne:b≠w.heap.size)=>tY (g:=w.heap.size) hne [.string (bY a)] 3 y.w
  have hq2:Q w (y.w.setCells w.heap.size 3 [.string (bY a)]):=below_setCells (Nat.le_refl _) _ 3 w y.w (Q.trans aJ y.q)
  refine⟨y.w.setCells w.heap.size 3 [.string (bY a)],rfl,?_,?_,?_⟩
  ·exact Wd.load (cs:=(dN c a A n).cells) hW2.lt (ah.range hW2) Tryz.underlying41 rfl (by kernel_rfl) ⟨_,Q.refl _⟩
  ·exact(ji _ (by omega)).trans (y.blk uZ)
  ·intro W4 mX mY
   have hq4:Q w W4:=mX _ _ (by omega) hq2
   have hR4:dI w3.heap.size W4 A 20 ak.cells (c.acts++[a]):=(((mW.q y.q).far (fun b hb=>ji b (by omega))).far (fun b hb=>mY b (by omega)))
   refine⟨A,n,rfl,⟨hR4.rows,fun x hx=> ?_,⟨hle,hmx⟩,hI.keys.q hq4,hI.kC⟩,hR4.low (by omega),hq4⟩
   rcases List.mem_append.1 hx with hx|hx
   ·exact(hI.each x hx).q hq4
   ·rw[List.mem_singleton]at hx
    rw[hx]
    exact hA.q hq4
 clear hw3 hq
 go_enter Tryz.func25,Tryz.ntmps25
 go_upto_region 1 with(fail)
 refine(show Code.wp _ _ _ _ w3->Code.wp _ _ _ _ _ from fun h=>by rw[HX.out]at h;exact h) ?_
 go_upto_region 1 with(fail)
 refine uT (fun z=>Q w z/\ah z (w.heap.size+1) 37 (au a)) (by kernel_rfl) ?_
 refine aS 1 (.pointer (some ⟨w.heap.size,1,none⟩)) (hSS _ PW) ?_ (hv:=fun w=>by go_simp)
 try simp only[aax]
 refine V7 4 (.agg (au a)) rfl (hSS _ PW) (fun z hz=>oV (FP z hz)) ?_
 try simp only[aax]
 obtain⟨z0,hz0'⟩:∃z0,w3.drew=z0:=⟨_,rfl⟩
 rw[hz0']at PW⊢
 have Hw:=PW
 clear hz0' PW
 refine Yu 0 2 5 rfl rfl rfl (by kernel_rfl) rfl rfl rfl (fun K' hK'=> ?_) (fun K' hK'=> ?_) (fun K' hK'=> ?_)
 focus
  refine dY (fQ 38 0 #[] #[] _ rfl (by simp) (PE z0)) ?_
  have hq1:Q w3 (z0.alloc (.cells #[] 37)):=Q.trans Hw (aO _ _ _)
  have D5:=aV.empty_ z0 w3.heap.size 20 37 (Hw).size
  refine hK' _ _ (hSS _ hq1) ?_
  clear hK' K'
  try simp only[aax]
  have YV:(z0.alloc (.cells #[] 37)).heap.size=z0.heap.size+1:=by simp
  obtain⟨z1,hz1⟩:∃z1,z0.alloc (.cells #[] 37)=z1:=⟨_,rfl⟩
  rw[hz1]at hq1 D5 YV⊢
  clear hz1
  refine kL 2 5 (fun K' hK'=> ?_) fun K' hK'=> ?_
  focus
   refine dY (JK 38 (.tmp 6) _ _ rfl rfl (hLC z1 hq1)) ?_
   refine hK' _ _ (hSS _ hq1) ?_
   clear hK' K'
   try simp only[aax]
   refine kL 3 5 (fun K' hK'=> ?_) fun K' hK'=> ?_
   focus
    refine jB nI vX (.tmp 5) (.tmp 7) 38 37 i0 _ 264 rfl Tryz.underlying38 hi hz0 hz1 hz2 rfl (by decide) (by decide) w3.heap.size (.slice (some ⟨z0.heap.size,0,none⟩) 0 0) 0 [] rfl D5 c.aA c.acts.length c.aC c.acts rfl (jQ z1 hq1) rfl (by omega) (hq1).size ?_
    intro A3 n3 z3 c13 c23 PX hg3
    have hq3:Q w3 z3:=fB hq1 (Nat.le_refl _) D5 hg3
    refine hK' _ _ (hSS _ hq3) ?_
    clear hK' K'
    try simp only[aax]
    clear hg3
    refine aW 5 fun K' hK'=> ?_
    refine dY (fQ 38 1 _ #[(0, .agg (au a))] _ rfl (by simp only[List.map_toArray,List.map_cons,List.map_nil];rfl) (vW a z3)) ?_
    have hq4:Q w3 (z3.alloc (.cells (au a) 37)):=Q.trans hq3 (aO _ _ _)
    have UW:=ah.new z3 37 (au a)
    have sz4:(z3.alloc (.cells (au a) 37)).heap.size=z3.heap.size+1:=by simp
    refine hK' _ _ (hSS _ hq4) ?_
    clear hK' K'
    try simp only[aax]
    have MS:=PX.alloc (.cells (au a) 37)
    obtain⟨z4,lG⟩:∃z4,z3.alloc (.cells (au a) 37)=z4:=⟨_,rfl⟩
    rw[lG]at hq4 UW sz4 MS⊢
    clear lG
    obtain⟨Al,hAl⟩:∃x,A3=x:=⟨_,rfl⟩
    obtain⟨nl,hnl⟩:∃x,n3=x:=⟨_,rfl⟩
    obtain⟨gl,hgl⟩:∃x,z3.heap.size=x:=⟨_,rfl⟩
    obtain⟨aaH,hzl⟩:∃x,z4=x:=⟨_,rfl⟩
    have owl:=MS
    have bl:=UW
    have aaF:=hq4
   rotate_left
   focus
    refine dY (fQ 38 1 _ #[(0, .agg (au a))] _ rfl (by simp only[List.map_toArray,List.map_cons,List.map_nil];rfl) (vW a z1)) ?_
    have hq5:Q w3 (z1.alloc (.cells (au a) 37)):=Q.trans hq1 (aO _ _ _)
    have bk5:=ah.new z1 37 (au a)
    have sz5:(z1.alloc (.cells (au a) 37)).heap.size=z1.heap.size+1:=by simp
    refine hK' _ _ (hSS _ hq5) ?_
    clear hK' K'
    try simp only[aax]
    have YW:=D5.alloc (.cells (au a) 37)
    obtain⟨z5,sU⟩:∃z5,z1.alloc (.cells (au a) 37)=z5:=⟨_,rfl⟩
    rw[sU]at hq5 bk5 sz5 YW⊢
    clear sU
    refine aW 3 fun K' hK'=> ?_
    refine jB nI vX (.tmp 5) (.tmp 7) 38 37 i0 _ 264 rfl Tryz.underlying38 hi hz0 hz1 hz2 rfl (by decide) (by decide) w3.heap.size (.slice (some ⟨z0.heap.size,0,none⟩) 0 0) 0 [] rfl YW c.aA c.acts.length c.aC c.acts rfl (jQ z5 hq5) rfl (by omega) (hq5).size ?_
    intro A6 n6 z6 c16 c26 JR MJ
    have hq6:Q w3 z6:=fB hq5 (Nat.le_refl _) YW MJ
    refine hK' _ _ (hSS _ hq6) ?_
    clear hK' K'
    try simp only[aax]
    have PY:=bk5.grown (h:=z0.heap.size) MJ rfl (by omega)
    clear MJ
    obtain⟨Al,hAl⟩:∃x,A6=x:=⟨_,rfl⟩
    obtain⟨nl,hnl⟩:∃x,n6=x:=⟨_,rfl⟩
    obtain⟨gl,hgl⟩:∃x,z1.heap.size=x:=⟨_,rfl⟩
    obtain⟨aaH,hzl⟩:∃x,z6=x:=⟨_,rfl⟩
    have owl:=JR
    have bl:=PY
    have aaF:=hq6
   rotate_left
  rotate_left 2
  focus
   refine dY (fQ 38 1 _ #[(0, .agg (au a))] _ rfl (by simp only[List.map_toArray,List.map_cons,List.map_nil];rfl) (vW a z1)) ?_
   have hq7:Q w3 (z1.alloc (.cells (au a) 37)):=Q.trans hq1 (aO _ _ _)
   have MV:=ah.new z1 37 (au a)
   have sz7:(z1.alloc (.cells (au a) 37)).heap.size=z1.heap.size+1:=by simp
   refine hK' _ _ (hSS _ hq7) ?_
   clear hK' K'
   try simp only[aax]
   have PZ:=D5.alloc (.cells (au a) 37)
   obtain⟨z7,tu⟩:∃z7,z1.alloc (.cells (au a) 37)=z7:=⟨_,rfl⟩
   rw[tu]at hq7 MV sz7 PZ⊢
   clear tu
   refine aW 2 fun K' hK'=> ?_
   refine dY (JK 38 (.tmp 6) _ _ rfl rfl (hLC z7 hq7)) ?_
   refine hK' _ _ (hSS _ hq7) ?_
   clear hK' K'
   try simp only[aax]
   refine aW 3 fun K' hK'=> ?_
   refine jB nI vX (.tmp 5) (.tmp 7) 38 37 i0 _ 264 rfl Tryz.underlying38 hi hz0 hz1 hz2 rfl (by decide) (by decide) w3.heap.size (.slice (some ⟨z0.heap.size,0,none⟩) 0 0) 0 [] rfl PZ c.aA c.acts.length c.aC c.acts rfl (jQ z7 hq7) rfl (by omega) (hq7).size ?_
   intro A9 n9 z9 c19 c29 jJ bW
   have bD:Q w3 z9:=fB hq7 (Nat.le_refl _) PZ bW
   refine hK' _ _ (hSS _ bD) ?_
   clear hK' K'
   try simp only[aax]
   have MW:=MV.grown (h:=z0.heap.size) bW rfl (by omega)
   clear bW
   obtain⟨Al,hAl⟩:∃x,A9=x:=⟨_,rfl⟩
   obtain⟨nl,hnl⟩:∃x,n9=x:=⟨_,rfl⟩
   obtain⟨gl,hgl⟩:∃x,z1.heap.size=x:=⟨_,rfl⟩
   obtain⟨aaH,hzl⟩:∃x,z9=x:=⟨_,rfl⟩
   have owl:=jJ
   have bl:=MW
   have aaF:=bD
  rotate_left
 rotate_left 3
 focus
  refine dY (JK 38 (.tmp 6) _ _ rfl rfl (hLC z0 Hw)) ?_
  refine hK' _ _ (hSS _ Hw) ?_
  clear hK' K'
  try simp only[aax]
  refine kL 0 5 (fun K' hK'=> ?_) fun K' hK'=> ?_
  focus
   refine dY (fQ 38 0 #[] #[] _ rfl (by simp) (PE z0)) ?_
   have hq11:Q w3 (z0.alloc (.cells #[] 37)):=Q.trans Hw (aO _ _ _)
   have MX:=aV.empty_ z0 w3.heap.size 20 37 (Hw).size
   refine hK' _ _ (hSS _ hq11) ?_
   clear hK' K'
   try simp only[aax]
   have ar4:(z0.alloc (.cells #[] 37)).heap.size=z0.heap.size+1:=by simp
   obtain⟨z11,zy⟩:∃z11,z0.alloc (.cells #[] 37)=z11:=⟨_,rfl⟩
   rw[zy]at hq11 MX ar4⊢
   clear zy
   refine kL 3 5 (fun K' hK'=> ?_) fun K' hK'=> ?_
   focus
    refine jB nI vX (.tmp 5) (.tmp 7) 38 37 i0 _ 264 rfl Tryz.underlying38 hi hz0 hz1 hz2 rfl (by decide) (by decide) w3.heap.size (.slice (some ⟨z0.heap.size,0,none⟩) 0 0) 0 [] rfl MX c.aA c.acts.length c.aC c.acts rfl (jQ z11 hq11) rfl (by omega) (hq11).size ?_
    intro zi n12 z12 aqB c212 U0 JU
    have hq12:Q w3 z12:=fB hq11 (Nat.le_refl _) MX JU
    refine hK' _ _ (hSS _ hq12) ?_
    clear hK' K'
    try simp only[aax]
    clear JU
    refine aW 5 fun K' hK'=> ?_
    refine dY (fQ 38 1 _ #[(0, .agg (au a))] _ rfl (by simp only[List.map_toArray,List.map_cons,List.map_nil];rfl) (vW a z12)) ?_
    have wH:Q w3 (z12.alloc (.cells (au a) 37)):=Q.trans hq12 (aO _ _ _)
    have asD:=ah.new z12 37 (au a)
    have ar2:(z12.alloc (.cells (au a) 37)).heap.size=z12.heap.size+1:=by simp
    refine hK' _ _ (hSS _ wH) ?_
    clear hK' K'
    try simp only[aax]
    have agd:=U0.alloc (.cells (au a) 37)
    obtain⟨z13,EJ⟩:∃z13,z12.alloc (.cells (au a) 37)=z13:=⟨_,rfl⟩
    rw[EJ]at wH asD ar2 agd⊢
    clear EJ
    obtain⟨Al,hAl⟩:∃x,zi=x:=⟨_,rfl⟩
    obtain⟨nl,hnl⟩:∃x,n12=x:=⟨_,rfl⟩
    obtain⟨gl,hgl⟩:∃x,z12.heap.size=x:=⟨_,rfl⟩
    obtain⟨aaH,hzl⟩:∃x,z13=x:=⟨_,rfl⟩
    have owl:=agd
    have bl:=asD
    have aaF:=wH
   rotate_left
   focus
    refine dY (fQ 38 1 _ #[(0, .agg (au a))] _ rfl (by simp only[List.map_toArray,List.map_cons,List.map_nil];rfl) (vW a z11)) ?_
    have jX:Q w3 (z11.alloc (.cells (au a) 37)):=Q.trans hq11 (aO _ _ _)
    have agR:=ah.new z11 37 (au a)
    have afq:(z11.alloc (.cells (au a) 37)).heap.size=z11.heap.size+1:=by simp
    refine hK' _ _ (hSS _ jX) ?_
    clear hK' K'
    try simp only[aax]
    have Na:=MX.alloc (.cells (au a) 37)
    obtain⟨xq,D6⟩:∃xq,z11.alloc (.cells (au a) 37)=xq:=⟨_,rfl⟩
    rw[D6]at jX agR afq Na⊢
    clear D6
    refine aW 3 fun K' hK'=> ?_
    refine jB nI vX (.tmp 5) (.tmp 7) 38 37 i0 _ 264 rfl Tryz.underlying38 hi hz0 hz1 hz2 rfl (by decide) (by decide) w3.heap.size (.slice (some ⟨z0.heap.size,0,none⟩) 0 0) 0 [] rfl Na c.aA c.acts.length c.aC c.acts rfl (jQ xq jX) rfl (by omega) (jX).size ?_
    intro sO n15 qg axU axV Nb YZ
    have pz:Q w3 qg:=fB jX (Nat.le_refl _) Na YZ
    refine hK' _ _ (hSS _ pz) ?_
    clear hK' K'
    try simp only[aax]
    have ar6:=agR.grown (h:=z0.heap.size) YZ rfl (by omega)
    clear YZ
    obtain⟨Al,hAl⟩:∃x,sO=x:=⟨_,rfl⟩
    obtain⟨nl,hnl⟩:∃x,n15=x:=⟨_,rfl⟩
    obtain⟨gl,hgl⟩:∃x,z11.heap.size=x:=⟨_,rfl⟩
    obtain⟨aaH,hzl⟩:∃x,qg=x:=⟨_,rfl⟩
    have owl:=Nb
    have bl:=ar6
    have aaF:=pz
   rotate_left
  rotate_left 2
  focus
   refine dY (fQ 38 1 _ #[(0, .agg (au a))] _ rfl (by simp only[List.map_toArray,List.map_cons,List.map_nil];rfl) (vW a z0)) ?_
   have JV:Q w3 (z0.alloc (.cells (au a) 37)):=Q.trans Hw (aO _ _ _)
   have afr:=ah.new z0 37 (au a)
   have aqC:(z0.alloc (.cells (au a) 37)).heap.size=z0.heap.size+1:=by simp
   refine hK' _ _ (hSS _ JV) ?_
   clear hK' K'
   try simp only[aax]
   obtain⟨Aj,JW⟩:∃Aj,z0.alloc (.cells (au a) 37)=Aj:=⟨_,rfl⟩
   rw[JW]at JV afr aqC⊢
   clear JW
   refine aW 0 fun K' hK'=> ?_
   refine dY (fQ 38 0 #[] #[] _ rfl (by simp) (PE Aj)) ?_
   have pF:Q w3 (Aj.alloc (.cells #[] 37)):=Q.trans JV (aO _ _ _)
   have P6:=aV.empty_ Aj w3.heap.size 20 37 (JV).size
   refine hK' _ _ (hSS _ pF) ?_
   clear hK' K'
   try simp only[aax]
   have agk:(Aj.alloc (.cells #[] 37)).heap.size=Aj.heap.size+1:=by simp
   have agj:=afr.alloc (.cells #[] 37)
   obtain⟨z17,KC⟩:∃z17,Aj.alloc (.cells #[] 37)=z17:=⟨_,rfl⟩
   rw[KC]at pF P6 agk agj⊢
   clear KC
   refine aW 3 fun K' hK'=> ?_
   refine jB nI vX (.tmp 5) (.tmp 7) 38 37 i0 _ 264 rfl Tryz.underlying38 hi hz0 hz1 hz2 rfl (by decide) (by decide) w3.heap.size (.slice (some ⟨Aj.heap.size,0,none⟩) 0 0) 0 [] rfl P6 c.aA c.acts.length c.aC c.acts rfl (jQ z17 pF) rfl (by omega) (pF).size ?_
   intro A18 n18 JX ayb c218 Nc agl
   have yc:Q w3 JX:=fB pF (Nat.le_refl _) P6 agl
   refine hK' _ _ (hSS _ yc) ?_
   clear hK' K'
   try simp only[aax]
   have P7:=agj.grown (h:=Aj.heap.size) agl rfl (by omega)
   clear agl
   obtain⟨Al,hAl⟩:∃x,A18=x:=⟨_,rfl⟩
   obtain⟨nl,hnl⟩:∃x,n18=x:=⟨_,rfl⟩
   obtain⟨gl,hgl⟩:∃x,z0.heap.size=x:=⟨_,rfl⟩
   obtain⟨aaH,hzl⟩:∃x,JX=x:=⟨_,rfl⟩
   have owl:=Nc
   have bl:=P7
   have aaF:=yc
  rotate_left
 rotate_left 3
 focus
  refine dY (fQ 38 1 _ #[(0, .agg (au a))] _ rfl (by simp only[List.map_toArray,List.map_cons,List.map_nil];rfl) (vW a z0)) ?_
  have JZ:Q w3 (z0.alloc (.cells (au a) 37)):=Q.trans Hw (aO _ _ _)
  have aqF:=ah.new z0 37 (au a)
  have asa:(z0.alloc (.cells (au a) 37)).heap.size=z0.heap.size+1:=by simp
  refine hK' _ _ (hSS _ JZ) ?_
  clear hK' K'
  try simp only[aax]
  obtain⟨Nh,SG⟩:∃Nh,z0.alloc (.cells (au a) 37)=Nh:=⟨_,rfl⟩
  rw[SG]at JZ aqF asa⊢
  clear SG
  refine kL 0 2 (fun K' hK'=> ?_) fun K' hK'=> ?_
  focus
   refine dY (fQ 38 0 #[] #[] _ rfl (by simp) (PE Nh)) ?_
   have uo:Q w3 (Nh.alloc (.cells #[] 37)):=Q.trans JZ (aO _ _ _)
   have P8:=aV.empty_ Nh w3.heap.size 20 37 (JZ).size
   refine hK' _ _ (hSS _ uo) ?_
   clear hK' K'
   try simp only[aax]
   have agm:(Nh.alloc (.cells #[] 37)).heap.size=Nh.heap.size+1:=by simp
   have QD:=aqF.alloc (.cells #[] 37)
   obtain⟨z20,agn⟩:∃z20,Nh.alloc (.cells #[] 37)=z20:=⟨_,rfl⟩
   rw[agn]at uo P8 agm QD⊢
   clear agn
   refine aW 2 fun K' hK'=> ?_
   refine dY (JK 38 (.tmp 6) _ _ rfl rfl (hLC z20 uo)) ?_
   refine hK' _ _ (hSS _ uo) ?_
   clear hK' K'
   try simp only[aax]
   refine aW 3 fun K' hK'=> ?_
   refine jB nI vX (.tmp 5) (.tmp 7) 38 37 i0 _ 264 rfl Tryz.underlying38 hi hz0 hz1 hz2 rfl (by decide) (by decide) w3.heap.size (.slice (some ⟨Nh.heap.size,0,none⟩) 0 0) 0 [] rfl P8 c.aA c.acts.length c.aC c.acts rfl (jQ z20 uo) rfl (by omega) (uo).size ?_
   intro A22 n22 z22 aye c222 Nk Vs
   have D7:Q w3 z22:=fB uo (Nat.le_refl _) P8 Vs
   refine hK' _ _ (hSS _ D7) ?_
   clear hK' K'
   try simp only[aax]
   have afw:=QD.grown (h:=Nh.heap.size) Vs rfl (by omega)
   clear Vs
   obtain⟨Al,hAl⟩:∃x,A22=x:=⟨_,rfl⟩
   obtain⟨nl,hnl⟩:∃x,n22=x:=⟨_,rfl⟩
   obtain⟨gl,hgl⟩:∃x,z0.heap.size=x:=⟨_,rfl⟩
   obtain⟨aaH,hzl⟩:∃x,z22=x:=⟨_,rfl⟩
   have owl:=Nk
   have bl:=afw
   have aaF:=D7
  rotate_left
  focus
   refine dY (JK 38 (.tmp 6) _ _ rfl rfl (hLC Nh JZ)) ?_
   refine hK' _ _ (hSS _ JZ) ?_
   clear hK' K'
   try simp only[aax]
   refine aW 0 fun K' hK'=> ?_
   refine dY (fQ 38 0 #[] #[] _ rfl (by simp) (PE Nh)) ?_
   have lq:Q w3 (Nh.alloc (.cells #[] 37)):=Q.trans JZ (aO _ _ _)
   have aqL:=aV.empty_ Nh w3.heap.size 20 37 (JZ).size
   refine hK' _ _ (hSS _ lq) ?_
   clear hK' K'
   try simp only[aax]
   have asg:(Nh.alloc (.cells #[] 37)).heap.size=Nh.heap.size+1:=by simp
   have agq:=aqF.alloc (.cells #[] 37)
   obtain⟨z24,agr⟩:∃z24,Nh.alloc (.cells #[] 37)=z24:=⟨_,rfl⟩
   rw[agr]at lq aqL asg agq⊢
   clear agr
   refine aW 3 fun K' hK'=> ?_
   refine jB nI vX (.tmp 5) (.tmp 7) 38 37 i0 _ 264 rfl Tryz.underlying38 hi hz0 hz1 hz2 rfl (by decide) (by decide) w3.heap.size (.slice (some ⟨Nh.heap.size,0,none⟩) 0 0) 0 [] rfl aqL c.aA c.acts.length c.aC c.acts rfl (jQ z24 lq) rfl (by omega) (lq).size ?_
   intro A25 n25 z25 ayH ayJ Zp aaN
   have yg:Q w3 z25:=fB lq (Nat.le_refl _) aqL aaN
   refine hK' _ _ (hSS _ yg) ?_
   clear hK' K'
   try simp only[aax]
   have FQ:=agq.grown (h:=Nh.heap.size) aaN rfl (by omega)
   clear aaN
   obtain⟨Al,hAl⟩:∃x,A25=x:=⟨_,rfl⟩
   obtain⟨nl,hnl⟩:∃x,n25=x:=⟨_,rfl⟩
   obtain⟨gl,hgl⟩:∃x,z0.heap.size=x:=⟨_,rfl⟩
   obtain⟨aaH,hzl⟩:∃x,z25=x:=⟨_,rfl⟩
   have owl:=Zp
   have bl:=FQ
   have aaF:=yg
  rotate_left
 rotate_left 2
 all_goals
  rw[hAl,hnl,hzl]at owl
  rw[hgl,hzl]at bl
  rw[hzl]at aaF
  rw[hAl,hnl,hgl,hzl]
  clear hAl hnl hgl hzl
  refine aW 6 fun K' hK'=> ?_
  refine jB nI vX (.tmp 8) (.tmp 10) 38 37 i0 _ 264 rfl Tryz.underlying38 hi hz0 hz1 hz2 rfl (by decide) (by decide) w3.heap.size (.slice Al (0+c.acts.length) nl) (0+c.acts.length) ([]++c.acts) rfl owl (some ⟨gl,0,none⟩) 1 1 [a] rfl (jW bl) rfl (by omega) (aaF).size ?_
  intro aaC ne ze c1e c2e owe hge
  have hqe:Q w3 ze:=fB aaF (Nat.le_refl _) owl hge
  refine hK' _ _ (hSS _ hqe) ?_
  clear hK' K'
  try simp only[aax]
  refine aS 7 (.pointer (some ⟨w.heap.size,1,none⟩)) (hSS _ hqe) ?_ (hv:=fun w=>by go_simp)
  try simp only[aax]
  have cg:ze.cell? ⟨w.heap.size,1,none⟩=some (.slice c.aA c.acts.length c.aC):=(hb1.q hqe).cell 1
  have fg:=(hb1.q hqe).frozen 1
  have hW:=ah.setCells [.slice aaC (c.acts.length+1) ne] 1 _ ze (hb1.q hqe) (show 2<=6 by decide)
  rw[Hu c a aaC ne _ wB]at hW
  have bJ:=fun b (hne:b≠w.heap.size)=>tY (g:=w.heap.size) hne [.slice aaC (c.acts.length+1) ne] 1 ze
  have hbel:=fun(B:Nat) (w0:World) (hB:B<=w.heap.size) (hw:Below B w0 ze)=>below_setCells hB [.slice aaC (c.acts.length+1) ne] 1 w0 ze hw
  refine aW 8 fun K' hK'=> ?_
  go_simp
  obtain⟨W,fO⟩:∃W,ze.setCell ⟨w.heap.size,1,none⟩ (.slice aaC (c.acts.length+1) ne)=W:=⟨_,rfl⟩
  have kT:ze.setCells w.heap.size 1 [.slice aaC (c.acts.length+1) ne]=W:=fO
  rw[kT]at hW bJ hbel
  rw[fO]
  have aJ:Q w W:=hbel _ _ (Nat.le_refl _) (Q.trans HQ.out hqe)
  have mg:ah W (w.heap.size+1) 37 (au a):=(bJ _ (by omega)).trans (hb2.q hqe)
  have uZ:ah W (w.heap.size+1+1) 41 (aF fE):=(bJ _ (by omega)).trans (hb3.q hqe)
  have mW:dI w3.heap.size W aaC 20 ak.cells (c.acts++[a]):=(xU nI (show aV ze w3.heap.size 37 20 (.slice aaC (c.acts.length+1) ne) (c.acts.length+1) ((c.acts++[a]).flatMap ak.cells) by have h:=owe;simp only[Nat.zero_add,List.nil_append]at h;exact h) wB.symm).far (fun b hb=>bJ b (by omega))
  refine hK' _ _ ⟨aJ,mg⟩ ?_
  clear hK' K'
  refine wpAnyH_done (by kernel_rfl) ?_ _
  have HE:=wC aaC ne W hW aJ mg uZ mW (by omega) c2e
  clear bJ hbel fO kT hW mW cg fg
  obtain⟨v,hv⟩:=Wd.first W
  rw[hv]
  clear hv
  obtain⟨hLa,nH,c3,f3,HF⟩:=HE
  clear hSS FP hLC jQ wC
  go_upto_region 3 with(first|(refine aI (.tmp 3) (hLa _) ?_)|(go_at_call 35;refine(nH _).mono ?_;rintro e w' ⟨rfl,hq2⟩;obtain⟨y,rfl⟩:=Wd.next _ hq2;clear hq2))
  obtain⟨W2,xk,hL2,hr2,HF2⟩:=HF y
  rw[xk]
  go_wp2_with (first|(refine aI (.tmp 2) hL2 ?_)|(refine eY (cs:=fE.cells) hr2 rfl 41 (.tmp 4) (.tmp 16) (dN c a aaC ne).cells rfl rfl rfl (by kernel_rfl) (nJ _) (Nat.le_refl 6) ?_))
  intro W4 lH mX mY
  rw[bC _ _ (by rfl)]at lH
  have HG:=Lib.hid (HF2 W4 mX mY)
  clear HF2 mX mY
  go_wp2_with fail
  exact bodyPost_ret (results_cell_row rfl _ _ (w.heap.size+1+1) 41 (aF (dN c a aaC ne)) (0,0) _ rfl lH Tryz.underlying41 rfl (by kernel_rfl)) rfl HG.out
section
variable {α:Type} {gs:List Nat} {g B k:Nat} {w w':World} {A:Option Addr} {f:α->List Value} {l:List α}
def gY(gs:List Nat)(w:World)(A:Option Addr)(k:Nat)(f:α->List Value)(l:List α):Prop:=0<l.length->∃b o,A=some ⟨b,o,none⟩/\b∉gs/\b<w.heap.size/\∀j (h:j<l.length),w.rangeAt b (o+j*k) (f l[j])
theorem gY.rows(h:gY gs w A k f l):dS w A k f l:=fun h0=>by
 obtain⟨b,o,e,_,h2,h3⟩:=h h0
 exact⟨b,o,e,h2,h3⟩
theorem gY.far(h:gY gs w A k f l)(hf:∀b,b∉gs->w'.heap[b]?=w.heap[b]?):gY gs w' A k f l:=fun h0=>by
 obtain⟨b,o,e,h1,h2,h3⟩:=h h0
 have e1:=hf b h1
 refine⟨b,o,e,h1,?_,fun j hj i v hv=>(World.cell?_of_block (w:=w) e1).trans (h3 j hj i v hv)⟩
 rcases Nat.lt_or_ge b w'.heap.size with h7|h7
 ·exact h7
 ·rw[Array.getElem?_eq_none h7,Array.getElem?_eq_getElem h2]at e1
  cases e1
theorem gY.q(h:gY gs w A k f l)(hq:Q w w'):gY gs w' A k f l:=fun h0=>by
 obtain⟨b,o,e,h1,h2,h3⟩:=h h0
 exact⟨b,o,e,h1,Nat.lt_of_lt_of_le h2 hq.size,fun j hj=>yP (h3 j hj) hq h2⟩
theorem gY.sub{hs:List Nat}(h:gY gs w A k f l)(hh:∀g∈hs,g∈gs∨w.heap.size<=g):gY hs w A k f l:=fun h0=>by
 obtain⟨b,o,e,h1,h2,h3⟩:=h h0
 refine⟨b,o,e,fun hm=> ?_,h2,h3⟩
 rcases hh b hm with h4|h4
 ·exact h1 h4
 ·omega
theorem gY.wE(h:dI B w A k f l)(hg:∀g∈gs,g<B):gY gs w A k f l:=fun h0=>by
 obtain⟨b,o,e,h1,h2,h3⟩:=h h0
 exact⟨b,o,e,fun hm=>by have:=hg b hm;omega,h2,h3⟩
end
theorem Ia{α:Type}{gs:List Nat}{k:Nat}{w w':World}{A D:Option Addr}{n c:Nat}{f:α->List Value}{l:List α}(h:gY (w.heap.size::gs) w A k f l)(hg:w.grownBy w' (Value.slice D n c).ownBlock)(hD:∀a,D=some a->a.block∈gs):gY (w.heap.size::gs) w' A k f l:=fun h0=>by
 obtain⟨b,o,e,h1,h2,h3⟩:=h h0
 have hb:w'.heap[b]?=w.heap[b]?:=hg.block b h2 fun e2=>by
  cases D with
  |none=>cases e2
  |some a=>
   have:b=a.block:=by injection e2
   exact h1 (List.mem_cons_of_mem _ (this▸hD a rfl))
 exact⟨b,o,e,h1,Nat.lt_of_lt_of_le h2 hg.size,fun j hj i v hv=>(World.cell?_of_block (w:=w) hb).trans (h3 j hj i v hv)⟩
structure iy(gs:List Nat)(w:World)(a:ak):Prop where
 to:gY gs w a.toA 1 dP a.to
 wraps:gY gs w a.gy 5 bQ.cells a.wraps
 toC:a.to.length<=a.toC/\a.toC<=maxLen
 dF:a.wraps.length<=a.dF/\a.dF<=maxLen
theorem iy.in{gs:List Nat}{w:World}{a:ak}(h:iy gs w a):bU w a:=⟨gB h.to.rows,lY h.wraps.rows,h.toC,h.dF⟩
theorem iy.q{gs:List Nat}{w w':World}{a:ak}(h:iy gs w a)(hq:Q w w'):iy gs w' a:=⟨h.to.q hq,h.wraps.q hq,h.toC,h.dF⟩
theorem iy.far{gs:List Nat}{w w':World}{a:ak}(h:iy gs w a)(hf:∀b,b∉gs->w'.heap[b]?=w.heap[b]?):iy gs w' a:=⟨h.to.far hf,h.wraps.far hf,h.toC,h.dF⟩
theorem iy.sub{gs hs:List Nat}{w:World}{a:ak}(h:iy gs w a)(hh:∀g∈hs,g∈gs∨w.heap.size<=g):iy hs w a:=⟨h.to.sub hh,h.wraps.sub hh,h.toC,h.dF⟩
theorem iy.wE{gs:List Nat}{B:Nat}{w:World}{a:ak}(h:bU w a)(h1:dI B w a.toA 1 dP a.to)(h2:dI B w a.gy 5 bQ.cells a.wraps)(hg:∀g∈gs,g<B):iy gs w a:=⟨.wE h1 hg, .wE h2 hg,h.toC,h.dF⟩
structure dw(gs:List Nat)(w:World)(c:ay):Prop where
 acts:gY gs w c.aA 20 ak.cells c.acts
 each:∀a∈c.acts,iy gs w a
 aC:c.acts.length<=c.aC/\c.aC<=maxLen
 keys:gY gs w c.kA 3 iJ.cells c.keys
 kC:c.keys.length<=c.kC/\c.kC<=maxLen
theorem dw.in{gs:List Nat}{w:World}{c:ay}(h:dw gs w c):gX w c:=⟨h.acts.rows,fun a ha=>(h.each a ha).in,h.aC,h.keys.rows,h.kC⟩
theorem dw.q{gs:List Nat}{w w':World}{c:ay}(h:dw gs w c)(hq:Q w w'):dw gs w' c:=⟨h.acts.q hq,fun a ha=>(h.each a ha).q hq,h.aC,h.keys.q hq,h.kC⟩
theorem dw.far{gs:List Nat}{w w':World}{c:ay}(h:dw gs w c)(hf:∀b,b∉gs->w'.heap[b]?=w.heap[b]?):dw gs w' c:=⟨h.acts.far hf,fun a ha=>(h.each a ha).far hf,h.aC,h.keys.far hf,h.kC⟩
theorem dw.sub{gs hs:List Nat}{w:World}{c:ay}(h:dw gs w c)(hh:∀g∈hs,g∈gs∨w.heap.size<=g):dw hs w c:=⟨h.acts.sub hh,fun a ha=>(h.each a ha).sub hh,h.aC,h.keys.sub hh,h.kC⟩
theorem dw.long{gs:List Nat}{w w':World}{c:ay}{a:ak}{A:Option Addr}{n:Nat}(h:dw gs w c)(ha:iy gs w a)(hq:Q w w')(hi:gX w' (dN c a A n))(hr:dI w.heap.size w' A 20 ak.cells (c.acts++[a]))(hg:∀g∈gs,g<w.heap.size):dw gs w' (dN c a A n):=
 ⟨.wE hr hg,fun x hx=>by
   rcases List.mem_append.1 hx with hx|hx
   ·exact(h.each x hx).q hq
   ·rw[List.mem_singleton]at hx
    rw[hx]
    exact ha.q hq,hi.aC,h.keys.q hq,h.kC⟩
theorem J6{a b:ak}(h:aP a=aP b):a.to=b.to:=by
 have h2:=congrArg ak.to h
 exact h2
theorem aqU{a b:ak}(h:aP a=aP b):a.wraps=b.wraps:=by
 have h2:=congrArg ak.wraps h
 exact h2
theorem Ak{a b:ak}(h:aP a=aP b):a.n=b.n:=by
 have h2:=congrArg ak.n h
 exact h2
theorem Ns{a b:ak}(h:aP a=aP b)(hs:jU b):jU a:=⟨by rw[J6 h];exact hs.1,by rw[aqU h];exact hs.2⟩
def aN(c:ay):ay:={c with acts:=c.acts.map aP,aA:=none,aC:=0,kA:=none,kC:=0}
def dK(c:ay)(a:ak):ay:={aN c with acts:=c.acts.map aP++[aP a],prev:=bY a}
theorem Ci(c:ay):aN (aN c)=aN c:=by
 unfold aN
 simp only[List.map_map]
 congr 1
theorem Nu(c:ay)(a:ak)(A:Option Addr)(n:Nat):aN (dN c a A n)=dK c a:=by
 unfold aN dN dK aN
 simp
theorem Nv(c:ay)(a b:ak)(h:aP a=aP b):dK c a=dK c b:=by
 unfold dK
 rw[h,show bY a=bY b from Pj h]
theorem Nw(c d:ay)(a:ak)(h:aN c=aN d):dK c a=dK d a:=by
 unfold dK
 have h1:c.acts.map aP=d.acts.map aP:=congrArg ay.acts h
 rw[h,h1]
end bP
namespace Mem
open Go.RowKit aQ
theorem aqv{P:Program}(w:World)(base:Nat)(t ty e:TypeId)(i:TypeInfo)(z:Value)(size bytes:Nat)(ht:P.underlying t=some (.slice e))(hi:P.info? e=some i)(hz:i.zero=some z)
 (hsize:i.size=size) (hby:i.bytes=bytes) (hzs:z.cells.size=size) (hsz:0<size)
 (v:Value) (n:Nat) (xs:List Value) (hown:aV w base e size v n xs)
 (a:Addr) (m c:Nat) (news:List Value) (hl:news.length=m*size) (hnews:∀j u,news[j]?=some u->w.cell? (a.add j)=some u) (h1:∀u∈news,u.oneCell'=true)
 (h63:n+m<=maxLen) (hbytes:(n+m)*bytes<=140737488355328) (hbase:base<=w.heap.size) (v':Value) (w':World) (hr:(Builtin.append_ #[t,t] ty #[v, .slice (some a) m c]).run P w= .ok v' w'):
 v'.ownBlock=v.ownBlock∨v'.ownBlock=some w.heap.size:=by
 rcases hown.2 with⟨rfl,rfl⟩|⟨g,cap,cur,fz,rfl,hbg,hg,hfz,hnc,hcm,hcs,htake⟩
 ·obtain⟨v2,w2,hrun,_,_,_,h5⟩:=run_append_own_at (P:=P) w base t ty e i z size bytes ht hi hz hsize hby hzs hsz (.slice none 0 0) 0 xs ⟨hown.1, .inl ⟨rfl,rfl⟩⟩ a m c news hl hnews h1 h63 hbytes hbase
  rw[hrun]at hr
  cases hr
  exact h5
 ·subst hsize
  subst hby
  have hsmall:n+m<=9223372036854775807:=by simp only[maxLen]at h63;omega
  by_cases hroom:n+m<=cap
  ·have hfit:n*i.size+news.length<=cur.size:=by rw[hl,hcs,<-Nat.add_mul];exact Nat.mul_le_mul_right _ hroom
   have hf:=run_firstCells_some (P:=P) w i.size m a m c news hl hnews
   have hst:=SQ P g (n*i.size) e fz news 0 cur w hg hfz (by simpa using hfit) h1
   simp only[Nat.add_zero]at hst
   have hr2:(Builtin.append_ #[t,t] ty #[.slice (some ⟨g,0,none⟩) n cap, .slice (some a) m c]).run P w=
    .ok (.slice (some ⟨g,0,none⟩) (n+m) cap) (w.setRow g (cur.toList.take (n*i.size)++news++cur.toList.drop (n*i.size+news.length)).toArray):=by
    simp[Builtin.append_,run_underlying ht,sizeOf,typeInfo,hi,Builtin.lenOf,hroom,hf,Addr.add_lit,hst]
   rw[hr2]at hr
   cases hr
   exact .inl rfl
  ·have holds:∀j u,xs[j]?=some u->w.cell? ((⟨g,0,none⟩:Addr).add j)=some u:=hown.cells (g:=g) rfl
   have hr2:=run_append_grow (P:=P) w t ty e i z ht hi hz ⟨g,0,none⟩ n cap xs hown.1 holds a m c news hl hnews (by omega) (by omega) (growslice_fits (by omega) hbytes)
   rw[hr2]at hr
   cases hr
   exact .inr rfl
def Apart(v u:Value):Prop:=∀g,v.ownBlock=some g->u.ownBlock≠some g
theorem Apart.right{v u u':Value}{B:Nat}(h:Apart v u)(hu:u'.ownBlock=u.ownBlock∨u'.ownBlock=some B)(hv:∀g,v.ownBlock=some g->g<B):Apart v u':=by
 intro g hg YU
 rcases hu with e|e
 ·exact h g hg (e▸YU)
 ·rw[e]at YU
  cases YU
  exact absurd (hv _ hg) (by omega)
end Mem
namespace bP
open Go.RowKit aQ Mem _root_.Go.Proofs.YtbemmjnjoabadaaGreatDoor.Code aY Sign _root_.Go.Proofs.YtbemmjnjoabadaaGreatDoor.Item _root_.Go.Proofs.YtbemmjnjoabadaaGreatDoor.Known
theorem aqw{α:Type}{f:α->List Value}{k:Nat}{P:Program}(hk:∀x,(f x).length=k)(h1:∀x,∀v∈f x,v.oneCell'=true){w:World}{o:Oper}{a:Act}(s x:Operand)(t e:TypeId)(i:TypeInfo)(z:Value)(bytes:Nat)
 (ho:o.op= .call {callee:= .builtin .append,args:= #[s,x],argTypes:= #[t,t]}) (ht:P.underlying t=some (.slice e)) (hi:P.info? e=some i) (hz:i.zero=some z) (hz1:i.size=k) (hz2:i.bytes=bytes) (hz3:z.cells.size=k) (hk0:0<k) (hby:bytes<=10000)
 (base:Nat) (v:Value) (n:Nat) (L:List α) (hs:a.eval s=v) (hown:aV w base e k v n (L.flatMap f)) (b off m c:Nat) (M:List α) (hx:a.eval x= .slice (some ⟨b,off,none⟩) m c) (hS:dS w (some ⟨b,off,none⟩) k f M) (hm:M.length=m) (hm0:0<m) (hsz:n+m<=1000000) (hbase:base<=w.heap.size):
 ∃A' cap w',(execOp a.eval o).run P w= .ok (.value (.slice A' (n+m) cap)) w'/\n+m<=cap/\cap<=maxLen/\aV w' base e k (.slice A' (n+m) cap) (n+m) ((L++M).flatMap f)/\w.grownBy w' v.ownBlock/\((Value.slice A' (n+m) cap).ownBlock=v.ownBlock∨(Value.slice A' (n+m) cap).ownBlock=some w.heap.size):=by
 obtain⟨b2,o2,e2,hb,hc⟩:=hS (by omega)
 injection e2 with e2
 injection e2 with e2 e3
 subst e2 e3
 have hmul:(n+m)*bytes<=140737488355328:=Nat.le_trans (Nat.mul_le_mul hsz hby) (by decide)
 obtain⟨v',w',hr,h2,h3⟩:=XU (P:=P) hk h1 w t o.type e i z bytes ht hi hz hz1 hz2 hz3 hk0 hby base v n L hown (some ⟨b,off,none⟩) m c M hS hm hsz hbase
 have hw:=aqv (P:=P) w base t o.type e i z k bytes ht hi hz hz1 hz2 hz3 hk0 v n (L.flatMap f) hown ⟨b,off,none⟩ m c (M.flatMap f) (by rw[Ul hk,hm]) (dS.news hk hc) (fun u hu=>by obtain⟨x,_,hx⟩:=List.mem_flatMap.1 hu;exact h1 x u hx) (by simp only[maxLen];omega) hmul hbase v' w' hr
 obtain⟨A',cap,rfl,hc1,hc2⟩:=h2.shape
 refine⟨A',cap,w',?_,hc1,hc2,h2,h3,hw⟩
 unfold execOp
 simp only[ho,resolve,invoke,builtin,Sem.run_bind,Sem.run_pure,Result.andThen_ok,List.map_toArray,List.map_cons,List.map_nil,hs,hx,hr]
theorem zf{α:Type}{f:α->List Value}{k:Nat}{P:Program}(hk:∀x,(f x).length=k)(h1:∀x,∀v∈f x,v.oneCell'=true){w:World}{o:Oper}{a:Act}{K:Act->World->Prop}{Q:Exit->Act->World->Prop}(s x:Operand)(t e:TypeId)(i:TypeInfo)(z:Value)(bytes:Nat)
 (ho:o.op= .call {callee:= .builtin .append,args:= #[s,x],argTypes:= #[t,t]}) (ht:P.underlying t=some (.slice e)) (hi:P.info? e=some i) (hz:i.zero=some z) (hz1:i.size=k) (hz2:i.bytes=bytes) (hz3:z.cells.size=k) (hk0:0<k) (hby:bytes<=10000)
 (base:Nat) (v:Value) (n:Nat) (L:List α) (hs:a.eval s=v) (hown:aV w base e k v n (L.flatMap f)) (b off m c:Nat) (M:List α) (hx:a.eval x= .slice (some ⟨b,off,none⟩) m c) (hS:dS w (some ⟨b,off,none⟩) k f M) (hm:M.length=m) (hm0:0<m) (hsz:n+m<=1000000) (hbase:base<=w.heap.size)
 (h:∀A' cap w',n+m<=cap->cap<=maxLen->aV w' base e k (.slice A' (n+m) cap) (n+m) ((L++M).flatMap f)->w.grownBy w' v.ownBlock->((Value.slice A' (n+m) cap).ownBlock=v.ownBlock∨(Value.slice A' (n+m) cap).ownBlock=some w.heap.size)->K (a.put o.dst (.slice A' (n+m) cap)) w'):o.wp P a w K Q:=by
 obtain⟨A',cap,w',hr,c1,c2,c3,c4,c5⟩:=aqw (P:=P) hk h1 s x t e i z bytes ho ht hi hz hz1 hz2 hz3 hk0 hby base v n L hs hown b off m c M hx hS hm hm0 hsz hbase
 unfold Oper.wp
 rw[hr]
 exact h A' cap w' c1 c2 c3 c4 c5
theorem afn{α:Type}{f:α->List Value}{k:Nat}{P:Program}(hk:∀x,(f x).length=k)(h1:∀x,∀v∈f x,v.oneCell'=true){w:World}{ops:Array Oper}{rest:List Oper}{o:Oper}{a:Act}{Q:Exit->Act->World->Prop}(hw:Region.wanted o (yielded ops a.tmps)=true)(s x:Operand)(t e:TypeId)(i:TypeInfo)(z:Value)(bytes:Nat)
 (ho:o.op= .call {callee:= .builtin .append,args:= #[s,x],argTypes:= #[t,t]}) (ht:P.underlying t=some (.slice e)) (hi:P.info? e=some i) (hz:i.zero=some z) (hz1:i.size=k) (hz2:i.bytes=bytes) (hz3:z.cells.size=k) (hk0:0<k) (hby:bytes<=10000)
 (base:Nat) (v:Value) (n:Nat) (L:List α) (hs:a.eval s=v) (hown:aV w base e k v n (L.flatMap f)) (b off m c:Nat) (M:List α) (hx:a.eval x= .slice (some ⟨b,off,none⟩) m c) (hS:dS w (some ⟨b,off,none⟩) k f M) (hm:M.length=m) (hm0:0<m) (hsz:n+m<=1000000) (hbase:base<=w.heap.size)
 (h:∀A' cap w',n+m<=cap->cap<=maxLen->aV w' base e k (.slice A' (n+m) cap) (n+m) ((L++M).flatMap f)->w.grownBy w' v.ownBlock->((Value.slice A' (n+m) cap).ownBlock=v.ownBlock∨(Value.slice A' (n+m) cap).ownBlock=some w.heap.size)->wpList P ops Q rest (a.put o.dst (.slice A' (n+m) cap)) w'):wpList P ops Q (o::rest) a w:=
 wpList_step fun _ hK=>by
  rw[if_pos hw]
  exact zf (P:=P) hk h1 s x t e i z bytes ho ht hi hz hz1 hz2 hz3 hk0 hby base v n L hs hown b off m c M hx hS hm hm0 hsz hbase fun A' cap w' c1 c2 c3 c4 c5=>hK _ _ (h A' cap w' c1 c2 c3 c4 c5)
end bP
end Go.Proofs.YtbemmjnjoabadaaGreatDoor
