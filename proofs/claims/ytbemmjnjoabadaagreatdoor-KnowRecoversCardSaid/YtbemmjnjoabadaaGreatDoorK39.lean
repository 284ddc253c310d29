/- part 39 -/
import Derived.Test.YtbemmjnjoabadaaGreatDoorSpotLay
import Derived.Test.YtbemmjnjoabadaaGreatDoorK22
import Derived.Test.YtbemmjnjoabadaaGreatDoorK24
set_option linter.unusedVariables false
set_option linter.unusedSimpArgs false
set_option maxHeartbeats 8000000
set_option maxRecDepth 100000
namespace Go.Proofs.YtbemmjnjoabadaaGreatDoor
namespace bP
open Go.RowKit aQ Mem _root_.Go.Proofs.YtbemmjnjoabadaaGreatDoor.Code aY Sign _root_.Go.Proofs.YtbemmjnjoabadaaGreatDoor.Item _root_.Go.Proofs.YtbemmjnjoabadaaGreatDoor.Known
structure lT where
 author:ByteArray
 at_:Int
instance:Inhabited lT:=⟨⟨bK,0⟩⟩
def kF(x:lT):List Value:=[.string x.author, .int .i64 x.at_]
theorem WL(x:lT):(kF x).length=2:=rfl
theorem aju(x:lT):∀v∈kF x,v.oneCell'=true:=by
 intro v hv
 simp only[kF,List.mem_cons,List.not_mem_nil,or_false]at hv
 rcases hv with rfl|rfl<;>rfl
theorem awj:(Tryz.prog.info? 58).map (fun i=>(i.zero,i.size,i.bytes))=some (some (.agg (kF ⟨bK,0⟩).toArray),2,24):=by kernel_rfl
def tJ(x y:lT):Int:=LU (Bv x.author y.author) (Lib.compareInt x.at_ y.at_)
def xI(ps:List Int)(c:ay)(n:Nat):List lT:=((List.range n).filter fun(i:Nat)=>jA ps c (i:Int)).map fun(i:Nat)=>⟨c.id,(i:Int)⟩
def xJ(ps:List Int)(cs:List ay):List lT:=cs.flatMap fun c=>xI ps c c.acts.length
theorem awk(ps:List Int)(c:ay)(k:Nat):xI ps c (k+1)=xI ps c k++if jA ps c k then[⟨c.id,(k:Int)⟩]else[]:=by
 unfold xI
 rw[List.range_succ,List.filter_append,List.map_append]
 congr 1
 cases h:jA ps c k<;>simp[h]
theorem awl(ps:List Int)(cs:List ay)(j:Nat)(h:j<cs.length):xJ ps (cs.take (j+1))=xJ ps (cs.take j)++xI ps cs[j] cs[j].acts.length:=by
 unfold xJ
 rw[List.take_succ_eq_append_getElem h,List.flatMap_append]
 simp
theorem awm(a b:ByteArray):Bv a b<0↔iq a b=true:=by
 unfold Bv
 by_cases h:iq a b=true
 ·simp[h]
 ·by_cases h2:iq b a=true<;>simp[h,h2]
theorem ajv(a b:ByteArray):Bv a b=0↔a=b:=by
 unfold Bv
 constructor
 ·intro h
  by_cases h1:iq a b=true
  ·rw[if_pos h1]at h;cases h
  ·rw[if_neg h1]at h
   by_cases h2:iq b a=true
   ·rw[if_pos h2]at h;cases h
   ·rcases OI a b with h3|h3|h3
    ·exact absurd h3 h1
    ·exact h3
    ·exact absurd h3 h2
 ·rintro rfl
  rw[DJ]
  simp
theorem awn(a b:Int):Lib.compareInt a b<0↔a<b:=by
 unfold Lib.compareInt
 (repeat' split)<;>omega
theorem ajw(x y:lT):ltOf tJ x y=true↔iq x.author y.author=true∨(x.author=y.author/\x.at_<y.at_):=by
 unfold ltOf tJ LU
 rw[decide_eq_true_eq]
 by_cases h:Bv x.author y.author=0
 ·rw[if_pos h,awn]
  have:=(ajv _ _).1 h
  constructor
  ·intro h2;exact .inr ⟨this,h2⟩
  ·rintro(h2|h2)
   ·rw[this,DJ]at h2;cases h2
   ·exact h2.2
 ·rw[if_neg h,awm]
  have:x.author≠y.author:=fun e=>h ((ajv _ _).2 e)
  constructor
  ·intro h2;exact .inl h2
  ·rintro(h2|h2)
   ·exact h2
   ·exact absurd h2.1 this
theorem ajx(x y:lT):ltOf tJ x y=false↔¬(iq x.author y.author=true∨(x.author=y.author/\x.at_<y.at_)):=by
 rw[<-ajw]
 simp
theorem ajy(x y:lT)(h1:ltOf tJ x y=false)(h2:ltOf tJ y x=false):x=y:=by
 rw[ajx]at h1 h2
 obtain⟨a,i⟩:=x
 obtain⟨b,j⟩:=y
 dsimp only at h1 h2
 rcases OI a b with h|h|h
 ·exact absurd (.inl h) h1
 ·subst h
  have e1:¬i<j:=fun e=>h1 (.inr ⟨rfl,e⟩)
  have e2:¬j<i:=fun e=>h2 (.inr ⟨rfl,e⟩)
  obtain rfl:i=j:=by omega
  rfl
 ·exact absurd (.inl h) h2
theorem WM:Go.Sort.SWO (ltOf tJ):=by
 have tr:∀x y z,ltOf tJ x y=true->ltOf tJ y z=true->ltOf tJ x z=true:=fun x y z h1 h2=>by
  rw[ajw]at h1 h2⊢
  rcases h1 with h1|⟨h1,h1'⟩<;>rcases h2 with h2|⟨h2,h2'⟩
  ·exact .inl (Xz h1 h2)
  ·exact .inl (h2▸h1)
  ·exact .inl (h1▸h2)
  ·exact .inr ⟨h1.trans h2,by omega⟩
 refine⟨fun x=> ?_,tr,fun x y z h1 h2=> ?_⟩
 ·rw[ajx,DJ]
  simp
 ·cases h3:ltOf tJ x z
  ·rfl
  ·cases h4:ltOf tJ y x
   ·obtain rfl:=ajy x y h1 h4
    rw[h2]at h3;cases h3
   ·have:=tr y x z h4 h3
    rw[h2]at this;cases this
theorem awo(x y:lT)(W:World):Calls Tryz.prog 50 #[.agg (kF x).toArray, .agg (kF y).toArray] W fun e w'=>e= .returned (.int .i64 (tJ x y))/\∃q os',w'=Go.Sort.grow (W.drewN q) os':=by
 have hci:=fun W'=>Tryz.cmp_Compare_int x.at_ y.at_ W'
 have hcs:=fun W'=>aoo x.author y.author W'
 have HR:Hid (tJ x y=LU (Bv x.author y.author) (Lib.compareInt x.at_ y.at_)):=Lib.hid rfl
 generalize tJ x y=r at HR⊢
 have b1:=ah.new W 58 (kF x).toArray
 have b2:=ah.new' (g:=W.heap.size+1) (W.alloc (.cells (kF x).toArray 58)) 58 (kF y).toArray (by simp)
 have b1:=b1.q (aO (W.alloc (.cells (kF x).toArray 58)) (kF y).toArray 58)
 obtain⟨W1,hW1⟩:∃W1,W1=(W.alloc (.cells (kF x).toArray 58)).alloc (.cells (kF y).toArray 58):=⟨_,rfl⟩
 rw[<-hW1]at b1 b2
 have c0:∀n,(W1.drewN n).cell? ⟨W.heap.size,0,none⟩=some (.string x.author):=fun n=>b1.cell 0
 have c1:∀n,(W1.drewN n).cell? ⟨W.heap.size,1,none⟩=some (.int .i64 x.at_):=fun n=>b1.cell 1
 have c2:∀n,(W1.drewN n).cell? ⟨W.heap.size+1,0,none⟩=some (.string y.author):=fun n=>b2.cell 0
 have c3:∀n,(W1.drewN n).cell? ⟨W.heap.size+1,1,none⟩=some (.int .i64 y.at_):=fun n=>b2.cell 1
 have HX:=Lib.hid hW1
 clear hW1 b1 b2
 generalize Lib.compareInt x.at_ y.at_=ri at*
 generalize Bv x.author y.author=rs at*
 go_enter Tryz.func50,Tryz.ntmps50
 go_upto_region 1 with(fail)
 refine(show Code.wp _ _ _ _ W1->Code.wp _ _ _ _ _ from fun h=>by rw[HX.out]at h;exact h) ?_
 refine am2 (C:=fun w'=>∃n,w'=W1.drewN n) 10 (by kernel_rfl) (by kernel_rfl) ⟨1,rfl⟩ ?_
 simp only[List.take_succ_cons,List.take_zero]
 repeat(quiet_step (first|(go_at_call 53;exact Calls.quiet_of_same (hci _))|(go_at_call 52;exact Calls.quiet_of_same (hcs _))))
 refine wpQuiet_nil ?_
 rintro w' ⟨n,rfl⟩
 have hb:=ah.new (W1.drewN n) 3 #[.int .i64 rs, .int .i64 ri]
 have hor:=aop (W1.drewN n).heap.size 0 2 rs ri _ (hb.cell 0) (hb.cell 1)
 have HE:Hid (∃q os',(W1.drewN n).alloc (.cells #[.int .i64 rs, .int .i64 ri] 3)=Go.Sort.grow (W.drewN q) os'):=Lib.hid ⟨n,_,by rw[HX.out];exact aoq W n _ _ _⟩
 clear hb
 refine ac3 10 rfl (by kernel_rfl) rfl (fun K' hK'=> ?_)
 go_simp
 refine hK' _ _ ?_
 clear hK' K'
 try simp only[aax]
 refine ac3 11 rfl (by kernel_rfl) rfl (fun K' hK'=> ?_)
 go_simp
 refine hor.mono ?_
 rintro e w2 ⟨rfl,rfl⟩
 refine hK' _ _ ?_
 clear hK' K' hor
 try simp only[aax]
 rw[<-HR.out]
 refine am3 12 (v:= .int .i64 r) rfl (by kernel_rfl) (by kernel_rfl) (by kernel_rfl) (by intro c d v a w h;cases d<;>exact h) rfl (fun w=>by rfl) ?_
 try simp only[aax]
 refine am4 (by kernel_rfl) ?_ _
 go_wp2_with fail
 go_ret
 exact⟨rfl,HE.out⟩
def Sl(l:List lT):Prop:=l.Pairwise fun x y=>ltOf tJ x y=true
theorem awp{l:List lT}(h:Sl l):(l.mergeSort fun x y=> !(ltOf tJ) y x)=l:=by
 refine List.mergeSort_of_pairwise (h.imp ?_)
 intro x y hxy
 cases h2:ltOf tJ y x
 ·rfl
 ·have:=WM.trans _ _ _ hxy h2
  rw[WM.irrefl]at this
  cases this
theorem awq{l:List lT}(h:Sl l)(k:Nat)(h1:k+1<l.length):l[k]≠l[k+1]:=by
 have:=List.pairwise_iff_getElem.1 h k (k+1) (by omega) h1 (by omega)
 intro e
 rw[e,WM.irrefl]at this
 cases this
theorem awr(A:Option Addr)(c base:Nat)(l:List lT)(w:World)(ha:Sl l)(hn:l.length<=1000000)(h:aV w base 58 2 (.slice A l.length c) l.length (l.flatMap kF))(hB:base<=w.heap.size):
 Calls Tryz.prog 49 #[.slice A l.length c, .func (.func 50) #[] #[]] w fun e w'=>e= .returned (.tuple #[])/\dI base w' A 2 kF l/\Below base w w':=by
 rcases Nat.eq_zero_or_pos l.length with h0|h0
 ·have hl:l=[]:=List.length_eq_zero_iff.1 h0
  subst hl
  refine(AnyF.slices_SortFunc_none (P:=Tryz.prog) (ρ:=Tryz.sortSpot_ren) {Tryz.sortSpot with} A c (.func (.func 50) #[] #[]) w).mono ?_
  rintro e w' ⟨rfl,rfl⟩
  exact⟨rfl,fun h=>absurd h (by simp),Below.refl _ _⟩
 ·obtain⟨g,rfl⟩:∃g,A=some ⟨g,0,none⟩:=by
   rcases h.2 with⟨e1,h1⟩|⟨g,cap,cur,fz,hv,_⟩
   ·omega
   ·injection hv with hA
    exact⟨g,hA⟩
  obtain⟨hH,hb',hg'⟩:=holds_of WL h rfl h0
  have hs:(l.toArray).size=l.length:=by simp
  have hS:=AnyQ.slices_SortFunc_total Tryz.sortSpot 2 Tryz.isAgg58 Tryz.sizeOf58 kF WL aju tJ WM 50 #[] g 0 c l.toArray w (enters_of Tryz.func50 (by kernel_rfl) rfl) (fun _ _ _ _ x y=>awo x y _) hH hg' (by rw[hs];omega) ajy
  rw[hs]at hS
  refine hS.mono ?_
  rintro e w' ⟨rfl,n,os,rfl⟩
  have hsa:(l.toArray.toList.mergeSort fun x y=> !(ltOf tJ) y x).toArray=l.toArray:=by rw[show l.toArray.toList=l from rfl,awp ha]
  rw[hsa]
  refine⟨rfl,fun h1=> ?_,aos (Below.refl _ _) hb' hB⟩
  obtain⟨b,o,e,hb,hc⟩:=aor WL (holdsK_sortWorldK_c kF 2 w g 0 l.toArray _ n os hH hg' rfl) (Nat.lt_of_lt_of_le hg' (size_sortWorldK_c kF 2 w g 0 n _ os)) h1
  injection e with e
  injection e with e1 e2
  subst e1 e2
  exact⟨g,0,rfl,hb',hb,hc⟩
open Go.Op Go.Instr in
theorem awR(a a':ByteArray)(i i':Int)(w:World):(binOp .eql 58 (.agg #[.string a, .int .i64 i]) (.agg #[.string a', .int .i64 i'])).run Tryz.prog w= .ok (.bool (decide (a=a')&&decide (i=i'))) w:=by
 have u3:=Tryz.underlying9
 have a3:=Tryz.isAgg9
 have z3:=Tryz.sizeOf9
 have u4:=Tryz.underlying3
 have a4:=Tryz.isAgg3
 have z4:=Tryz.sizeOf3
 have hS:Tryz.prog.underlying 58=some (.struct (Tryz.prog.fieldsOf 58)):=by kernel_rfl
 have hp:Tryz.prog.stoodInHeld 58=false:=by kernel_rfl
 rw[run_eql_struct,show(10000:Nat)=9999+1 from rfl,run_equalIn_agg w 9999 58 _ _ hS hp]
 simp only[Program.fieldsOf,Tryz.underlying58]
 go_simp
 simp only[Jr]
 by_cases h1:a=a'<;>by_cases h2:i=i'<;>simp[h1,h2]
theorem awS(op:BinOp)(a b:Operand)(xs ys:Array Value)(w:World):(eqGuard op 58 a b (.agg xs) (.agg ys)).run Tryz.prog w= .ok () w:=run_eqGuard_agg w op _ _ _ _ _ (by kernel_rfl)
open Go.Op Go.Instr in
theorem awT{x y:lT}(h:x≠y):∀w:World,(binOp .eql 58 (.agg #[.string x.author, .int .i64 x.at_]) (.agg #[.string y.author, .int .i64 y.at_])).run Tryz.prog w= .ok (.bool false) w:=by
 intro w
 rw[awR]
 obtain⟨a,i⟩:=x
 obtain⟨b,j⟩:=y
 by_cases h1:a=b<;>by_cases h2:i=j<;>simp_all
theorem awU(A:Option Addr)(c:Nat)(l:List lT)(w:World)(ha:Sl l)(hn:l.length<=1000000)(h:dS w A 2 kF l):
 Calls Tryz.prog 54 #[.slice A l.length c] w fun e w'=>e= .returned (.slice A l.length c)/\Q w w':=by
 obtain⟨nl,hnl⟩:∃nl,l.length=nl:=⟨_,rfl⟩
 rw[hnl]at hn⊢
 by_cases h2:nl<2
 ·have h2I:(nl:Int)<2:=by omega
  clear h
  go_enter Tryz.func54,Tryz.ntmps54
  go_wp2_with fail
  go_ret
  exact⟨rfl,Q.refl _⟩
 have h2I:¬(nl:Int)<2:=by omega
 obtain⟨b,o,rfl,hb,hcell⟩:=h (by omega)
 obtain⟨x0,hx0⟩:=Wd.first w
 refine(show Calls Tryz.prog 54 #[.slice (some ⟨b,o,none⟩) nl c] x0.w _->_ from fun h=>by rwa[<-hx0]at h) ?_
 clear hx0 h
 go_enter Tryz.func54,Tryz.ntmps54
 go_wp2_with fail
 go_loopw [3] (fun i wr=>∃(m:Nat) (z:Wd w),i= .int .i64 (m:Int)/\wr=z.w/\1<=m/\m<=nl) (fun i _=>nl-(intOf i).toNat)
 case atStart=>exact⟨1,x0,rfl,rfl,Nat.le_refl _,by omega⟩
 case round=>
  obtain⟨m,z,rfl,rfl,h1,hm⟩:=hrel
  by_cases hlt:m<nl
  ·have pX:(m:Int)<(nl:Int):=by omega
   have hm0:(0:Int)<=(m:Int):=by omega
   obtain⟨k,hk⟩:∃k,m=k+1:=⟨m-1,by omega⟩
   have hne:=awq ha k (by omega)
   have hk1:k<l.length:=by omega
   have hk2:k+1<l.length:=by omega
   have c0:=Wd.get (w0:=w) hb (hcell k hk1) 0 rfl
   have c1:=Wd.get (w0:=w) hb (hcell k hk1) 1 rfl
   have d0:=Wd.get (w0:=w) hb (hcell (k+1) hk2) 0 rfl
   have d1:=Wd.get (w0:=w) hb (hcell (k+1) hk2) 1 rfl
   simp only[Nat.add_zero]at c0 d0
   generalize l[k]=u at*
   generalize l[k+1]=v at*
   have hcmp:=awT (fun e=>hne e.symm)
   have hcg:=awS
   have hm1:(m:Int)-1=(k:Int):=by omega
   have hk0:(0:Int)<=(k:Int):=by omega
   have hkn:(k:Int)<(nl:Int):=by omega
   rw[<-hk]at d0 d1
   clear hcell hne hk hk1 hk2
   go_wp2_with fail
   refine kJ z (by kernel_rfl) (by kernel_rfl) ?_
   repeat(go_big_quiet_step (fail))
   refine wpQuiet_nil ?_
   rintro w'' ⟨y,rfl⟩
   have hwy:Q w y.w:=y.q
   go_wp2_with fail
   exact⟨⟨m+1,⟨y.w,hwy⟩,by go_num,rfl,by omega,by omega⟩,by simp only[intOf];omega⟩
  ·obtain rfl:m=nl:=by omega
   have uO:¬((m:Int)<(m:Int)):=by omega
   go_wp2_with fail
   go_ret
   exact⟨rfl,z.q⟩
theorem ah.awW{w w':World}{base size n h:Nat}{e t:TypeId}{v:Value}{xs:List Value}{cs:Array Value}(hb:ah w h t cs)(hown:aV w base e size v n xs)(hg:w.grownBy w' v.ownBlock)(hne:e≠t):ah w' h t cs:=by
 rcases hown.2 with⟨rfl,rfl⟩|⟨g,cap,cur,fz,rfl,hbg,hcur,_⟩
 ·exact(hg.block h hb.lt (by simp[Value.ownBlock])).trans hb
 ·refine(hg.block h hb.lt ?_).trans hb
  intro e1
  simp only[Value.ownBlock,Option.some.injEq]at e1
  subst e1
  have:=hb.symm.trans hcur
  injection this with this
  injection this with _ h2
  exact hne h2.symm
theorem awX(x:ay):x.cells.toArray.all (·.oneCell')=true:=by simp[ay.cells,Value.oneCell']
theorem awY(x:lT)(w:World):(Instr.buildSlice 54 1 #[(0, .agg (kF x).toArray)]).run Tryz.prog w= .ok (.slice (some ⟨w.heap.size,0,none⟩) 1 1) (w.alloc (.cells (kF x).toArray 58)):=by kernel_rfl
theorem awZ(x:lT)(w:World):(Instr.build 58 #[(0, .string x.author),(1, .int .i64 x.at_)]).run Tryz.prog w= .ok (.agg (kF x).toArray) w:=by kernel_rfl
def aw0(l:List lT)(w:World)(e:Ending)(w':World):Prop:=∃(A:Option Addr) (c:Nat),e= .returned (.slice A l.length c)/\l.length<=c/\c<=maxLen/\dI w.heap.size w' A 2 kF l/\Q w w'
theorem aw1(A B:Option Addr)(c d:Nat)(cs:List ay)(xs:List Int)(w:World)(hR:JL w A cs)(hS:Ints w B xs)(hx:∀x∈xs,I64 x)(hxl:xs.length<=1000)(hn:cs.length<=1000)(hl:∀c∈cs,c.acts.length<=100)(ha:Sl (xJ (iZ xs) cs)):
 Calls Tryz.prog 17 #[.slice A cs.length c, .slice B xs.length d] w (aw0 (xJ (iZ xs) cs) w):=by
 have hmx:maxLen=9223372036854775807:=by decide
 obtain⟨i0,hi,hz0,hz1,hz2⟩:=info_parts awj
 have BF:=Yd B d xs w hS hx (by omega)
 obtain⟨nl,hnl⟩:∃nl,cs.length=nl:=⟨_,rfl⟩
 obtain⟨nx,hnx⟩:∃nx,xs.length=nx:=⟨_,rfl⟩
 rw[hnx]at BF
 rw[hnl]at hn⊢
 rw[hnx]
 generalize iZ xs=ps at*
 go_enter Tryz.func17,Tryz.ntmps17
 go_upto_region 2 with(go_at_call 43;refine BF.mono ?_;rintro e w1 ⟨g,rfl,hM,hq1⟩)
 have hR1:=hR.q hq1
 have hw1:=hq1.size
 clear hR hS BF
 obtain⟨v0,hv0⟩:=Wd.first w1
 refine(show Code.wp _ _ _ _ v0.w->Code.wp _ _ _ _ _ from fun h=>by rwa[<-hv0]at h) ?_
 clear hv0
 go_wp2_with fail
 go_loopw [6,14] (fun a i wr=>∃(j:Nat) (D:Option Addr) (cd:Nat) (ss:List lT) (z:Wd w1),a= .slice D ss.length cd/\i= .int .i64 j/\wr=z.w/\j<=nl/\ss.length<=100*j/\ss.length<=cd/\cd<=maxLen/\Hid (ss=xJ ps (cs.take j))/\aV z.w w1.heap.size 58 2 (.slice D ss.length cd) ss.length (ss.flatMap kF)) (fun _ i _=>nl-(intOf i).toNat)
 case atStart=>exact⟨0,none,0,[],v0,rfl,rfl,rfl,Nat.zero_le _,Nat.zero_le _,Nat.zero_le _,Nat.zero_le _,Lib.hid rfl,aV.nil_ _ _ _ _⟩
 case round=>
  obtain⟨j,D,cd,ss,z,rfl,rfl,rfl,hj,hsj,hsc,hcm,hss,hown⟩:=hrel
  by_cases hlt:j<nl
  ·have dM:j<cs.length:=by omega
   have pX:(j:Int)<(nl:Int):=by omega
   have hpos:(0:Int)<=(j:Int):=by omega
   obtain⟨b,o,rfl,hb0,hcs⟩:=hR1.rows (by omega)
   have hld:=Wd.load (P:=Tryz.prog) (ty:=41) hb0 (hcs j dM) Tryz.underlying41 rfl (by kernel_rfl)
   have hst:=awl ps cs j dM
   rw[<-hss.out]at hst
   have HST:=Lib.hid hst
   have hIx:=hR1.each _ (List.getElem_mem dM)
   have hlx:=hl _ (List.getElem_mem dM)
   clear hcs hst
   generalize cs[j]=x at*
   go_upto_region 6 with(first|(refine kR 24 41 (.tmp 12) (.tmp 14) b o nl c j 6 rfl rfl rfl rfl Tryz.underlying24 (by kernel_rfl) Tryz.sizeOf41 hlt ?_)|(refine aI (.tmp 16) (hld _) ?_)|(refine fM (ah.new z.w 41 fE.cells.toArray) rfl 41 (.tmp 8) (.tmp 17) x.cells rfl rfl rfl (by kernel_rfl) (awX _) (Nat.le_refl 6) ?_))
   intro W hW hbel
   rw[bC _ _ (by rfl)]at hW
   have aJ:Q z.w W:=hbel _ _ (Nat.le_refl _) (aO _ _ _)
   have hown2:=hown.q aJ
   obtain⟨z1,rfl⟩:=Wd.next z aJ
   generalize z.w.heap.size=h at*
   clear hbel aJ hld hown
   obtain⟨Jb,hnx2⟩:∃Jb,x.acts.length=Jb:=⟨_,rfl⟩
   have k1:z1.w.cell? ⟨h,1,none⟩=some (.slice x.aA Jb x.aC):=by rw[<-hnx2];exact hW.cell 1
   have HOW:=Lib.hid hown2
   have EK:=Lib.hid hW
   clear hown2 hW
   go_wp2_with fail
   go_loopw [6,21] (fun a i wr=>∃(k:Nat) (D:Option Addr) (cd:Nat) (s2:List lT) (z:Wd w1),a= .slice D s2.length cd/\i= .int .i64 k/\wr=z.w/\k<=Jb/\s2.length<=100*j+k/\s2.length<=cd/\cd<=maxLen/\Hid (s2=ss++xI ps x k)/\Hid (aV z.w w1.heap.size 58 2 (.slice D s2.length cd) s2.length (s2.flatMap kF))/\Hid (ah z.w h 41 x.cells.toArray)) (fun _ i _=>Jb-(intOf i).toNat)
   case atStart=>exact⟨0,D,cd,ss,z1,rfl,rfl,rfl,Nat.zero_le _,hsj,hsc,hcm,Lib.hid (by simp[xI]),HOW,EK⟩
   case round=>
    clear HOW EK hsc hcm hsj k1
    obtain⟨k,D2,xu,s2,z2,rfl,rfl,rfl,hk,hsk,hsc2,hcm2,hs2,HOW,EK⟩:=hrel
    by_cases hkl:k<Jb
    ·have Vf:(k:Int)<(Jb:Int):=by omega
     have hps:=awk ps x k
     have iw:=aef x g ps k z2.w (hIx.q z2.q) (hM.q z2.q)
     have hld:(Instr.loadAt 41 (.pointer (some ⟨h,0,none⟩))).run Tryz.prog z2.w= .ok (.agg (aF x)) z2.w:=Wd.load (P:=Tryz.prog) (w0:=z2.w) EK.out.lt (ah.range EK.out) Tryz.underlying41 rfl (by kernel_rfl) ⟨z2.w,Q.refl _⟩
     have hbs:∀w:World,(Instr.buildSlice 54 1 #[(0, .agg #[.string x.id, .int .i64 (k:Int)])]).run Tryz.prog w= .ok (.slice (some ⟨w.heap.size,0,none⟩) 1 1) (w.alloc (.cells #[.string x.id, .int .i64 (k:Int)] 58)):=awY ⟨x.id,(k:Int)⟩
     have hbu:∀w:World,(Instr.build 58 #[(0, .string x.id),(1, .int .i64 (k:Int))]).run Tryz.prog w= .ok (.agg #[.string x.id, .int .i64 (k:Int)]) w:=awZ ⟨x.id,(k:Int)⟩
     cases hrk:jA ps x k
     ·rw[hrk]at hps iw
      rw[if_neg (by simp),List.append_nil]at hps
      have HS2:Hid (s2=ss++xI ps x (k+1)):=Lib.hid (by rw[hps];exact hs2.out)
      clear hs2 hps hrk hbs hbu hM hIx
      go_wp2_with (first|(refine aI (.tmp 8) hld ?_)|(go_at_call 42;refine iw.mono ?_;rintro e w5 ⟨rfl,hq5⟩;have MI:=Lib.hid (HOW.out.q hq5);have Sv:=Lib.hid (EK.out.q hq5);clear HOW EK;obtain⟨z5,rfl⟩:=Wd.next z2 hq5;clear hq5))
      exact⟨⟨k+1,D2,xu,s2,z5,rfl,by go_num,rfl,by omega,by omega,hsc2,hcm2,HS2,MI,Sv⟩,by simp only[intOf];omega⟩
     ·rw[hrk]at hps iw
      rw[if_pos rfl]at hps
      have HS2:Hid (s2++[⟨x.id,(k:Int)⟩]=ss++xI ps x (k+1)):=Lib.hid (by rw[hps,<-List.append_assoc,<-hs2.out])
      clear hs2 hps hrk hM hIx
      go_upto_region 10 with(first|(refine aI (.tmp 8) hld ?_)|(go_at_call 42;refine iw.mono ?_;rintro e w5 ⟨rfl,hq5⟩;have MI:=Lib.hid (HOW.out.q hq5);have Sv:=Lib.hid (EK.out.q hq5);clear HOW EK;obtain⟨z5,rfl⟩:=Wd.next z2 hq5;clear hq5))
      have kid:z5.w.cell? ⟨h,0,none⟩=some (.string x.id):=Sv.out.cell 0
      have hown5:=MI.out
      have hblk5:=Sv.out
      have hs5:=z5.q.size
      clear iw hld MI Sv
      have hnew:dS (z5.w.alloc (.cells #[.string x.id, .int .i64 (k:Int)] 58)) (some ⟨z5.w.heap.size,0,none⟩) 2 kF [⟨x.id,(k:Int)⟩]:=jW (ah.new z5.w 58 (kF ⟨x.id,(k:Int)⟩).toArray)
      go_wp2_with (at_builtin;refine Jw WL aju rfl (.tmp 28) (.tmp 33) 54 58 i0 _ 24 rfl Tryz.underlying54 hi hz0 hz1 hz2 rfl (by decide) (by decide) w1.heap.size (.slice D2 s2.length xu) s2.length _ rfl (hown5.alloc (.cells #[.string x.id, .int .i64 (k:Int)] 58)) (some ⟨z5.w.heap.size,0,none⟩) 1 1 [⟨x.id,(k:Int)⟩] rfl hnew rfl (by omega) (by simp;omega) ?_)
      intro A9 c9 w9 kU jd eX bW
      have bD:Q w1 w9:=fB (Q.trans z5.q (aO _ _ _)) (Nat.le_refl _) (hown5.alloc _) bW
      have ajS:ah w9 h 41 x.cells.toArray:=ah.awW (hblk5.q (aO _ _ _)) (hown5.alloc _) bW (by decide)
      have hlen:(s2++[(⟨x.id,(k:Int)⟩:lT)]).length=s2.length+1:=by simp
      have eF:s2.flatMap kF++kF ⟨x.id,(k:Int)⟩=(s2++[(⟨x.id,(k:Int)⟩:lT)]).flatMap kF:=by simp
      have ajT:aV w9 w1.heap.size 58 2 (.slice A9 (s2++[(⟨x.id,(k:Int)⟩:lT)]).length c9) (s2++[(⟨x.id,(k:Int)⟩:lT)]).length ((s2++[(⟨x.id,(k:Int)⟩:lT)]).flatMap kF):=by
       rw[hlen,<-eF]
       simpa using eX
      have FD:=Lib.hid ajT
      have HB9:=Lib.hid ajS
      have RI:=Lib.hid hlen
      clear eX ajT bW hown5 hblk5 ajS hlen eF hnew hbs hbu kid
      go_wp2_with fail
      exact⟨⟨k+1,A9,c9,s2++[⟨x.id,(k:Int)⟩],⟨w9,bD⟩,by rw[RI.out],by go_num,rfl,by omega,by rw[RI.out];omega,by rw[RI.out];omega,jd,HS2,FD,HB9⟩,by simp only[intOf];omega⟩
    ·obtain rfl:k=Jb:=by omega
     have hkn:¬((k:Int)<(k:Int)):=by omega
     have HS2:Hid (s2=xJ ps (cs.take (j+1))):=Lib.hid (by rw[HST.out,hnx2];exact hs2.out)
     clear hs2 EK hM hIx
     go_wp2_with fail
     exact⟨⟨j+1,D2,xu,s2,z2,rfl,by go_num,rfl,by omega,by omega,hsc2,hcm2,HS2,HOW.out⟩,by simp only[intOf];omega⟩
  ·obtain rfl:j=nl:=by omega
   have uO:¬((j:Int)<(j:Int)):=by omega
   have hse:ss=xJ ps cs:=by rw[hss.out,<-hnl,List.take_length]
   clear hss
   subst hse
   generalize xJ ps cs=ss at*
   have hSo:=awr D cd w1.heap.size ss z.w ha (by omega) hown z.q.size
   clear hown hR1 hM
   go_upto_region 14 with(go_at_call 49;refine hSo.mono ?_;rintro e w5 ⟨rfl,Mc,hb5⟩)
   have hq5:Q w1 w5:=Below.trans z.q hb5
   have JF:=awU D cd ss w5 ha (by omega) (fun h0=>by obtain⟨b,o,e,_,h2,h3⟩:=Mc h0;exact⟨b,o,e,h2,h3⟩)
   clear hSo
   go_wp2_with (go_at_call 54;refine JF.mono ?_;rintro e w6 ⟨rfl,hq6⟩)
   go_ret
   exact⟨D,cd,rfl,hsc,hcm,(Mc.q hq6).low hw1,Q.trans hq1 (Q.trans hq5 hq6)⟩
end bP
end Go.Proofs.YtbemmjnjoabadaaGreatDoor
