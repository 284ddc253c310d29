/- part 23 -/
import Derived.Test.YtbemmjnjoabadaaGreatDoorK17
import Derived.Test.YtbemmjnjoabadaaGreatDoorK13
set_option linter.unusedVariables false
set_option linter.unusedSimpArgs false
set_option maxHeartbeats 2000000
set_option maxRecDepth 100000
namespace Go.Proofs.YtbemmjnjoabadaaGreatDoor
namespace bP
open Go.RowKit aQ Mem _root_.Go.Proofs.YtbemmjnjoabadaaGreatDoor.Code aY Sign _root_.Go.Proofs.YtbemmjnjoabadaaGreatDoor.Item _root_.Go.Proofs.YtbemmjnjoabadaaGreatDoor.Known
def zk:ByteArray:=⟨#[101,112,111,99,104]⟩
def jY(k scope:Int)(group:ByteArray)(epoch:Int):ByteArray:=su (((((aZ zk++aU k)++aU scope)++aZ group))++aU epoch)
theorem jG(a b:ByteArray):(a++b).size=a.size+b.size:=by simp
theorem Cj(s:ByteArray):(aZ s).size<=s.size+10:=Item.pK s
theorem Y3(k:Int×Int)(scope:Int)(group:ByteArray)(epoch:Int)(w:World)(hT:Tab w)(hk:k.1<=9223372036854775807)(hs:scope<=9223372036854775807)(he:epoch<=9223372036854775807)(hz:group.size<=140737488350000):Calls Tryz.prog 95 #[.agg (bH k), .int .i64 scope, .string group, .int .i64 epoch] w fun e w'=>e= .returned (.string (jY k.1 scope group epoch))/\Q w w':=by
 obtain⟨w1,x,hx,hq1,hbk⟩:=boxedB w 66 [.int .i64 k.1, .int .i64 k.2]
 have hx:w.alloc (.cells (bH k) 66)=x.w:=hx
 have c0:=aB (.int .i64 k.1) hbk 0
 have hT1:=fun y:Wd w1=>kY zk y.w (by decide)
 have hN1:=fun y:Wd w1=>kM k.1 y.w hk
 have Ny:=fun y:Wd w1=>kM scope y.w hs
 have hT2:=fun y:Wd w1=>kY group y.w (by omega)
 have hN3:=fun y:Wd w1=>kM epoch y.w he
 have z1:(aZ zk).size<=15:=by have:=Cj zk;have h:zk.size=5:=rfl;omega
 have z2:=iI k.1
 have z3:=iI scope
 have z4:=Cj group
 have z5:=iI epoch
 have f1:(aZ zk).size+(aU k.1).size<=9223372036854775807:=by omega
 have f2:(aZ zk++aU k.1).size+(aU scope).size<=9223372036854775807:=by rw[jG];omega
 have f3:((aZ zk++aU k.1)++aU scope).size+(aZ group).size<=9223372036854775807:=by rw[jG,jG];omega
 have f4:(((aZ zk++aU k.1)++aU scope)++aZ group).size+(aU epoch).size<=9223372036854775807:=by rw[jG,jG,jG];omega
 have hSh:=fun y:Wd w1=>Jf ((((aZ zk++aU k.1)++aU scope)++aZ group)++aU epoch) y.w (hT.q (Q.trans hq1 y.q)) (by rw[jG,jG,jG,jG];omega)
 have HR:=Lib.hid (show jY k.1 scope group epoch=su ((((aZ zk++aU k.1)++aU scope)++aZ group)++aU epoch)from rfl)
 have HQ:=Lib.hid hq1
 clear hbk hT hq1 z1 z2 z3 z4 z5
 unfold zk at hT1
 generalize hte:aZ zk=te at*
 rw[show aZ ⟨#[101,112,111,99,104]⟩=te from hte]at hT1
 generalize aU k.1=n1 at*
 generalize aU scope=n2 at*
 generalize aZ group=n3 at*
 generalize aU epoch=n4 at*
 go_enter Tryz.func95,Tryz.ntmps95
 go_upto_region 1 with(fail)
 refine kJ x (by kernel_rfl) (by kernel_rfl) ?_
 repeat(go_big_quiet_step (first|(go_at_call 59;first|with_reducible exact Wd.call _ (hT1 _)|with_reducible exact Wd.call _ (hT2 _))|(go_at_call 60;first|with_reducible exact Wd.call _ (hN1 _)|with_reducible exact Wd.call _ (Ny _)|with_reducible exact Wd.call _ (hN3 _))|(go_at_call 93;exact Wd.call _ (hSh _))))
 refine wpQuiet_nil ?_
 rintro w'' ⟨y,rfl⟩
 go_wp2_with fail
 go_ret
 exact⟨by rw[HR.out];rfl,Q.trans HQ.out y.q⟩
def Am(k:Int×Int)(c:ay):Bool:=(eP c c.acts.length).isSome&&(iP k&&(k.2==((eP c c.acts.length).getD gK).pub))
theorem Y4(k:Int×Int)(c:ay)(w:World)(hI:gX w c):Calls Tryz.prog 123 #[.agg (bH k), .agg (aF c)] w fun e w'=>e= .returned (.bool (Am k c))/\Q w w':=by
 have hb1:=ah.new w 66 (bH k)
 have hq1:=aO w (bH k) 66
 have hb2:=ah.new' (g:=w.heap.size+1) (w.alloc (.cells (bH k) 66)) 41 (aF c) (by simp)
 have hq2:=aO (w.alloc (.cells (bH k) 66)) (aF c) 41
 have hb1:=hb1.q hq2
 have hq:=Q.trans hq1 hq2
 clear hq1 hq2
 obtain⟨W0,hW0⟩:∃W0,W0=(w.alloc (.cells (bH k) 66)).alloc (.cells (aF c) 41):=⟨_,rfl⟩
 rw[<-hW0]at hb1 hb2 hq
 obtain⟨x,hx⟩:=Wd.first W0
 have HX:=Lib.hid (hx.symm.trans hW0)
 have c1:=aB (.slice c.aA c.acts.length c.aC) hb2 1
 have k0:=aB (.int .i64 k.1) hb1 0
 have k1:=aB (.int .i64 k.2) hb1 1
 have cZ:=dX (P:=Tryz.prog) (aF c) hb2 Tryz.underlying41
 have gq:=fun y:Wd W0=>O9 c c.acts.length y.w (hI.q (Q.trans hq y.q))
 unfold BD at gq
 have hRk:∀y:Wd W0,Calls Tryz.prog 58 #[.agg (bH k)] y.w fun e w'=>e= .returned (.bool (iP k))/\Q y.w w':=fun y=>Ji k y.w
 have HR:=Lib.hid (show Am k c=((eP c c.acts.length).isSome&&(iP k&&(k.2==((eP c c.acts.length).getD gK).pub)))from rfl)
 have HQ:=Lib.hid hq
 clear hW0 hx hb1 hb2 hq hI
 generalize (eP c c.acts.length).isSome=bb at*
 generalize (eP c c.acts.length).getD gK=kk at*
 rcases(show bb=false∨(bb=true/\iP k=false)∨(bb=true/\iP k=true/\(k.2==kk.pub)=false)∨(bb=true/\iP k=true/\(k.2==kk.pub)=true) by cases bb<;>cases iP k<;>cases(k.2==kk.pub)<;>simp)with rfl|⟨rfl,h2⟩|⟨rfl,h2,h3⟩|⟨rfl,h2,h3⟩
 all_goals
  try rw[h2]at hRk HR
  try rw[h3]at HR
  go_enter Tryz.func123,Tryz.ntmps123
  go_upto_region 1 with(fail)
  refine(show Code.wp _ _ _ _ x.w->Code.wp _ _ _ _ _ from fun h=>by rw[HX.out]at h;exact h) ?_
  go_upto_region 2 with(first|(refine aI (.tmp 3) (cZ _) ?_)|(go_at_call 55;refine(gq _).mono ?_;rintro e w' ⟨rfl,hq2⟩;obtain⟨y,rfl⟩:=Wd.next _ hq2;clear hq2)|(refine fM (ah.new y.w 111 gK.cells.toArray) rfl 111 (.tmp 5) (.tmp 13) kk.cells rfl rfl rfl (by kernel_rfl) (vP _) (Nat.le_refl 3) ?_))
  intro W3 hW3 kQ
  rw[bC _ _ (by rfl)]at hW3
  have hq3:Q W0 W3:=kQ _ _ y.q.size (Q.trans y.q (aO _ _ _))
  have p1:=aB (.int .i64 kk.pub) hW3 1
  have k03:∀z:Wd W3,z.w.cell? ⟨w.heap.size,0,none⟩=some (.int .i64 k.1):=fun z=>k0 ⟨z.w,Q.trans hq3 z.q⟩
  have k13:∀z:Wd W3,z.w.cell? ⟨w.heap.size,1,none⟩=some (.int .i64 k.2):=fun z=>k1 ⟨z.w,Q.trans hq3 z.q⟩
  have afF:∀z:Wd W3,Calls Tryz.prog 58 #[.agg (bH k)] z.w fun e w'=>e= .returned (.bool (iP k))/\Q z.w w':=fun z=>Ji k z.w
  try rw[h2]at afF
  have E8:=Lib.hid (Q.trans HQ.out hq3)
  clear kQ hW3 cZ gq hRk k0 k1 c1 hq3
  generalize y.w.heap.size=g3 at*
  obtain⟨v,hv⟩:=Wd.first W3
  rw[hv]
  clear hv
  go_wp2_with (go_at_call 58;refine(afF _).mono ?_;rintro e w' ⟨rfl,hq2⟩;obtain⟨v,rfl⟩:=Wd.next _ hq2;clear hq2)
  go_ret
  exact⟨by rw[HR.out];rfl,Q.trans E8.out v.q⟩
def U8(n:Int):Bool:=decide (1<=n)&&decide (n<=2305843009213693950)
theorem aqV(n:Int)(w:World):Calls Tryz.prog 57 #[.int .i64 n] w fun e w'=>e= .returned (.bool (U8 n))/\Q w w':=by
 obtain⟨x,hx⟩:=Wd.first w
 refine(show Calls Tryz.prog 57 #[.int .i64 n] x.w _->_ from fun h=>by rwa[<-hx]at h) ?_
 clear hx
 have HR:=Lib.hid (show U8 n=(decide (1<=n)&&decide (n<=2305843009213693950))from rfl)
 rcases(show decide (1<=n)=false∨(decide (1<=n)=true/\decide (n<=2305843009213693950)=false)∨(decide (1<=n)=true/\decide (n<=2305843009213693950)=true) by cases decide (1<=n)<;>cases decide (n<=2305843009213693950)<;>simp)with h1|⟨h1,h2⟩|⟨h1,h2⟩
 all_goals
  rw[h1]at HR
  try rw[h2]at HR
  simp only[decide_eq_true_eq,decide_eq_false_iff_not]at*
  go_enter Tryz.func57,Tryz.ntmps57
  go_wp2_with fail
  go_ret
  exact⟨by rw[HR.out];rfl,x.q⟩
theorem aqW(a b:Int)(w:World)(ha:a<=9223372036854775807)(hb:b<=9223372036854775807):Calls Tryz.prog 65 #[.agg #[.int .i64 a, .int .i64 b]] w fun e w'=>e= .returned (.string (aU a++aU b))/\Q w w':=by
 obtain⟨w1,x,hx,hq1,hbk⟩:=boxedB w 72 [.int .i64 a, .int .i64 b]
 have hx:w.alloc (.cells #[.int .i64 a, .int .i64 b] 72)=x.w:=hx
 have c0:=aB (.int .i64 a) hbk 0
 have c1:=aB (.int .i64 b) hbk 1
 have hN1:=fun y:Wd w1=>kM a y.w ha
 have Ny:=fun y:Wd w1=>kM b y.w hb
 have z2:=iI a
 have z3:=iI b
 have f1:(aU a).size+(aU b).size<=9223372036854775807:=by omega
 have HQ:=Lib.hid hq1
 clear hbk hq1 z2 z3
 generalize aU a=n1 at*
 generalize aU b=n2 at*
 go_enter Tryz.func65,Tryz.ntmps65
 go_upto_region 1 with(fail)
 refine kJ x (by kernel_rfl) (by kernel_rfl) ?_
 repeat(go_big_quiet_step ((go_at_call 60;first|with_reducible exact Wd.call _ (hN1 _)|with_reducible exact Wd.call _ (Ny _))))
 refine wpQuiet_nil ?_
 rintro w'' ⟨y,rfl⟩
 go_wp2_with fail
 go_ret
 exact⟨rfl,Q.trans HQ.out y.q⟩
theorem Cm(n m:Int)(w:World)(hn:I64 n)(hm:0<m/\m<=1000000):Calls Tryz.prog 20 #[.int .i64 n, .int .i64 m] w fun e w'=>e= .returned (.int .i64 (n%m))/\Q w w':=by
 obtain⟨x,hx⟩:=Wd.first w
 refine(show Calls Tryz.prog 20 #[.int .i64 n, .int .i64 m] x.w _->_ from fun h=>by rwa[<-hx]at h) ?_
 clear hx
 have hb1:n.tmod m<m:=Int.tmod_lt_of_pos n hm.1
 have hb2: -m<n.tmod m:=by
  rcases Int.le_total 0 n with h|h
  ·have:=Int.tmod_nonneg m h;omega
  ·have h2:n.tmod m= -((-n).tmod m):=by rw[Int.neg_tmod,Int.neg_neg]
   have h3:=Int.tmod_lt_of_pos (-n) hm.1
   omega
 have Ye:(n.tmod m<0/\n%m=n.tmod m+m)∨(¬n.tmod m<0/\n%m=n.tmod m):=by
  have e:n=n.tmod m+m*n.tdiv m:=by have:=Int.mul_tdiv_add_tmod n m;omega
  have e1:n%m=(n.tmod m)%m:=(congrArg (fun x=>x%m) e).trans (Int.add_mul_emod_self_left _ _ _)
  by_cases h0:n.tmod m<0
  ·refine .inl ⟨h0,?_⟩
   rw[e1,<-Int.add_emod_right,Int.emod_eq_of_lt (by omega) (by omega)]
  ·exact .inr ⟨h0,by rw[e1,Int.emod_eq_of_lt (by omega) (by omega)]⟩
 have hm0:m≠0:=by omega
 generalize n%m=r at*
 generalize hmm:n.tmod m=t at*
 have hw:m<=1000000:=hm.2
 rcases Ye with⟨h1,rfl⟩|⟨h1,rfl⟩
 all_goals
  go_enter Tryz.func20,Tryz.ntmps20
  go_wp2_with fail
  go_ret
  exact⟨rfl,x.q⟩
def aqX:ByteArray:=⟨#[97,99,116,111,114,32]⟩
def wF(i:Nat):ByteArray:=aqX++⟨#[UInt8.ofNat i]⟩
def aG(i:Nat):Int×Int:=Sign.keyOf (kN (wF i))
theorem afG(x:Int):0<=(Sign.keyOf x).2/\(Sign.keyOf x).2<2305843009213693951:=by
 unfold Sign.keyOf
 split
 ·exact⟨by decide,by decide⟩
 ·exact Ll 37 x
theorem U9(i:Nat):(aG i).1<=9223372036854775807:=by
 have h2:(aG i).1=(Sign.keyOf (kN (wF i))).1:=rfl
 rw[h2]
 unfold Sign.keyOf
 split
 ·decide
 ·rename_i h
  show kN (wF i)<=_
  omega
theorem Qc(i:Nat):(aG i).2<=9223372036854775807:=by
 have h:=afG (kN (wF i))
 have h2:(aG i).2=(Sign.keyOf (kN (wF i))).2:=rfl
 rw[h2]
 omega
theorem Ib(i:Nat)(w:World)(hT:Tab w)(hi:i<256):Calls Tryz.prog 23 #[.int .i64 i] w fun e w'=>e= .returned (.agg (bH (aG i)))/\Q w w':=by
 have hb0:=ah.new w 66 #[.int .i64 0, .int .i64 0]
 have hq0:=aO w #[.int .i64 0, .int .i64 0] 66
 have hb1:=ah.new' (g:=w.heap.size+1) (w.alloc (.cells #[.int .i64 0, .int .i64 0] 66)) 5 #[.int .u8 (i:Int)] (by simp)
 have hq1:=aO (w.alloc (.cells #[.int .i64 0, .int .i64 0] 66)) #[.int .u8 (i:Int)] 5
 have hcv:=_root_.Go.Proofs.YtbemmjnjoabadaaGreatDoor.Code.one_byte i (i:Int) hi rfl ((w.alloc (.cells #[.int .i64 0, .int .i64 0] 66)).alloc (.cells #[.int .u8 (i:Int)] 5)) (w.heap.size+1) (hb1.cell 0)
 have hb2:=hb0.q hq1
 have hq2:=Q.trans hq0 hq1
 have hsz:(⟨#[97,99,116,111,114,32]⟩++⟨#[UInt8.ofNat i]⟩:ByteArray).size=7:=by rw[ByteArray.size_append];rfl
 have hkey:Sign.keyOf (kN (⟨#[97,99,116,111,114,32]⟩++⟨#[UInt8.ofNat i]⟩))=aG i:=rfl
 obtain⟨sd,hsd⟩:∃sd,(⟨#[97,99,116,111,114,32]⟩++⟨#[UInt8.ofNat i]⟩:ByteArray)=sd:=⟨_,rfl⟩
 rw[hsd]at hkey hsz
 have gq:=fun W (h:Q w W)=>Sign.acD sd W (hT.q h) (by omega)
 rw[hkey]at gq
 clear hkey
 generalize aG i=kk at*
 unfold Sign.yK at gq
 clear hb1 hq1
 go_enter Tryz.func23,Tryz.ntmps23
 go_upto_region 1 with(fail)
 go_wp2_with fail
 refine(gq _ hq2).mono ?_
 rintro e w1 ⟨rfl,hq⟩
 have hb:=hb2.q hq
 have hq0:=Q.trans hq2 hq
 clear hcv gq hb2 hq2 hsd
 go_wp2_with (refine eY (cs:=[.int .i64 0, .int .i64 0]) hb rfl 66 (.tmp 2) (.tmp 8) [.int .i64 kk.1, .int .i64 kk.2] rfl rfl rfl (by kernel_rfl) (by simp[Value.oneCell']) (Nat.le_refl 2) ?_)
 intro W hW hbel _
 have hW:ah W w.heap.size 66 #[.int .i64 kk.1, .int .i64 kk.2]:=hW
 have dD:Q w W:=hbel _ _ (Nat.le_refl _) hq0
 clear hbel hb hq0
 go_wp2_with fail
 exact bodyPost_ret (results_cell_row rfl _ _ w.heap.size 66 (bH kk) (0,0) _ rfl hW Tryz.underlying66 rfl (by kernel_rfl)) rfl ⟨rfl,dD⟩
end bP
namespace bP
open Go.RowKit aQ Mem _root_.Go.Proofs.YtbemmjnjoabadaaGreatDoor.Code aY Sign _root_.Go.Proofs.YtbemmjnjoabadaaGreatDoor.Item _root_.Go.Proofs.YtbemmjnjoabadaaGreatDoor.Known BQ
attribute [local go_sem] Oper.semAt_some
section
variable {P:Program} {r n:Nat} {Q':Exit->Act->World->Prop} {ops:Array Oper}
theorem arp(hQ:¬LetsOut Q'):∀(l:List Oper) (a:Act) (w:World),(∀o∈l,∀c,o.op≠Op.defer c)->wpList P ops Q' l a w->wpListIn (Fence.wide.inRound r) n P ops Q' l a w:=by
 intro l
 induction l with
 |nil=>intro a w _ h;exact h
 |cons o rest ih=>
  intro a w hd h
  have hd2:∀o∈rest,∀c,o.op≠Op.defer c:=fun o ho=>hd o (List.mem_cons_of_mem _ ho)
  unfold wpList at h
  unfold wpListIn
  split at h
  ·rename_i hw
   rw[if_pos hw]
   rcases h with h|⟨-,h⟩
   ·exact Oper.wpIn_mono (fun a w hh=>ih a w hd2 hh) (ae7 (hd o (List.mem_cons_self ..)) h)
   ·exact absurd h hQ
  ·rename_i hw
   rw[if_neg hw]
   exact⟨fun _ _=>trivial,ih _ _ hd2 h⟩
theorem arq{l:List Oper}(h:PV l.toArray=true):∀o∈l,∀c,o.op≠Op.defer c:=by
 intro o ho c hc
 have h1:=(Array.all_eq_true_iff_forall_mem.1 h) o (by simpa using ho)
 rw[hc]at h1
 cases h1
theorem Vh{id:Nat}{a:Act}{w:World}{l:List Oper}(hQ:¬LetsOut Q')(hd:PV l.toArray=true)(h:wpList P l.toArray Q' l a w):(Code.region id l.toArray false).wpIn (Fence.wide.inRound r) n P Q' a w:=
 wpIn_region_lit (arp hQ l a w (arq hd) h)
end
theorem ars{F:Fence}{n:Nat}{P:Program}{ops:Array Oper}{rest:List Oper}{o:Oper}{a:Act}{w:World}{K:Exit->Act->World->Prop}(ty:TypeId)(y:Operand)(p v:Value)(ho:o.op= .load ty y)(hw:Region.wanted o (yielded ops a.tmps)=true)
 (hy:a.eval y=p) (hr:(Instr.loadAt ty p).run P w= .ok v w) (h:wpListIn F n P ops K rest (a.put o.dst v) w):wpListIn F n P ops K (o::rest) a w:=by
 refine wpListIn_step fun K' hK=> ?_
 rw[if_pos hw]
 unfold Oper.wpIn
 refine⟨?_,?_⟩
 ·simp[Oper.about,ho]
 ·rw[Oper.semAt_plain F _ _ (by rw[ho];intro c hc';cases hc')]
  simp only[execOp,ho,hy,Sem.run_bind,hr,Result.andThen_ok,Sem.run_pure]
  exact hK _ _ h
def sQ(t:TypeId)(X Y:World):Prop:=∀(g:Nat) (cs:Array Value) (fz:Nat×Nat),X.heap[g]?=some (.cells cs t fz)->Y.heap[g]?=some (.cells cs t fz)
theorem sQ.refl(t:TypeId)(X:World):sQ t X X:=fun _ _ _ h=>h
theorem sQ.trans{t:TypeId}{X Y Z:World}(h:sQ t X Y)(k:sQ t Y Z):sQ t X Z:=fun g cs fz hh=>k g cs fz (h g cs fz hh)
theorem sQ.pV{t:TypeId}{X Y:World}(h:Q X Y):sQ t X Y:=fun g cs fz hh=>(h.block g (Array.getElem?_eq_some_iff.1 hh).1).trans hh
theorem sQ.setCell{t u:TypeId}(X:World)(p:Addr)(v:Value)(cs:Array Value)(fz:Nat×Nat)(hp:X.heap[p.block]?=some (.cells cs u fz))(hu:u≠t):sQ t X (X.setCell p v):=fun g cs' fz' hh=>by
 refine(Below.heap_setCell _ _ _ g ?_).trans hh
 rintro rfl
 rw[hp]at hh
 injection hh with hh
 injection hh with _ hh
 exact hu hh
theorem sQ.grown{t u:TypeId}{X Y:World}{row:Option Nat}(hg:X.grownBy Y row)(hr:∀r,row=some r->∃cs fz,X.heap[r]?=some (.cells cs u fz))(hu:u≠t):sQ t X Y:=fun g cs fz hh=>by
 refine(hg.block g (Array.getElem?_eq_some_iff.1 hh).1 ?_).trans hh
 intro e
 obtain⟨cs',fz',h'⟩:=hr g e.symm
 rw[h']at hh
 injection hh with hh
 injection hh with _ hh
 exact hu hh
theorem sQ.putObj{t:TypeId}(X:World)(l:Nat)(o o':Obj)(h:X.heap[l]?=some o)(ho:o.isCells=false):sQ t X (X.putObj l o'):=fun g cs fz hh=>by
 refine(World.putObj_heap_other ?_).trans hh
 rintro rfl
 rw[h]at hh
 cases hh
 cases ho
def sS(n:Nat)(X Y:World):Prop:=Below n X Y/\∀t,sQ t X Y
theorem sS.refl(n:Nat)(X:World):sS n X X:=⟨Below.refl _ _,fun t=>sQ.refl t X⟩
theorem sS.trans{n:Nat}{X Y Z:World}(h:sS n X Y)(k:sS n Y Z):sS n X Z:=⟨h.1.trans k.1,fun t=>(h.2 t).trans (k.2 t)⟩
theorem sS.putObj{n:Nat}{w:World}(hn:n<=w.heap.size)(W:World)(l:Nat)(o o':Obj)(hl:w.heap.size<=l)(h:W.heap[l]?=some o)(hc:o.isCells=false)(_:o.isWalk=false):sS n W (W.putObj l o'):=
 ⟨(Below.refl n W).grown (grownBy_putObj' W l o') (by have:=(Array.getElem?_eq_some_iff.1 h).1;omega) (fun k e=>by cases e;omega),fun t=>sQ.putObj W l o o' h hc⟩
theorem sS.pV{n:Nat}{X Y:World}(h:Q X Y)(hn:n<=X.heap.size):sS n X Y:=⟨h.mono hn,fun t=>sQ.pV h⟩
theorem ah.kept{X Y:World}{g:Nat}{t:TypeId}{cs:Array Value}(h:ah X g t cs)(hk:∀t,sQ t X Y):ah Y g t cs:=hk t g _ _ h
theorem CG{W W':World}(h:Q W W'):W.grownBy W' none:=⟨h.os,h.tape,h.output,h.size,fun i hi _=>h.block i hi⟩
theorem afP{w X Y:World}(h:Q w X)(k:sS w.heap.size X Y):Q w Y:=Below.trans h k.1
end bP
end Go.Proofs.YtbemmjnjoabadaaGreatDoor
