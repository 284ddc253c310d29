/- part 9 -/
import Derived.Laws.EntriesVeiled
import Derived.Test.YtbemmjnjoabadaaGreatDoorK06
set_option linter.unusedVariables false
set_option linter.unusedSimpArgs false
set_option maxHeartbeats 4000000
set_option maxRecDepth 100000
namespace Go.Proofs.YtbemmjnjoabadaaGreatDoor
namespace Item
open Go.RowKit aQ Mem _root_.Go.Proofs.YtbemmjnjoabadaaGreatDoor.Code aY Sign
theorem DK(n lo hi:Int)(r:Bool)(w:World)(h:eU n lo hi=r):Calls Tryz.prog 112 #[.int .i64 n, .int .i64 lo, .int .i64 hi] w fun e w'=>e= .returned (.bool r)/\w=w':=by
 subst h
 by_cases h1:lo<=n
 ·go_enter Tryz.func112,Tryz.ntmps112
  go_wp2
  go_ret
  exact⟨by simp[eU,h1],rfl⟩
 ·have h2:decide (lo<=n)=false:=by simpa using h1
  go_enter Tryz.func112,Tryz.ntmps112
  go_wp2
  go_ret
  exact⟨by simp only[eU,h2,Bool.false_and];rfl,rfl⟩
theorem am9(s:ByteArray)(r:Bool)(w:World)(h:zX s=r):Calls Tryz.prog 161 #[.string s] w fun e w'=>e= .returned (.bool r)/\w=w':=by
 subst h
 go_enter Tryz.func161,Tryz.ntmps161
 go_wp2
 go_ret
 exact⟨by by_cases h:s.size=32<;>simp[zX,h]<;>omega,rfl⟩
theorem TU(s:ByteArray)(r:Bool)(w:World)(h:tN s=r):Calls Tryz.prog 167 #[.string s] w fun e w'=>e= .returned (.bool r)/\w=w':=by
 subst h
 go_enter Tryz.func167,Tryz.ntmps167
 go_wp2
 go_ret
 exact⟨by by_cases h:s.size<=500<;>simp[tN,h]<;>omega,rfl⟩
theorem LJ(n:Int)(r:Bool)(w:World)(h:wP n=r):Calls Tryz.prog 205 #[.int .i64 n] w fun e w'=>e= .returned (.bool r)/\w=w':=by
 subst h
 go_enter Tryz.func205,Tryz.ntmps205
 go_wp2_with (go_at_call 112;refine(DK _ _ _ _ _ rfl).mono ?_;rintro e w' ⟨rfl,rfl⟩)
 go_ret
 exact⟨rfl,rfl⟩
def au(a:ak):Array Value:=a.cells.toArray
structure jm(w0:World)(g:Nat)(a:ak):Prop where
 lt:g<w0.heap.size
 range:w0.rangeAt g 0 a.cells
theorem jm.new(w:World)(a:ak)(t:TypeId):jm (w.alloc (.cells (au a) t)) w.heap.size a:=⟨(ah.new w t (au a)).lt,ah.range (ah.new w t a.cells.toArray)⟩
theorem jm.get{w0:World}{g:Nat}{a:ak}(h:jm w0 g a)(j:Nat){v:Value}(hv:a.cells[j]?=some v):∀x:Wd w0,x.w.cell? ⟨g,j,none⟩=some v:=Wd.at0 h.lt h.range j hv
theorem jm.load{w0:World}{g:Nat}{a:ak}(h:jm w0 g a):∀x:Wd w0,(Instr.loadAt 37 (.pointer (some ⟨g,0,none⟩))).run Tryz.prog x.w= .ok (.agg (au a)) x.w:=
 Wd.load h.lt h.range Tryz.underlying37 rfl (by kernel_rfl)
theorem jm.box(w:World)(a:ak)(t:TypeId):∃(w1:World) (x:Wd w1),w.alloc (.cells (au a) t)=x.w/\Q w w1/\jm w1 w.heap.size a:=
 ⟨_,⟨_,Q.refl _⟩,rfl,aO w _ t,jm.new w a t⟩
theorem LK(s:ByteArray):s.toList.isEmpty=fG s:=by
 rw[ByteArray.toList_eq]
 unfold fG
 rw[<-ny]
 cases s.data.toList<;>simp
theorem ana(s:ByteArray):((s.size:Int)==32)=zX s:=by
 by_cases h:s.size=32<;>simp[zX,h];omega
theorem anb(x y z:ByteArray):(decide (x=⟨#[]⟩)&&(decide (y=⟨#[]⟩)&&decide (z=⟨#[]⟩)))=(fG x&&(fG y&&fG z)):=by
 have h:∀s:ByteArray,decide (s=⟨#[]⟩)=fG s:=by
  intro s
  unfold fG
  rw[decide_eq_decide]
  constructor
  ·rintro rfl;rfl
  ·intro h
   apply Bc
   exact List.eq_nil_of_length_eq_zero (by rw[ny];exact h)
 rw[h,h,h]
theorem OO{m o:ByteArray}(h:m≠o):m.toList≠o.toList:=by
 rw[ByteArray.toList_eq,ByteArray.toList_eq]
 exact fun e=>h (Bc e)
theorem Jr(a b:ByteArray):(a.toList=b.toList)=(a=b):=propext ⟨fun h=>Decidable.byContradiction fun hn=>OO hn h,fun h=>congrArg _ h⟩
open Go.Op Go.Instr in
theorem ac6(x y z x' y' z':ByteArray)(w:World):(binOp .eql 32 (.agg #[.string x, .string y, .string z]) (.agg #[.string x', .string y', .string z'])).run Tryz.prog w= .ok (.bool (decide (x=x')&&(decide (y=y')&&decide (z=z')))) w:=by
 have u3:=Tryz.underlying9
 have a3:=Tryz.isAgg9
 have z3:=Tryz.sizeOf9
 have hS:Tryz.prog.underlying 32=some (.struct (Tryz.prog.fieldsOf 32)):=by kernel_rfl
 have hp:Tryz.prog.stoodInHeld 32=false:=by kernel_rfl
 rw[run_eql_struct,show(10000:Nat)=9999+1 from rfl,run_equalIn_agg w 9999 32 _ _ hS hp]
 simp only[Program.fieldsOf,Tryz.underlying32]
 go_simp
 simp only[Jr]
 by_cases h1:x=x'<;>by_cases h2:y=y'<;>by_cases h3:z=z'<;>simp[h1,h2,h3]
open Go.Op Go.Instr in
theorem ac7(x y z:ByteArray)(w:World):(binOp .eql 32 (.agg #[.string x, .string y, .string z]) (.agg #[.string ⟨#[]⟩, .string ⟨#[]⟩, .string ⟨#[]⟩])).run Tryz.prog w= .ok (.bool (fG x&&(fG y&&fG z))) w:=by
 rw[ac6,anb]
theorem XF(a:ak)(w:World):Calls Tryz.prog 111 #[.agg (au a)] w fun e w'=>e= .returned (.bool (yN a))/\Q w w':=by
 obtain⟨w1,x,hx,hq1,hA⟩:=jm.box w a 37
 have c1:=hA.get 1 rfl
 have c2:=hA.get 2 rfl
 have c3:=hA.get 3 rfl
 clear hA
 go_enter Tryz.func111,Tryz.ntmps111
 go_wp2
 all_goals
  go_ret
  refine⟨?_,Q.trans hq1 x.q⟩
  simp_all[yN,eU,LK,ana]
 all_goals omega
theorem EX(a:ak)(w:World):Calls Tryz.prog 163 #[.agg (au a)] w fun e w'=>e= .returned (.bool (pR a))/\Q w w':=by
 obtain⟨w1,x,hx,hq1,hA⟩:=jm.box w a 37
 have c5:=hA.get 5 rfl
 clear hA
 go_enter Tryz.func163,Tryz.ntmps163
 go_wp2_with (go_at_call 161;refine(am9 _ _ _ rfl).mono ?_;rintro e w' ⟨rfl,rfl⟩)
 go_ret
 exact⟨rfl,Q.trans hq1 x.q⟩
theorem Js(a:ak)(w:World):Calls Tryz.prog 165 #[.agg (au a)] w fun e w'=>e= .returned (.bool (DF a))/\Q w w':=by
 obtain⟨w1,x,hx,hq1,hA⟩:=jm.box w a 37
 have c6:=hA.get 6 rfl
 clear hA
 go_enter Tryz.func165,Tryz.ntmps165
 go_wp2_with (go_at_call 101;refine(LD _ _).mono ?_;rintro e w' ⟨rfl,hq⟩)
 go_ret
 exact⟨rfl,Q.trans hq1 (Q.trans x.q hq)⟩
theorem ac8(a:ak)(w:World):Calls Tryz.prog 170 #[.agg (au a)] w fun e w'=>e= .returned (.bool (Jl a))/\Q w w':=by
 obtain⟨w1,x,hx,hq1,hA⟩:=jm.box w a 37
 have c16:=hA.get 16 rfl
 have c17:=hA.get 17 rfl
 clear hA
 go_enter Tryz.func170,Tryz.ntmps170
 go_wp2_with (first|(go_at_call 205;refine(LJ _ _ _ rfl).mono ?_;rintro e w' ⟨rfl,rfl⟩)|(go_at_call 112;refine(DK _ _ _ _ _ rfl).mono ?_;rintro e w' ⟨rfl,rfl⟩))
 all_goals
  go_ret
  refine⟨?_,Q.trans hq1 (Wd.q _)⟩
  simp[Jl, *]
theorem ac9(n:Int)(s:ByteArray)(w:World):Calls Tryz.prog 203 #[.int .i64 n, .string s] w fun e w'=>e= .returned (.bool (Dz n s))/\Q w w':=by
 go_enter Tryz.func203,Tryz.ntmps203
 go_wp2_with (go_at_call 169;refine(name_any _ _).mono ?_;rintro e w' ⟨rfl,hq1⟩)
 all_goals
  go_ret
  refine⟨?_,by first|assumption|exact Q.refl _⟩
  simp_all[Dz,LK]
theorem toList_nil(s:ByteArray):(s.toList=[])=(fG s=true):=by
 rw[<-LK];simp
theorem anc(k:Nat):((k:Int)=32)=(k=32):=propext ⟨fun h=>by omega,fun h=>by omega⟩
theorem ane(k:Nat):((k:Int)=16)=(k=16):=propext ⟨fun h=>by omega,fun h=>by omega⟩
theorem ada(k:Nat):((k:Int)==0)=decide (k=0):=by
 by_cases h:k=0<;>simp[h]
theorem adb(n d t:ByteArray)(w:World):Calls Tryz.prog 204 #[.agg #[.string n, .string d, .string t]] w fun e w'=>e= .returned (.bool (Bj n d t))/\Q w w':=by
 have hq:=aO w #[.string n, .string d, .string t] 32
 go_enter Tryz.func204,Tryz.ntmps204
 go_wp2_with (go_at_call 167;refine(TU _ _ _ rfl).mono ?_;rintro e w' ⟨rfl,rfl⟩)
 all_goals
  go_ret
  refine⟨?_,hq⟩
  simp_all[Bj,anc,ane]
theorem tX.q{w w':World}{A:Option Addr}{l:List bQ}(h:tX w A l)(hq:Q w w'):tX w' A l:=fun h0=>by
 obtain⟨b,o,e,hb,hc⟩:=h h0
 exact⟨b,o,e,Nat.lt_of_lt_of_le hb hq.size,fun j hj=>yP (hc j hj) hq hb⟩
theorem bU.q{w w':World}{a:ak}(h:bU w a)(hq:Q w w'):bU w' a:=⟨h.to.q hq,h.wraps.q hq,h.toC,h.dF⟩
theorem bU.Bl{w:World}{a:ak}(h:bU w a):a.to.length<=9223372036854775807:=by
 have:=h.toC
 unfold maxLen at this
 omega
theorem bU.TV{w:World}{a:ak}(h:bU w a):a.wraps.length<=9223372036854775807:=by
 have:=h.dF
 unfold maxLen at this
 omega
theorem anf{α:Type}(l:List α)(p:α->Bool)(k:Nat)(h:k<l.length):(l.take (k+1)).all p=((l.take k).all p&&p l[k]):=by
 rw[List.take_succ_eq_append_getElem h,List.all_append]
 simp
theorem ang{α:Type}(l:List α)(p:α->Bool)(k:Nat)(h:k<l.length)(hp:p l[k]=false):l.all p=false:=by
 rw[Bool.eq_false_iff]
 intro ha
 rw[List.all_eq_true]at ha
 rw[ha l[k] (List.getElem_mem h)]at hp
 cases hp
theorem ade(a:ak)(w:World)(hI:bU w a):Calls Tryz.prog 206 #[.agg (au a)] w fun e w'=>e= .returned (.bool (EO a))/\Q w w':=by
 obtain⟨w1,x,hx,hq1,hA⟩:=jm.box w a 37
 have c9:=hA.get 9 rfl
 have c13:=hA.get 15 rfl
 have hlen:=hI.Bl
 have axz:=hI.TV
 go_enter Tryz.func206,Tryz.ntmps206
 go_wp2
 go_loopw [4,8] (fun _ i wr=>∃(k:Nat) (z:Wd w1),i= .int .i64 k/\wr=z.w/\k<=a.wraps.length/\Hid ((a.wraps.take k).all oH=true)) (fun _ i _=>a.wraps.length-(intOf i).toNat)
 case atStart=>exact⟨0,x,rfl,rfl,Nat.zero_le _,Lib.hid rfl⟩
 case round=>
  obtain⟨k,z,rfl,rfl,hk,hall⟩:=hrel
  by_cases hlt:k<a.wraps.length
  ·obtain⟨b,o,hwA,hb,hcell⟩:=(hI.wraps.q hq1) (by omega)
   have hst:=anf a.wraps oH k hlt
   rw[hall.out,Bool.true_and]at hst
   have hno:=ang a.wraps oH k hlt
   have k0:=Wd.get (w0:=w1) hb (hcell k hlt) 0 rfl
   have k1:=Wd.get (w0:=w1) hb (hcell k hlt) 1 rfl
   have k2:=Wd.get (w0:=w1) hb (hcell k hlt) 2 rfl
   have k3:=Wd.get (w0:=w1) hb (hcell k hlt) 3 rfl
   have k4:=Wd.get (w0:=w1) hb (hcell k hlt) 4 rfl
   simp only[Nat.add_zero]at k0
   have HST:Hid ((a.wraps.take (k+1)).all oH=oH a.wraps[k]):=Lib.hid hst
   have HNO:=Lib.hid hno
   clear hst hno hcell hA hx hall
   generalize a.wraps[k]=v at*
   rw[hwA]
   go_wp2_with (first|(go_at_call 205;refine(LJ _ _ _ rfl).mono ?_;rintro e w' ⟨rfl,rfl⟩)|(go_at_call 204;refine(adb _ _ _ _).mono ?_;rintro e w' ⟨rfl,hq2⟩))
   all_goals try simp only[Bool.not_eq_true',Bool.not_eq_false',Bool.not_eq_true]at*
   all_goals
    first
     |(go_ret
       exact⟨by rw[show EO a=false by unfold EO;rw[HNO.out (by simp[oH, *]),Bool.false_and]];rfl,Q.trans hq1 (by first|exact Q.trans z.q (Q.trans (aO _ _ _) hq2)|exact Q.trans z.q (aO _ _ _))⟩)
     |exact⟨⟨k+1,⟨_,Q.trans z.q (Q.trans (aO _ _ _) hq2)⟩,by go_num,rfl,by omega,Lib.hid (by rw[HST.out];simp[oH, *])⟩,by simp only[intOf];omega⟩
  ·have hks:k=a.wraps.length:=by omega
   have hres:Hid (EO a=decide (a.wraps.length=a.to.length)):=by
    refine Lib.hid ?_
    have:=hall.out
    rw[hks,List.take_length]at this
    simp[EO,this]
   clear hks
   go_wp2
   go_ret
   refine⟨?_,Q.trans hq1 z.q⟩
   rw[hres.out]
   by_cases h:a.wraps.length=a.to.length<;>simp[h]<;>omega
theorem adf(a:ak)(w:World)(hI:bU w a):Calls Tryz.prog 164 #[.agg (au a)] w fun e w'=>e= .returned (.bool (ER a))/\Q w w':=by
 obtain⟨w1,x,hx,hq1,hA⟩:=jm.box w a 37
 have c7:=hA.get 7 rfl
 have c8:=hA.get 8 rfl
 have c9:=hA.get 9 rfl
 have c10:=hA.get 10 rfl
 have c11:=hA.get 11 rfl
 have c12:=hA.get 12 rfl
 have c13:=hA.get 13 rfl
 have c14:=hA.get 14 rfl
 have hS':∀y:Wd w1,bU y.w a:=fun y=>hI.q (Q.trans hq1 y.q)
 have hS:∀y:Wd w1,Strs y.w a.toA a.to:=fun y=>(hS' y).to
 have hlen:a.to.length<=9223372036854775807:=hI.Bl
 have hB:=ac7
 clear hA
 go_enter Tryz.func164,Tryz.ntmps164
 go_wp2_with (first|(go_at_call 112;refine(DK _ _ _ _ _ rfl).mono ?_;rintro e w' ⟨rfl,rfl⟩)|(go_at_call 167;refine(TU _ _ _ rfl).mono ?_;rintro e w' ⟨rfl,rfl⟩)|(go_at_call 56;refine(LH _ _ _ _ (hS _) (by with_reducible assumption)).mono ?_;rintro e w' ⟨rfl,hq2⟩;obtain⟨y,rfl⟩:=Wd.next _ hq2;clear hq2)|(go_at_call 203;refine(ac9 _ _ _).mono ?_;rintro e w' ⟨rfl,hq2⟩;obtain⟨y,rfl⟩:=Wd.next _ hq2;clear hq2)|(go_at_call 204;refine(adb _ _ _ _).mono ?_;rintro e w' ⟨rfl,hq2⟩;obtain⟨y,rfl⟩:=Wd.next _ hq2;clear hq2))
 all_goals
  go_ret
  refine⟨?_,Q.trans hq1 (Wd.q _)⟩
  simp_all[ER,EP,LK,ada,toList_nil]
 all_goals (intro h;simp_all)
theorem Jt(a:ak)(w:World)(hI:bU w a):Calls Tryz.prog 172 #[.agg (au a)] w fun e w'=>e= .returned (.bool (Ls a))/\Q w w':=by
 obtain⟨w1,x,hx,hq1,hA⟩:=jm.box w a 37
 have c7:=hA.get 7 rfl
 have c8:=hA.get 8 rfl
 have c9:=hA.get 9 rfl
 have c14:=hA.get 14 rfl
 have hL:=hA.load
 have hS':∀y:Wd w1,bU y.w a:=fun y=>hI.q (Q.trans hq1 y.q)
 have hS:∀y:Wd w1,Strs y.w a.toA a.to:=fun y=>(hS' y).to
 have hlen:a.to.length<=9223372036854775807:=hI.Bl
 clear hA
 cases g0:Dz a.scope a.group<;>cases g1:eU a.epoch 0 1073741824<;>cases g2:kG a.to
 all_goals
  go_enter Tryz.func172,Tryz.ntmps172
  go_wp2_with (first|(go_at_call 112;refine(DK _ _ _ _ _ rfl).mono ?_;rintro e w' ⟨rfl,rfl⟩)|(go_at_call 56;refine(LH _ _ _ _ (hS _) (by with_reducible assumption)).mono ?_;rintro e w' ⟨rfl,hq2⟩;obtain⟨y,rfl⟩:=Wd.next _ hq2;clear hq2)|(go_at_call 203;refine(ac9 _ _ _).mono ?_;rintro e w' ⟨rfl,hq2⟩;obtain⟨y,rfl⟩:=Wd.next _ hq2;clear hq2)|(go_at_call 206;refine(ade _ _ (hS' _)).mono ?_;rintro e w' ⟨rfl,hq2⟩;obtain⟨y,rfl⟩:=Wd.next _ hq2;clear hq2)|(refine aI (.tmp 1) (hL _) ?_))
 all_goals
  go_ret
  refine⟨?_,Q.trans hq1 (Wd.q _)⟩
  simp_all[Ls]
theorem ani(a:ak)(w:World):Calls Tryz.prog 173 #[.agg (au a)] w fun e w'=>e= .returned (.bool (TG a))/\Q w w':=by
 obtain⟨w1,x,hx,hq1,hA⟩:=jm.box w a 37
 have c5:=hA.get 5 rfl
 have c6:=hA.get 6 rfl
 have c10:=hA.get 10 rfl
 have hL:=hA.load
 clear hA
 cases g0:pR a<;>cases g1:a.target.toList.isEmpty
 all_goals
  go_enter Tryz.func173,Tryz.ntmps173
  go_wp2_with (first|(go_at_call 169;refine(name_any _ _).mono ?_;rintro e w' ⟨rfl,hq2⟩;obtain⟨y,rfl⟩:=Wd.next _ hq2;clear hq2)|(go_at_call 163;refine(EX _ _).mono ?_;rintro e w' ⟨rfl,hq2⟩;obtain⟨y,rfl⟩:=Wd.next _ hq2;clear hq2)|(go_at_call 165;refine(Js _ _).mono ?_;rintro e w' ⟨rfl,hq2⟩;obtain⟨y,rfl⟩:=Wd.next _ hq2;clear hq2)|(refine aI (.tmp 1) (hL _) ?_))
 all_goals
  go_ret
  refine⟨?_,Q.trans hq1 (Wd.q _)⟩
  simp_all[TG,LK,toList_nil]
theorem XG(a:ak)(w:World)(hI:bU w a):Calls Tryz.prog 174 #[.agg (au a)] w fun e w'=>e= .returned (.bool (TI a))/\Q w w':=by
 obtain⟨w1,x,hx,hq1,hA⟩:=jm.box w a 37
 have c9:=hA.get 9 rfl
 have c16:=hA.get 16 rfl
 have c17:=hA.get 17 rfl
 have hL:=hA.load
 have hS':∀y:Wd w1,bU y.w a:=fun y=>hI.q (Q.trans hq1 y.q)
 have hS:∀y:Wd w1,Strs y.w a.toA a.to:=fun y=>(hS' y).to
 have hlen:a.to.length<=9223372036854775807:=hI.Bl
 clear hA
 by_cases g0:0<a.to.length<;>cases g1:kG a.to
 all_goals
  go_enter Tryz.func174,Tryz.ntmps174
  go_wp2_with (first|(go_at_call 112;refine(DK _ _ _ _ _ rfl).mono ?_;rintro e w' ⟨rfl,rfl⟩)|(go_at_call 205;refine(LJ _ _ _ rfl).mono ?_;rintro e w' ⟨rfl,rfl⟩)|(go_at_call 56;refine(LH _ _ _ _ (hS _) (by with_reducible assumption)).mono ?_;rintro e w' ⟨rfl,hq2⟩;obtain⟨y,rfl⟩:=Wd.next _ hq2;clear hq2)|(go_at_call 206;refine(ade _ _ (hS' _)).mono ?_;rintro e w' ⟨rfl,hq2⟩;obtain⟨y,rfl⟩:=Wd.next _ hq2;clear hq2)|(refine aI (.tmp 1) (hL _) ?_))
 all_goals
  go_ret
  refine⟨?_,Q.trans hq1 (Wd.q _)⟩
  simp_all[TI]
theorem XH(a:ak)(w:World)(hI:bU w a):Calls Tryz.prog 162 #[.agg (au a)] w fun e w'=>e= .returned (.bool (pR a&&ER a))/\Q w w':=by
 obtain⟨w1,x,hx,hq1,hA⟩:=jm.box w a 37
 have hL:=hA.load
 have hS':∀y:Wd w1,bU y.w a:=fun y=>hI.q (Q.trans hq1 y.q)
 have hS:∀y:Wd w1,Strs y.w a.toA a.to:=fun y=>(hS' y).to
 have hlen:a.to.length<=9223372036854775807:=hI.Bl
 clear hA
 cases g0:pR a
 all_goals
  go_enter Tryz.func162,Tryz.ntmps162
  go_wp2_with (first|(go_at_call 163;refine(EX _ _).mono ?_;rintro e w' ⟨rfl,hq2⟩;obtain⟨y,rfl⟩:=Wd.next _ hq2;clear hq2)|(go_at_call 164;refine(adf _ _ (hS' _)).mono ?_;rintro e w' ⟨rfl,hq2⟩;obtain⟨y,rfl⟩:=Wd.next _ hq2;clear hq2)|(refine aI (.tmp 1) (hL _) ?_))
 all_goals
  go_ret
  refine⟨?_,Q.trans hq1 (Wd.q _)⟩
  simp_all
theorem adg(a:ak)(w:World):Calls Tryz.prog 166 #[.agg (au a)] w fun e w'=>e= .returned (.bool (pR a&&tN a.text))/\Q w w':=by
 obtain⟨w1,x,hx,hq1,hA⟩:=jm.box w a 37
 have c10:=hA.get 10 rfl
 have hL:=hA.load
 clear hA
 go_enter Tryz.func166,Tryz.ntmps166
 go_wp2_with (first|(go_at_call 163;refine(EX _ _).mono ?_;rintro e w' ⟨rfl,hq2⟩;obtain⟨y,rfl⟩:=Wd.next _ hq2;clear hq2)|(go_at_call 167;refine(TU _ _ _ rfl).mono ?_;rintro e w' ⟨rfl,rfl⟩)|(refine aI (.tmp 1) (hL _) ?_))
 all_goals
  go_ret
  refine⟨?_,Q.trans hq1 (Wd.q _)⟩
  simp_all
theorem anj(a:ak)(w:World):Calls Tryz.prog 168 #[.agg (au a)] w fun e w'=>e= .returned (.bool (nameB a.text&&Jl a))/\Q w w':=by
 obtain⟨w1,x,hx,hq1,hA⟩:=jm.box w a 37
 have c10:=hA.get 10 rfl
 have hL:=hA.load
 clear hA
 cases g0:nameB a.text
 all_goals
  go_enter Tryz.func168,Tryz.ntmps168
  go_wp2_with (first|(go_at_call 169;refine(name_any _ _).mono ?_;rintro e w' ⟨rfl,hq2⟩;obtain⟨y,rfl⟩:=Wd.next _ hq2;clear hq2)|(go_at_call 170;refine(ac8 _ _).mono ?_;rintro e w' ⟨rfl,hq2⟩;obtain⟨y,rfl⟩:=Wd.next _ hq2;clear hq2)|(refine aI (.tmp 1) (hL _) ?_))
 all_goals
  go_ret
  refine⟨?_,Q.trans hq1 (Wd.q _)⟩
  simp_all
theorem ank(a:ak)(w:World)(hI:bU w a):Calls Tryz.prog 171 #[.agg (au a)] w fun e w'=>e= .returned (.bool (nameB a.group&&kG a.to))/\Q w w':=by
 obtain⟨w1,x,hx,hq1,hA⟩:=jm.box w a 37
 have c8:=hA.get 8 rfl
 have c9:=hA.get 9 rfl
 have hS':∀y:Wd w1,bU y.w a:=fun y=>hI.q (Q.trans hq1 y.q)
 have hS:∀y:Wd w1,Strs y.w a.toA a.to:=fun y=>(hS' y).to
 have hlen:a.to.length<=9223372036854775807:=hI.Bl
 clear hA
 go_enter Tryz.func171,Tryz.ntmps171
 go_wp2_with (first|(go_at_call 169;refine(name_any _ _).mono ?_;rintro e w' ⟨rfl,hq2⟩;obtain⟨y,rfl⟩:=Wd.next _ hq2;clear hq2)|(go_at_call 56;refine(LH _ _ _ _ (hS _) (by with_reducible assumption)).mono ?_;rintro e w' ⟨rfl,hq2⟩;obtain⟨y,rfl⟩:=Wd.next _ hq2;clear hq2))
 all_goals
  go_ret
  refine⟨?_,Q.trans hq1 (Wd.q _)⟩
  simp_all
theorem anl(a:ak)(w:World):Calls Tryz.prog 175 #[.agg (au a)] w fun e w'=>e= .returned (.bool (pR a&&eU a.n 0 1))/\Q w w':=by
 obtain⟨w1,x,hx,hq1,hA⟩:=jm.box w a 37
 have c16:=hA.get 16 rfl
 have hL:=hA.load
 clear hA
 go_enter Tryz.func175,Tryz.ntmps175
 go_wp2_with (first|(go_at_call 163;refine(EX _ _).mono ?_;rintro e w' ⟨rfl,hq2⟩;obtain⟨y,rfl⟩:=Wd.next _ hq2;clear hq2)|(go_at_call 112;refine(DK _ _ _ _ _ rfl).mono ?_;rintro e w' ⟨rfl,rfl⟩)|(refine aI (.tmp 1) (hL _) ?_))
 all_goals
  go_ret
  refine⟨?_,Q.trans hq1 (Wd.q _)⟩
  simp_all
theorem anm(a:ak)(w:World):Calls Tryz.prog 176 #[.agg (au a)] w fun e w'=>e= .returned (.bool (DF a&&(tN a.text&&eU a.n 0 1099511627776)))/\Q w w':=by
 obtain⟨w1,x,hx,hq1,hA⟩:=jm.box w a 37
 have c10:=hA.get 10 rfl
 have c16:=hA.get 16 rfl
 have hL:=hA.load
 clear hA
 go_enter Tryz.func176,Tryz.ntmps176
 go_wp2_with (first|(go_at_call 165;refine(Js _ _).mono ?_;rintro e w' ⟨rfl,hq2⟩;obtain⟨y,rfl⟩:=Wd.next _ hq2;clear hq2)|(go_at_call 167;refine(TU _ _ _ rfl).mono ?_;rintro e w' ⟨rfl,rfl⟩)|(go_at_call 112;refine(DK _ _ _ _ _ rfl).mono ?_;rintro e w' ⟨rfl,rfl⟩)|(refine aI (.tmp 1) (hL _) ?_))
 all_goals
  go_ret
  refine⟨?_,Q.trans hq1 (Wd.q _)⟩
  simp_all
theorem ano(b1 b2 b3 b4 b5:Bool):b1=false∨(b1=true/\b2=false)∨(b1=true/\b2=true/\b3=false)∨(b1=true/\b2=true/\b3=true/\b4=false)∨(b1=true/\b2=true/\b3=true/\b4=true/\b5=false)∨(b1=true/\b2=true/\b3=true/\b4=true/\b5=true):=by
 cases b1<;>cases b2<;>cases b3<;>cases b4<;>cases b5<;>simp
def TW(c:xM):Array Value:=c.cells.toArray
def TY(b:wO):Array Value:=b.cells.toArray
def OQ(d:oU):Array Value:=d.cells.toArray
theorem ET.q{w w':World}{d:oU}(h:ET w d)(hq:Q w w'):ET w' d:=⟨h.to.q hq,h.toC⟩
theorem ET.Bl{w:World}{d:oU}(h:ET w d):d.to.length<=9223372036854775807:=by
 have:=h.toC
 unfold maxLen at this
 omega
end Item
namespace Mem
open Go.RowKit aQ
def Bo(kd:TypeDesc)(v:Value):Prop:=(kd= .int .i64/\∃n,v= .int .i64 n)∨(kd= .string/\∃s,v= .string s)
def yL:Value->Value->Bool
 | .int _ a, .int _ b=>a==b
 | .string a, .string b=>a==b
 |_,_=>false
def nS(kd:TypeDesc)(w:World)(b:Nat)(L:List (Value×Value)):Prop:=
 (∀p∈L,Bo kd p.1)/\∃es clock,w.heap[b]?=some (.map es clock)/\es.toList.map (fun e=>(e.key,e.val))=L
def assoc(k:Value)(L:List (Value×Value)):Option Value:=(L.find? fun p=>yL k p.1).map (·.2)
theorem nS.lt{kd:TypeDesc}{w:World}{b:Nat}{L:List (Value×Value)}(h:nS kd w b L):b<w.heap.size:=by
 obtain⟨_,es,clock,hb,_⟩:=h
 exact(Array.getElem?_eq_some_iff.1 hb).1
theorem nS.q{kd:TypeDesc}{w w':World}{b:Nat}{L:List (Value×Value)}(h:nS kd w b L)(hq:Q w w'):nS kd w' b L:=by
 have hl:=h.lt
 obtain⟨h0,es,clock,hb,h1⟩:=h
 exact⟨h0,es,clock,(hq.block b hl).trans hb,h1⟩
theorem nS.made(kd:TypeDesc)(w:World):nS kd (w.alloc (.map #[] 0)) w.heap.size []:=⟨by simp,#[],0,heap_alloc_new w _,rfl⟩
theorem anp{kd:TypeDesc}{k v:Value}(hk:Bo kd k)(hv:Bo kd v):Instr.sameNow kd k v=some (yL k v):=by
 rcases hk with⟨rfl,n,rfl⟩|⟨rfl,s,rfl⟩<;>rcases hv with⟨h,m,rfl⟩|⟨h,t,rfl⟩<;>first|(simp[Instr.sameNow,yL];done)|cases h
theorem OT{kd:TypeDesc}{k:Value}(hk:Bo kd k):∀(es:List MapEntry) (L:List (Value×Value)) (i:Nat),(∀p∈L,Bo kd p.1)->es.map (fun e=>(e.key,e.val))=L->
 ∃r,Instr.findNow kd k es i=some r/\r.map (·.2)=assoc k L/\∀j v,r=some (j,v)->i<=j/\∃e,es[j-i]?=some e/\yL k e.key=true/\e.val=v:=by
 intro es
 induction es with
 |nil=>
  intro L i hL h
  subst h
  exact⟨none,rfl,rfl,fun _ _ h=>by cases h⟩
 |cons e es ih=>
  intro L i hL h
  subst h
  have he:=hL (e.key,e.val) (by simp)
  have hs:=anp hk he
  unfold Instr.findNow
  rw[hs]
  cases hq:yL k e.key with
  |true=>exact⟨some (i,e.val),rfl,by simp[assoc,hq],fun j v hj=>by cases hj;exact⟨Nat.le_refl _,e,by simp,hq,rfl⟩⟩
  |false=>
   obtain⟨r,h1,h2,h3⟩:=ih _ (i+1) (fun p hp=>hL p (by simp at hp⊢;exact .inr hp)) rfl
   refine⟨r,h1,by rw[h2];simp[assoc,hq],fun j v hj=> ?_⟩
   obtain⟨h4,e',h5,h6⟩:=h3 j v hj
   refine⟨by omega,e',?_,h6⟩
   rw[show j-i=(j-(i+1))+1 by omega]
   exact h5
theorem OU{P:Program}{kt:TypeId}{kd:TypeDesc}{k:Value}(hu:P.underlying kt=some kd){w:World}{es:List MapEntry}{r:Option (Nat×Value)}(h:Instr.findNow kd k es 0=some r):(Instr.findKey kt k es).run P w= .ok r w:=by
 unfold Instr.findKey
 simp only[Sem.run_bind,run_underlying hu w,Result.andThen_ok,h,Sem.run_pure]
theorem OV{P:Program}{kt:TypeId}{kd:TypeDesc}{k:Value}(hu:P.underlying kt=some kd)(hk:Bo kd k){w:World}(b:Bool):(Instr.checkKey b 10000 kt k).run P w= .ok () w:=by
 rw[show(10000:Nat)=9999+1 from rfl]
 unfold Instr.checkKey
 rcases hk with⟨rfl,n,rfl⟩|⟨rfl,s,rfl⟩<;>simp only[Sem.run_bind,run_underlying hu w,Result.andThen_ok,Sem.run_pure]
theorem nS.insert{P:Program}{t kt et:TypeId}{kd:TypeDesc}{w:World}{b:Nat}{L:List (Value×Value)}(h:nS kd w b L)(ht:P.underlying t=some (.map kt et))(hu:P.underlying kt=some kd){k v:Value}(hk:Bo kd k)(hn:assoc k L=none):
 ∃w',(Instr.mapUpdate t (.map (some b)) k v).run P w= .ok () w'/\nS kd w' b (L++[(k,v)])/\w'.heap.size=w.heap.size/\(∀B,B<=b->Below B w w')/\∀g,g≠b->w'.heap[g]?=w.heap[g]?:=by
 have hlt:=h.lt
 obtain⟨h0,es,clock,hb,h1⟩:=h
 obtain⟨r,h2,h3,-⟩:=OT hk es.toList L 0 h0 h1
 have hr:r=none:=by
  rw[hn]at h3
  cases r with
  |none=>rfl
  |some x=>cases h3
 subst hr
 have hA:nS kd {w with heap:=w.heap.setIfInBounds b (.map (es.push {key:=k,val:=v,born:=clock}) (clock+1))} b (L++[(k,v)]):=by
  refine And.intro (fun p hp=> ?_) ⟨es.push {key:=k,val:=v,born:=clock},clock+1,?_,?_⟩
  ·rcases List.mem_append.1 hp with hp|hp
   ·exact h0 p hp
   ·rw[List.mem_singleton]at hp
    subst hp
    exact hk
  ·simp[Array.getElem?_setIfInBounds,hlt]
  ·simp[h1]
 refine⟨{w with heap:=w.heap.setIfInBounds b (.map (es.push {key:=k,val:=v,born:=clock}) (clock+1))},?_,hA,by simp,?_,?_⟩
 ·unfold Instr.mapUpdate
  simp only[Sem.run_bind,run_underlying ht w,Result.andThen_ok,getObj,setObj,Sem.run,hb,OV hu hk,OU hu h2]
 ·intro B hB
  refine⟨rfl,rfl,rfl,by simp,fun g hg=> ?_⟩
  simp[Array.getElem?_setIfInBounds]
  omega
 ·intro g hg
  simp[Array.getElem?_setIfInBounds,Ne.symm hg]
theorem nS.lookup{P:Program}{t kt et:TypeId}{kd:TypeDesc}{w:World}{b:Nat}{L:List (Value×Value)}(h:nS kd w b L)(ht:P.underlying t=some (.map kt et))(hu:P.underlying kt=some kd){k v:Value}(hk:Bo kd k)(hv:assoc k L=some v)(ok:Bool):
 (Instr.lookup t (.map (some b)) k ok).run P w= .ok (if ok then .tuple #[v, .bool true]else v) w:=by
 obtain⟨h0,es,clock,hb,h1⟩:=h
 obtain⟨r,h2,h3,-⟩:=OT hk es.toList L 0 h0 h1
 rw[hv]at h3
 obtain⟨⟨j,v'⟩,rfl,rfl⟩:=Option.map_eq_some_iff.1 h3
 unfold Instr.lookup
 simp only[Sem.run_bind,run_underlying ht w,Result.andThen_ok,getObj,Sem.run_pure,Sem.run,hb,OV hu hk,OU hu h2,Sem.run_pure]
theorem nS.miss{P:Program}{t kt et:TypeId}{kd:TypeDesc}{w:World}{b:Nat}{L:List (Value×Value)}(h:nS kd w b L)(ht:P.underlying t=some (.map kt et))(hu:P.underlying kt=some kd){k z:Value}(hk:Bo kd k)(hv:assoc k L=none)
 (hz:∀w,(zeroValue et).run P w= .ok z w) (ok:Bool):(Instr.lookup t (.map (some b)) k ok).run P w= .ok (if ok then .tuple #[z, .bool false]else z) w:=by
 obtain⟨h0,es,clock,hb,h1⟩:=h
 obtain⟨r,h2,h3,-⟩:=OT hk es.toList L 0 h0 h1
 rw[hv]at h3
 have hr:r=none:=by
  cases r with
  |none=>rfl
  |some x=>cases h3
 subst hr
 unfold Instr.lookup
 simp only[Sem.run_bind,run_underlying ht w,Result.andThen_ok,getObj,Sem.run_pure,Sem.run,hb,OV hu hk,OU hu h2,hz,Sem.run_pure]
end Mem
namespace Item
open Go.RowKit aQ Mem _root_.Go.Proofs.YtbemmjnjoabadaaGreatDoor.Code aY Sign
abbrev uM(f:FuncId):Value:= .func (.func f) #[] #[]
abbrev lX(m:Int)(f:FuncId):Value:= .agg #[.int .i64 m,uM f]
abbrev kI(n:Int):Value:= .int .i64 n
def DL:List (Value×Value):=
 [(kI 0,lX 1568 168),(kI 1,lX 252 164),(kI 2,lX 253 162),(kI 3,lX 253 162),(kI 14,lX 253 162),
   (kI 4,lX 1 163),(kI 5,lX 1 163),(kI 6,lX 1 163),(kI 13,lX 1 163),(kI 20,lX 1 163),
   (kI 7,lX 2 165),(kI 8,lX 2 165),(kI 9,lX 2 165),(kI 10,lX 2 165),(kI 11,lX 2 165),
   (kI 12,lX 33 166),(kI 21,lX 33 166),(kI 15,lX 24 171),(kI 16,lX 412 172),(kI 17,lX 35 173),
   (kI 18,lX 1536 170),(kI 19,lX 1808 174),(kI 22,lX 513 175),(kI 23,lX 546 176)]
structure GY(w0 w:World)(n:Nat):Prop where
 below:Below w0.heap.size w0 w
 map:nS (.int .i64) w (w0.heap.size+1+1+1+1) (DL.take n)
 b1:ah w w0.heap.size 175 #[.int .i64 253,uM 162]
 b2:ah w (w0.heap.size+1) 175 #[.int .i64 1,uM 163]
 b3:ah w (w0.heap.size+1+1) 175 #[.int .i64 2,uM 165]
 b4:ah w (w0.heap.size+1+1+1) 175 #[.int .i64 33,uM 166]
theorem GY.cells{w0 w:World}{n:Nat}(h:GY w0 w n):
 w.cell? ⟨w0.heap.size,0,none⟩=some (.int .i64 253)/\w.cell? ⟨w0.heap.size,1,none⟩=some (uM 162)/\w.cell? ⟨w0.heap.size+1,0,none⟩=some (.int .i64 1)/\w.cell? ⟨w0.heap.size+1,1,none⟩=some (uM 163)/\
 w.cell? ⟨w0.heap.size+1+1,0,none⟩=some (.int .i64 2)/\w.cell? ⟨w0.heap.size+1+1,1,none⟩=some (uM 165)/\w.cell? ⟨w0.heap.size+1+1+1,0,none⟩=some (.int .i64 33)/\w.cell? ⟨w0.heap.size+1+1+1,1,none⟩=some (uM 166):=
 ⟨h.b1.cell 0,h.b1.cell 1,h.b2.cell 0,h.b2.cell 1,h.b3.cell 0,h.b3.cell 1,h.b4.cell 0,h.b4.cell 1⟩
theorem GY.start(w:World):GY w (((((w.alloc (.cells #[.int .i64 253,uM 162] 175)).alloc (.cells #[.int .i64 1,uM 163] 175)).alloc (.cells #[.int .i64 2,uM 165] 175)).alloc (.cells #[.int .i64 33,uM 166] 175)).alloc (.map #[] 0)) 0:=by
 refine⟨?_,?_,?_,?_,?_,?_⟩
 ·exact(((((Below.refl _ _).alloc (Nat.le_refl _) _).alloc (by simp) _).alloc (by simp;omega) _).alloc (by simp;omega) _).alloc (by simp;omega) _
 ·have:=nS.made (.int .i64) ((((w.alloc (.cells #[.int .i64 253,uM 162] 175)).alloc (.cells #[.int .i64 1,uM 163] 175)).alloc (.cells #[.int .i64 2,uM 165] 175)).alloc (.cells #[.int .i64 33,uM 166] 175))
  simpa using this
 ·exact((((ah.new w _ _).alloc _).alloc _).alloc _).alloc _
 ·exact(((ah.new' _ _ _ (by simp)).alloc _).alloc _).alloc _
 ·exact((ah.new' _ _ _ (by simp)).alloc _).alloc _
 ·exact(ah.new' _ _ _ (by simp)).alloc _
theorem anq{ops:Array Oper}{rest:List Oper}{o:Oper}{a:Act}{w0 w:World}{K:Exit->Act->World->Prop}{n:Nat}(hS:GY w0 w n)(t:TypeId)(m x:Operand)(k:Int)(v:Value)(ho:o.op= .insert t m (.const (.int .i64 k)) x)(hg:o.guard=none)
 (hn:DL[n]?=some (kI k,v)) (hm:a.eval m= .map (some (w0.heap.size+1+1+1+1))) (hx:a.eval x=v) (ht:t=177) (hd:assoc (kI k) (DL.take n)=none)
 (h:∀w',GY w0 w' (n+1)->wpList Tryz.prog ops K rest (a.put o.dst undef) w'):wpList Tryz.prog ops K (o::rest) a w:=by
 subst ht
 obtain⟨w',h1,h2,h3,h4,h5⟩:=hS.map.insert (P:=Tryz.prog) (k:=kI k) (v:=v) Tryz.underlying177 Tryz.underlying3 (.inl ⟨rfl,k,rfl⟩) hd
 have hl:n<DL.length:=by
  rcases Nat.lt_or_ge n DL.length with h|h
  ·exact h
  ·rw[List.getElem?_eq_none h]at hn;cases hn
 have hb:∀{g:Nat} {cs:Array Value},g<w0.heap.size+1+1+1+1->ah w g 175 cs->ah w' g 175 cs:=fun hg hb=>(h5 _ (by omega)).trans hb
 have hS':GY w0 w' (n+1):=by
  refine⟨hS.below.trans (h4 _ (by omega)),?_,hb (by omega) hS.b1,hb (by omega) hS.b2,hb (by omega) hS.b3,hb (by omega) hS.b4⟩
  rw[List.take_succ_eq_append_getElem hl]
  rw[List.getElem?_eq_getElem hl]at hn
  rw[Option.some.inj hn]
  exact h2
 refine wpList_step fun K' hK=> ?_
 rw[if_pos (by unfold Region.wanted;rw[hg])]
 unfold Oper.wp execOp
 have hk:a.eval (.const (.int .i64 k))=kI k:=rfl
 simp only[ho,hm,hx,hk,Sem.run_bind,h1,Result.andThen_ok,Sem.run_pure]
 exact hK _ _ (h w' hS')
theorem Ua(w:World):Calls Tryz.prog 113 #[] w fun e w'=>∃b,e= .returned (.map (some b))/\nS (.int .i64) w' b DL/\Q w w':=by
 have hS:=GY.start w
 have hmm:= @run_makeMap Tryz.prog
 go_enter Tryz.func113,Tryz.ntmps113
 go_wp2_with (refine anq hS _ (.tmp 9) _ _ _ rfl rfl rfl rfl rfl rfl rfl ?_;clear hS;intro w' hS;obtain⟨c1,c2,c3,c4,c5,c6,c7,c8⟩:=hS.cells)
 go_ret
 exact⟨_,rfl,hS.map,hS.below⟩
theorem anr(n:Int):(n==0)=decide (n=0):=by
 by_cases h:n=0<;>simp[h]
structure zZ(w0 w:World)(a:ak)(s:Int):Prop where
 below:Below w0.heap.size w0 w
 act:w.rangeAt w0.heap.size 0 a.cells
 set:ah w (w0.heap.size+1) 3 #[.int .i64 s]
theorem zZ.cell{w0 w:World}{a:ak}{s:Int}(h:zZ w0 w a s)(j:Nat){v:Value}(hv:a.cells[j]?=some v):w.cell? ⟨w0.heap.size,j,none⟩=some v:=by
 have:=h.act j v hv
 rwa[Nat.zero_add]at this
theorem zZ.cells{w0 w:World}{a:ak}{s:Int}(h:zZ w0 w a s):
 w.cell? ⟨w0.heap.size,5,none⟩=some (.string a.object)/\w.cell? ⟨w0.heap.size,6,none⟩=some (.string a.target)/\w.cell? ⟨w0.heap.size,7,none⟩=some (.int .i64 a.scope)/\w.cell? ⟨w0.heap.size,8,none⟩=some (.string a.group)/\
 w.cell? ⟨w0.heap.size,9,none⟩=some (.slice a.toA a.to.length a.toC)/\w.cell? ⟨w0.heap.size,10,none⟩=some (.string a.text)/\w.cell? ⟨w0.heap.size,11,none⟩=some (.string a.bn)/\w.cell? ⟨w0.heap.size,12,none⟩=some (.string a.bd)/\w.cell? ⟨w0.heap.size,13,none⟩=some (.string a.bt)/\
 w.cell? ⟨w0.heap.size,14,none⟩=some (.int .i64 a.epoch)/\w.cell? ⟨w0.heap.size,15,none⟩=some (.slice a.gy a.wraps.length a.dF)/\w.cell? ⟨w0.heap.size,16,none⟩=some (.int .i64 a.n)/\w.cell? ⟨w0.heap.size,17,none⟩=some (.int .i64 a.m)/\w.cell? ⟨w0.heap.size+1,0,none⟩=some (.int .i64 s):=
 ⟨h.cell 5 rfl,h.cell 6 rfl,h.cell 7 rfl,h.cell 8 rfl,h.cell 9 rfl,h.cell 10 rfl,h.cell 11 rfl,h.cell 12 rfl,h.cell 13 rfl,h.cell 14 rfl,h.cell 15 rfl,h.cell 16 rfl,h.cell 17 rfl,h.set.cell 0⟩
theorem zZ.start(w:World)(a:ak):zZ w ((w.alloc (.cells (au a) 37)).alloc (.cells #[.int .i64 0] 3)) a 0:=
 ⟨((Below.refl _ _).alloc (Nat.le_refl _) _).alloc (by simp) _,ah.range ((ah.new w 37 a.cells.toArray).alloc _),ah.new' _ _ _ (by simp)⟩
theorem zZ.put{w0 w:World}{a:ak}{s:Int}(h:zZ w0 w a s)(n:Int):zZ w0 (w.setCell ⟨w0.heap.size+1,0,none⟩ (.int .i64 n)) a n:=
 ⟨h.below.setCell (by simp) _,fun j v hv=>by
   rw[World.cell?_setCell_far _ _ _ _ (by simp)]
   exact h.act j v hv,h.set.Dq 0 _⟩
theorem note_any{w0 w:World}{a:ak}{s:Int}(h:zZ w0 w a s)(f:Int)(z:Bool):
 Calls Tryz.prog 177 #[.int .i64 f, .bool z, .pointer (some ⟨w0.heap.size+1,0,none⟩)] w fun e w'=>e= .returned (.tuple #[])/\zZ w0 w' a (dQ s f z):=by
 have c:=h.set.cell 0
 have fz:=h.set.frozen 0
 cases z
 ·have hp:=h.put (bits .or .i64 s f)
  go_enter Tryz.func177,Tryz.ntmps177
  go_wp2
  go_end0
  exact⟨rfl,hp⟩
 ·go_enter Tryz.func177,Tryz.ntmps177
  go_wp2
  go_end0
  exact⟨rfl,h⟩
theorem XI(a:ak)(w:World):Calls Tryz.prog 114 #[.agg (au a)] w fun e w'=>e= .returned (.int .i64 (wQ a))/\Q w w':=by
 have hU:=zZ.start w a
 obtain⟨c1,c2,c3,c4,c5,c6,c7,c8,c9,c10,c11,c12,c13,c14⟩:=hU.cells
 have hB:=ac7
 go_enter Tryz.func114,Tryz.ntmps114
 go_wp2_with (go_at_call 177;refine(note_any hU _ _).mono ?_;clear hU c1 c2 c3 c4 c5 c6 c7 c8 c9 c10 c11 c12 c13 c14;rintro e w' ⟨rfl,hU⟩;obtain⟨c1,c2,c3,c4,c5,c6,c7,c8,c9,c10,c11,c12,c13,c14⟩:=hU.cells)
 go_ret
 refine⟨?_,hU.below⟩
 simp only[wQ,EP,<-LK,<-ada,<-anr]
 rfl
end Item
end Go.Proofs.YtbemmjnjoabadaaGreatDoor
