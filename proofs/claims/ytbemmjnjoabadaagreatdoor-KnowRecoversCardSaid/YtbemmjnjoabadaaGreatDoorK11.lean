/- part 11 -/
import Derived.Deep.Cut
import Derived.Test.YtbemmjnjoabadaaGreatDoorK10
import Derived.Test.YtbemmjnjoabadaaGreatDoorK08
set_option linter.unusedVariables false
set_option linter.unusedSimpArgs false
set_option maxHeartbeats 8000000
set_option maxRecDepth 100000
namespace Go.Proofs.YtbemmjnjoabadaaGreatDoor
namespace Item
open Go.RowKit aQ Mem _root_.Go.Proofs.YtbemmjnjoabadaaGreatDoor.Code aY Sign
theorem boxed(w:World)(t:TypeId)(cs:List Value):∃(w1:World) (x:Wd w1),w.alloc (.cells cs.toArray t)=x.w/\Q w w1/\w.heap.size<w1.heap.size/\w1.rangeAt w.heap.size 0 cs:=
 ⟨_,⟨_,Q.refl _⟩,rfl,aO w _ t,(ah.new w t cs.toArray).lt,ah.range (ah.new w t cs.toArray)⟩
theorem pK(s:ByteArray):(aZ s).size<=s.size+10:=by
 unfold aZ
 rw[tK]
 exact vN s
theorem Ug(s:ByteArray):(aZ s).data.toList=gZ s:=rY _
theorem OZ(n d t:ByteArray)(w:World)(h:n.size+d.size+t.size<=140737488355000):Calls Tryz.prog 129 #[.agg #[.string n, .string d, .string t]] w fun e w'=>e= .returned (.string ⟨(wR n d t).toArray⟩)/\Q w w':=by
 obtain⟨w1,x,hx,hq1,hlt,hr⟩:=boxed w 32 [.string n, .string d, .string t]
 have c0:=Wd.at0 hlt hr 0 rfl
 have c1:=Wd.at0 hlt hr 1 rfl
 have c2:=Wd.at0 hlt hr 2 rfl
 have z0:=pK n
 have z1:=pK d
 have z2:=pK t
 have a1:(aZ n).size+(aZ d).size<=9223372036854775807:=by omega
 have a2:(aZ n).size+(aZ d).size+(aZ t).size<=9223372036854775807:=by omega
 have HR:Hid ((aZ n++aZ d)++aZ t=⟨(wR n d t).toArray⟩):=Lib.hid (by
  apply Bc
  rw[Bd,Bd,Ug,Ug,Ug,rY,wR,List.append_assoc])
 go_enter Tryz.func129,Tryz.ntmps129
 go_wp2
 refine kJ x (by kernel_rfl) (by kernel_rfl) ?_
 repeat(go_big_quiet_step (exact Wd.call _ (kY _ _ (by omega))))
 refine wpQuiet_nil ?_
 rintro w'' ⟨z,rfl⟩
 go_wp2
 go_ret
 exact⟨by rw[<-HR.out];rfl,Q.trans hq1 z.q⟩
theorem XQ{α:Type}(f:α->List UInt8)(B:Nat):∀l:List α,(∀x∈l,(f x).length<=B)->(l.flatMap f).length<=l.length*B:=by
 intro l
 induction l with
 |nil=>intro _;simp
 |cons a l ih=>
  intro h
  rw[List.flatMap_cons,List.length_append,List.length_cons,Nat.succ_mul]
  have h1:=h a (by simp)
  have h2:=ih fun x hx=>h x (by simp[hx])
  omega
theorem adk(l:List ByteArray)(B:Nat)(h:∀s∈l,s.size<=B):(lF l).length<=10+l.length*(B+10):=by
 unfold lF
 rw[List.length_append]
 have h1:=Og l.length
 have h2:=XQ gZ (B+10) l fun s hs=>by have:=vN s;have:=h s hs;omega
 omega
theorem Ad(n:Int):(fV n).length<=10:=by
 unfold fV
 rw[ny]
 exact iI n
theorem Uh(n d t:ByteArray):(wR n d t).length<=n.size+d.size+t.size+30:=by
 unfold wR
 rw[List.length_append,List.length_append]
 have h1:=vN n
 have h2:=vN d
 have h3:=vN t
 omega
theorem adl(v:bQ)(h:oH v=true):(DI v).length<=600:=by
 unfold DI
 rw[List.length_append,List.length_append]
 have h1:=Ad v.to
 have h2:=Ad v.lV
 have h3:=Uh v.n v.d v.t
 simp only[oH,Bool.and_eq_true]at h
 have h4:=XO h.2.2
 omega
theorem anG(l:List ByteArray):(Dp l).size=(lF l).length:=tK _
theorem adn(n d t:ByteArray):(⟨(wR n d t).toArray⟩:ByteArray).size=(wR n d t).length:=tK _
theorem Ui(n:Int):(aU n).data.toList=fV n:=rfl
theorem anH(l:List ByteArray):(Dp l).data.toList=lF l:=rY _
theorem anI(a:ak)(w:World)(hI:bU w a)(h:bT a=false):Calls Tryz.prog 80 #[.agg (au a)] w fun e w'=>e= .returned (.string (jP a))/\Q w w':=by
 obtain⟨w1,x,hx,hq1,hA⟩:=jm.box w a 37
 have hL:=hA.load
 have HR:Hid (jP a=⟨#[]⟩):=Lib.hid (by unfold jP;rw[h];rfl)
 clear hA
 go_enter Tryz.func80,Tryz.ntmps80
 go_wp2_with (first|(refine aI (.tmp 1) (hL _) ?_)|(go_at_call 66;refine(EY _ _ (hI.q (Q.trans hq1 (Wd.q _)))).mono ?_;rintro e w' ⟨rfl,hq2⟩;obtain⟨y,rfl⟩:=Wd.next _ hq2;clear hq2))
 go_ret
 exact⟨by rw[HR.out];rfl,Q.trans hq1 (Wd.q _)⟩
theorem anJ(a:ak)(w:World)(hI:bU w a)(h:bT a=true):Calls Tryz.prog 80 #[.agg (au a)] w fun e w'=>e= .returned (.string (jP a))/\Q w w':=by
 have sm:=wX h
 obtain⟨w1,x,hx,hq1,hA⟩:=jm.box w a 37
 have hL:=hA.load
 have HR:Hid (jP a=⟨(ES a).toArray⟩):=Lib.hid (by unfold jP;rw[h];rfl)
 have c0:=hA.get 0 rfl
 have c1:=hA.get 1 rfl
 have c2:=hA.get 2 rfl
 have c3:=hA.get 3 rfl
 have c4:=hA.get 4 rfl
 have c5:=hA.get 5 rfl
 have c6:=hA.get 6 rfl
 have c7:=hA.get 7 rfl
 have c8:=hA.get 8 rfl
 have c9:=hA.get 9 rfl
 have c10:=hA.get 10 rfl
 have c11:=hA.get 11 rfl
 have c12:=hA.get 12 rfl
 have c13:=hA.get 13 rfl
 have c14:=hA.get 14 rfl
 have c15:=hA.get 15 rfl
 have c16:=hA.get 16 rfl
 have c17:=hA.get 17 rfl
 have hI':∀y:Wd w1,bU y.w a:=fun y=>hI.q (Q.trans hq1 y.q)
 have b0:(aZ xO).size<=20:=Nat.le_trans (pK xO) (by decide)
 have b1:=pK a.author
 have b2:=iI a.seq
 have b3:=pK a.prev
 have q0:=sm.seq
 have q1:=sm.author
 have q2:=sm.prev
 have f1:(aZ xO).size+(aZ a.author).size<=9223372036854775807:=by omega
 have f2:(aZ xO).size+(aZ a.author).size+(aU a.seq).size<=9223372036854775807:=by omega
 have f3:(aZ xO).size+(aZ a.author).size+(aU a.seq).size+(aZ a.prev).size<=9223372036854775807:=by omega
 clear hA
 go_enter Tryz.func80,Tryz.ntmps80
 go_wp2_with (first|(refine aI (.tmp 1) (hL _) ?_)|(go_at_call 66;refine(EY _ _ (hI' _)).mono ?_;rintro e w' ⟨rfl,hq2⟩;obtain⟨y,rfl⟩:=Wd.next _ hq2;clear hq2))
 refine kJ y (by kernel_rfl) (by kernel_rfl) ?_
 repeat(go_big_quiet_step (first|(go_at_call 60;exact Wd.call _ (kM _ _ (by omega)))|(go_at_call 59;exact Wd.call _ (kY _ _ (by omega)))|(go_at_call 128;exact Wd.call _ (Oi _ _ _ _ (hI' _).to (by omega) (by omega)))|(go_at_call 129;exact Wd.call _ (OZ _ _ _ _ (by omega)))|exact Wd.call _ (kY xO _ (by decide))))
 refine wpQuiet_nil ?_
 rintro w'' ⟨y3,rfl⟩
 clear f1 f2 f3
 generalize hS3:((aZ xO++aZ a.author)++aU a.seq)++aZ a.prev=S3
 have s3:S3.size<=200:=by rw[<-hS3];simp only[ByteArray.size_append];omega
 have H3:=Lib.hid hS3
 clear hS3 b0 b1 b2 b3
 have b4:=iI a.kind
 have b5:=iI a.time
 have b6:=pK a.object
 have b7:=pK a.target
 have q3:=sm.object
 have q4:=sm.target
 have q5:=sm.kind
 have q6:=sm.time
 have g0:(aU a.kind).size+(aU a.time).size<=9223372036854775807:=by omega
 have g1:(aU a.kind).size+(aU a.time).size+(aZ a.object).size<=9223372036854775807:=by omega
 have g2:(aU a.kind).size+(aU a.time).size+(aZ a.object).size+(aZ a.target).size<=9223372036854775807:=by omega
 have g3:S3.size+((aU a.kind).size+(aU a.time).size+(aZ a.object).size+(aZ a.target).size)<=9223372036854775807:=by omega
 go_wp2
 refine kJ y3 (by kernel_rfl) (by kernel_rfl) ?_
 repeat(go_big_quiet_step (first|(go_at_call 60;exact Wd.call _ (kM _ _ (by omega)))|(go_at_call 59;exact Wd.call _ (kY _ _ (by omega)))|(go_at_call 128;exact Wd.call _ (Oi _ _ _ _ (hI' _).to (by omega) (by omega)))|(go_at_call 129;exact Wd.call _ (OZ _ _ _ _ (by omega)))|exact Wd.call _ (kY xO _ (by decide))))
 refine wpQuiet_nil ?_
 rintro w'' ⟨y4,rfl⟩
 clear g0 g1 g2 g3
 generalize hS4:S3++(((aU a.kind++aU a.time)++aZ a.object)++aZ a.target)=S4
 have s4:S4.size<=400:=by rw[<-hS4];simp only[ByteArray.size_append];omega
 have H4:=Lib.hid hS4
 clear hS4 b4 b5 b6 b7 s3
 have b8:=iI a.scope
 have b9:=pK a.group
 have b10:=adk a.to 16 sm.ids
 have anK:=anG a.to
 have b11:=pK a.text
 have q7:=sm.scope
 have q8:=sm.group
 have q9:=sm.to
 have q10:=sm.text
 have g0:(aU a.scope).size+(aZ a.group).size<=9223372036854775807:=by omega
 have g1:(aU a.scope).size+(aZ a.group).size+(Dp a.to).size<=9223372036854775807:=by omega
 have g2:(aU a.scope).size+(aZ a.group).size+(Dp a.to).size+(aZ a.text).size<=9223372036854775807:=by omega
 have g3:S4.size+((aU a.scope).size+(aZ a.group).size+(Dp a.to).size+(aZ a.text).size)<=9223372036854775807:=by omega
 go_wp2
 refine kJ y4 (by kernel_rfl) (by kernel_rfl) ?_
 repeat(go_big_quiet_step (first|(go_at_call 60;exact Wd.call _ (kM _ _ (by omega)))|(go_at_call 59;exact Wd.call _ (kY _ _ (by omega)))|(go_at_call 128;exact Wd.call _ (Oi _ _ _ _ (hI' _).to (by omega) (by omega)))|(go_at_call 129;exact Wd.call _ (OZ _ _ _ _ (by omega)))|exact Wd.call _ (kY xO _ (by decide))))
 refine wpQuiet_nil ?_
 rintro w'' ⟨y5,rfl⟩
 clear g0 g1 g2 g3
 generalize hS5:S4++(((aU a.scope++aZ a.group)++Dp a.to)++aZ a.text)=S5
 have s5:S5.size<=4000:=by rw[<-hS5];simp only[ByteArray.size_append];omega
 have H5:=Lib.hid hS5
 clear hS5 b8 b9 b10 anK b11 s4
 have b12:=Uh a.bn a.bd a.bt
 have anL:=adn a.bn a.bd a.bt
 have b13:=iI a.epoch
 have b14:=iI a.wraps.length
 have q11:=sm.body
 have q12:=sm.epoch
 have q13:=sm.wraps
 have g0:((⟨(wR a.bn a.bd a.bt).toArray⟩:ByteArray)).size+(aU a.epoch).size<=9223372036854775807:=by omega
 have g1:((⟨(wR a.bn a.bd a.bt).toArray⟩:ByteArray)).size+(aU a.epoch).size+(aU (a.wraps.length:Int)).size<=9223372036854775807:=by omega
 have g2:S5.size+(((⟨(wR a.bn a.bd a.bt).toArray⟩:ByteArray)).size+(aU a.epoch).size+(aU (a.wraps.length:Int)).size)<=9223372036854775807:=by omega
 go_wp2
 refine kJ y5 (by kernel_rfl) (by kernel_rfl) ?_
 repeat(go_big_quiet_step (first|(go_at_call 60;exact Wd.call _ (kM _ _ (by omega)))|(go_at_call 59;exact Wd.call _ (kY _ _ (by omega)))|(go_at_call 128;exact Wd.call _ (Oi _ _ _ _ (hI' _).to (by omega) (by omega)))|(go_at_call 129;exact Wd.call _ (OZ _ _ _ _ (by omega)))|exact Wd.call _ (kY xO _ (by decide))))
 refine wpQuiet_nil ?_
 rintro w'' ⟨y6,rfl⟩
 clear g0 g1 g2
 generalize hS6:S5++(((⟨(wR a.bn a.bd a.bt).toArray⟩:ByteArray)++aU a.epoch)++aU (a.wraps.length:Int))=S6
 have s6:S6.size<=5000:=by rw[<-hS6];simp only[ByteArray.size_append];omega
 have H6:=Lib.hid hS6
 clear hS6 b12 anL b13 b14 s5
 clear q0 q1 q2 q3 q4 q5 q6 q7 q8 q9 q10 q11 q12 c0 c1 c2 c3 c4 c5 c6 c7 c8 c9 c10 c11 c12 c13 c14 hL
 have hwl:=hI.TV
 go_wp2
 go_loopw [3,5,73] (fun s _ i wr=>∃(k:Nat) (z:Wd w1) (S:ByteArray),s= .string S/\i= .int .i64 k/\wr=z.w/\k<=a.wraps.length/\Hid (S.data.toList=S6.data.toList++(a.wraps.take k).flatMap DI)) (fun _ _ i _=>a.wraps.length-(intOf i).toNat)
 case atStart=>exact⟨0,y6,S6,rfl,rfl,rfl,Nat.zero_le _,Lib.hid (by simp)⟩
 case round=>
  obtain⟨k,z,S,rfl,rfl,rfl,hk,hS⟩:=hrel
  have hSz:S.size<=5000+64*600:=by
   have h1:=congrArg List.length hS.out
   rw[List.length_append,ny,ny]at h1
   have h2:=XQ DI 600 (a.wraps.take k) fun v hv=>adl v (sm.each v (List.mem_of_mem_take hv))
   rw[List.length_take]at h2
   have h3:=Nat.mul_le_mul_right 600 (show min k a.wraps.length<=64 by omega)
   omega
  by_cases hlt:k<a.wraps.length
  ·obtain⟨b,o,hwA,hb,hcell⟩:=(hI.wraps.q hq1) (by omega)
   have hv:=sm.each _ (List.getElem_mem hlt)
   have hst:(a.wraps.take (k+1)).flatMap DI=(a.wraps.take k).flatMap DI++DI a.wraps[k]:=by
    rw[List.take_succ_eq_append_getElem hlt,List.flatMap_append]
    simp
   have k0:=Wd.get (w0:=w1) hb (hcell k hlt) 0 rfl
   have k1:=Wd.get (w0:=w1) hb (hcell k hlt) 1 rfl
   have k2:=Wd.get (w0:=w1) hb (hcell k hlt) 2 rfl
   have k3:=Wd.get (w0:=w1) hb (hcell k hlt) 3 rfl
   have k4:=Wd.get (w0:=w1) hb (hcell k hlt) 4 rfl
   simp only[Nat.add_zero]at k0
   have HST:=Lib.hid hst
   clear hst hcell
   generalize a.wraps[k]=v at*
   rw[hwA]
   simp only[oH,Bool.and_eq_true]at hv
   have p1:=OY hv.1
   have p2:=OY hv.2.1
   have p3:=XO hv.2.2
   have n1:=iI v.to
   have n2:=iI v.lV
   have n3:=Uh v.n v.d v.t
   have n3':=adn v.n v.d v.t
   have g0:(aU v.to).size+(aU v.lV).size<=9223372036854775807:=by omega
   have g1:(aU v.to).size+(aU v.lV).size+(⟨(wR v.n v.d v.t).toArray⟩:ByteArray).size<=9223372036854775807:=by omega
   have g2:S.size+((aU v.to).size+(aU v.lV).size+(⟨(wR v.n v.d v.t).toArray⟩:ByteArray).size)<=9223372036854775807:=by omega
   have hb5:=ah.new z.w 115 #[.int .i64 v.to, .int .i64 v.lV, .string v.n, .string v.d, .string v.t]
   have hq5:=Q.trans z.q (aO z.w #[.int .i64 v.to, .int .i64 v.lV, .string v.n, .string v.d, .string v.t] 115)
   go_wp2
   generalize hW:z.w.alloc (.cells #[.int .i64 v.to, .int .i64 v.lV, .string v.n, .string v.d, .string v.t] 115)=W at hb5 hq5⊢
   have e0:=aB (.int .i64 v.to) hb5 0
   have e1:=aB (.int .i64 v.lV) hb5 1
   have e2:=aB (.string v.n) hb5 2
   have e3:=aB (.string v.d) hb5 3
   have e4:=aB (.string v.t) hb5 4
   clear hW hb5 k0 k1 k2 k3 k4 hwA
   refine kJ (⟨_,Q.refl _⟩:Wd _) (by kernel_rfl) (by kernel_rfl) ?_
   repeat(go_big_quiet_step (first|(go_at_call 60;exact Wd.call _ (kM _ _ (by omega)))|(go_at_call 129;exact Wd.call _ (OZ _ _ _ _ (by omega)))))
   refine wpQuiet_nil ?_
   rintro w'' ⟨y7,rfl⟩
   go_wp2
   exact⟨⟨k+1,⟨_,Q.trans hq5 y7.q⟩,_,rfl,by go_num,rfl,by omega,Lib.hid (by rw[HST.out,Bd,Bd,Bd,hS.out];simp only[DI,Ui,List.append_assoc])⟩,by simp only[intOf];omega⟩
  ·have hks:k=a.wraps.length:=by omega
   have n1:=iI a.n
   have n2:=iI a.m
   have p1:=sm.n
   have p2:=sm.m
   have g0:S.size+(aU a.n).size<=9223372036854775807:=by omega
   have g1:S.size+(aU a.n).size+(aU a.m).size<=9223372036854775807:=by omega
   have HF:Hid ((S++aU a.n)++aU a.m=jP a):=Lib.hid (by
    have h1:=hS.out
    rw[hks,List.take_length]at h1
    rw[HR.out]
    apply Bc
    rw[Bd,Bd,h1,<-H6.out,<-H5.out,<-H4.out,<-H3.out,rY]
    simp only[Bd,Ug,Ui,anH,rY,ES,List.append_assoc])
   clear hks hS
   go_wp2
   refine kJ z (by kernel_rfl) (by kernel_rfl) ?_
   repeat(go_big_quiet_step ((go_at_call 60;exact Wd.call _ (kM _ _ (by omega)))))
   refine wpQuiet_nil ?_
   rintro w'' ⟨y7,rfl⟩
   go_wp2
   go_ret
   exact⟨by rw[<-HF.out];rfl,Q.trans hq1 y7.q⟩
theorem XR(a:ak)(w:World)(hI:bU w a):Calls Tryz.prog 80 #[.agg (au a)] w fun e w'=>e= .returned (.string (jP a))/\Q w w':=by
 cases h:bT a
 ·exact anI a w hI h
 ·exact anJ a w hI h
theorem anM(a:ak):0<(ES a).length:=by
 unfold ES
 rw[List.length_append]
 have:0<(gZ xO).length:=by decide
 omega
theorem XT(a:ak)(h:bT a=true):(ES a).length<=60000:=by
 have sm:=wX h
 unfold ES
 simp only[List.length_append]
 have t0:(gZ xO).length<=20:=Nat.le_trans (vN xO) (by decide)
 have t1:=vN a.author
 have t2:=vN a.prev
 have t3:=vN a.object
 have t4:=vN a.target
 have t5:=vN a.group
 have t6:=vN a.text
 have t7:=adk a.to 16 sm.ids
 have t8:=Uh a.bn a.bd a.bt
 have t9:=XQ DI 600 a.wraps fun v hv=>adl v (sm.each v hv)
 have n0:=Ad a.seq
 have n1:=Ad a.kind
 have n2:=Ad a.time
 have n3:=Ad a.scope
 have n4:=Ad a.epoch
 have n5:=Ad a.wraps.length
 have n6:=Ad a.n
 have n7:=Ad a.m
 have s1:=sm.author
 have s2:=sm.prev
 have s3:=sm.object
 have s4:=sm.target
 have s5:=sm.group
 have s6:=sm.text
 have s7:=sm.to
 have s8:=sm.body
 have s9:=sm.wraps
 omega
theorem anN(a:ak):(jP a).toList.isEmpty= !bT a:=by
 unfold jP
 cases h:bT a
 ·rw[if_neg Bool.false_ne_true,ByteArray.toList_eq];rfl
 ·rw[if_pos rfl,ByteArray.toList_eq,rY]
  have:=anM a
  cases hl:ES a with
  |nil=>rw[hl]at this;cases this
  |cons x r=>rfl
theorem anO(a:ak)(w:World)(hI:bU w a):Calls Tryz.prog 185 #[.agg (au a)] w fun e w'=>e= .returned (.string (xP a))/\Q w w':=by
 obtain⟨w1,x,hx,hq1,hA⟩:=jm.box w a 37
 have hL:=hA.load
 have c18:=hA.get 18 rfl
 have c19:=hA.get 19 rfl
 have hem:=anN a
 clear hA
 cases h:bT a
 ·rw[h]at hem
  have HR:Hid (xP a=⟨#[]⟩):=Lib.hid (by unfold xP;rw[h];rfl)
  clear h
  go_enter Tryz.func185,Tryz.ntmps185
  go_wp2_with (first|(refine aI (.tmp 1) (hL _) ?_)|(go_at_call 80;refine(XR _ _ (hI.q (Q.trans hq1 (Wd.q _)))).mono ?_;rintro e w' ⟨rfl,hq2⟩;obtain⟨y,rfl⟩:=Wd.next _ hq2;clear hq2))
  go_ret
  exact⟨by rw[HR.out];rfl,Q.trans hq1 (Wd.q _)⟩
 ·rw[h]at hem
  have sm:=wX h
  have p1:=sm.e
  have p2:=sm.s
  have hsz:(jP a).size<=60000:=by unfold jP;rw[h,if_pos rfl,tK];exact XT a h
  have HR:Hid ((jP a++aU a.e)++aU a.s=xP a):=Lib.hid (by
   unfold xP jP
   rw[h,if_pos rfl,if_pos rfl]
   apply Bc
   rw[Bd,Bd,rY,rY,Ui,Ui,List.append_assoc])
  have n1:=iI a.e
  have n2:=iI a.s
  have g0:(jP a).size+(aU a.e).size<=9223372036854775807:=by omega
  have g1:(jP a).size+(aU a.e).size+(aU a.s).size<=9223372036854775807:=by omega
  clear h sm
  go_enter Tryz.func185,Tryz.ntmps185
  go_wp2_with (first|(refine aI (.tmp 1) (hL _) ?_)|(go_at_call 80;refine(XR _ _ (hI.q (Q.trans hq1 (Wd.q _)))).mono ?_;rintro e w' ⟨rfl,hq2⟩;obtain⟨y,rfl⟩:=Wd.next _ hq2;clear hq2))
  refine kJ _ (by kernel_rfl) (by kernel_rfl) ?_
  repeat(go_big_quiet_step ((go_at_call 60;exact Wd.call _ (kM _ _ (by omega)))))
  refine wpQuiet_nil ?_
  rintro w'' ⟨y7,rfl⟩
  go_wp2
  go_ret
  exact⟨by rw[<-HR.out];rfl,Q.trans hq1 y7.q⟩
end Item
namespace Mem
open Go.RowKit aQ
def splice(cs:List Value)(o:Nat)(vs:List Value):List Value:=cs.take o++(vs++cs.drop (o+vs.length))
theorem ado(cs:List Value)(o:Nat)(v:Value)(vs:List Value)(h:o<cs.length):splice (cs.set o v) (o+1) vs=splice cs o (v::vs):=by
 unfold splice
 rw[List.length_cons,List.take_set,List.drop_set_of_lt (by omega)]
 rw[List.take_succ_eq_append_getElem h,List.set_append_right _ _ (by rw[List.length_take];omega)]
 have:o-(cs.take o).length=0:=by rw[List.length_take];omega
 rw[this]
 simp[Nat.add_assoc,Nat.add_comm 1]
theorem ah.setCells{t:TypeId}{g:Nat}:∀(vs:List Value) (o:Nat) (cs:List Value) (w:World),ah w g t cs.toArray->o+vs.length<=cs.length->ah (w.setCells g o vs) g t (splice cs o vs).toArray:=by
 intro vs
 induction vs with
 |nil=>
  intro o cs w h _
  have:splice cs o []=cs:=by simp[splice]
  rw[this]
  exact h
 |cons v vs ih=>
  intro o cs w h hl
  rw[List.length_cons]at hl
  have h1:=h.Dq o v
  have h2:ah (w.setCell ⟨g,o,none⟩ v) g t (cs.set o v).toArray:=by simpa using h1
  have:=ih (o+1) (cs.set o v) _ h2 (by rw[List.length_set];omega)
  rw[ado cs o v vs (by omega)]at this
  exact this
theorem below_setCells{g B:Nat}(hB:B<=g):∀(vs:List Value) (o:Nat) (w0 w:World),Below B w0 w->Below B w0 (w.setCells g o vs):=by
 intro vs
 induction vs with
 |nil=>intro o w0 w h;exact h
 |cons v vs ih=>intro o w0 w h;exact ih (o+1) w0 _ (h.setCell hB v)
theorem ah.there{w:World}{g:Nat}{t:TypeId}{cs:List Value}(h:ah w g t cs.toArray){o n:Nat}(hl:o+n<=cs.length):w.there g o n:=fun j hj=>by
 refine⟨?_,h.frozen _⟩
 rw[h.cell]
 simp
 omega
theorem fM{P:Program}{ops:Array Oper}{rest:List Oper}{op:Oper}{a:Act}{w:World}{K:Exit->Act->World->Prop}{g o:Nat}{t:TypeId}{cs:List Value}(hb:ah w g t cs.toArray)(hgd:op.guard=none)(ty:TypeId)(x y:Operand)(vs:List Value)(ho:op.op= .store ty x y)
 (hx:a.eval x= .pointer (some ⟨g,o,none⟩)) (hy:a.eval y= .agg vs.toArray) (hi:(P.info? ty).map (·.size)=some vs.length) (h1:vs.toArray.all (·.oneCell')=true) (hl:o+vs.length<=cs.length)
 (h:∀W,ah W g t (splice cs o vs).toArray->(∀B w0,B<=g->Below B w0 w->Below B w0 W)->wpList P ops K rest (a.put op.dst undef) W):wpList P ops K (op::rest) a w:=
 wpList_store_mid hgd ty x y ho g o vs.toArray hx hy (by simpa using hb.there hl) (by simpa using hi) h1 (by
  have:=h _ (ah.setCells vs o cs w hb hl) (fun B w0 hB hw=>below_setCells hB vs o w0 w hw)
  simpa using this)
end Mem
namespace Item
open Go.RowKit aQ Mem _root_.Go.Proofs.YtbemmjnjoabadaaGreatDoor.Code aY Sign
def jT(i:dO):Array Value:=i.cells.toArray
theorem mQ.q{w w':World}{i:dO}(h:mQ w i)(hq:Q w w'):mQ w' i:=⟨h.act.q hq,h.dec.q hq⟩
theorem Uj{w1:World}{g:Nat}{i:dO}(hl:g<w1.heap.size)(hr:w1.rangeAt g 0 i.cells):∀y:Wd w1,(Instr.loadAt 37 (.pointer (some ⟨g,1,none⟩))).run Tryz.prog y.w= .ok (.agg (au i.act)) y.w:=by
 have h:w1.rangeAt g 1 i.act.cells:=by
  have:=OB hr 1 20
  rw[Nat.zero_add]at this
  exact this
 exact Wd.load hl h Tryz.underlying37 rfl (by kernel_rfl)
theorem adp{w1:World}{g:Nat}{i:dO}(hl:g<w1.heap.size)(hr:w1.rangeAt g 0 i.cells):∀y:Wd w1,(Instr.loadAt 144 (.pointer (some ⟨g,21,none⟩))).run Tryz.prog y.w= .ok (.agg (TW i.claim)) y.w:=by
 have h:w1.rangeAt g 21 i.claim.cells:=by
  have:=OB hr 21 9
  rw[Nat.zero_add]at this
  exact this
 exact Wd.load hl h Tryz.underlying144 rfl (by kernel_rfl)
theorem adq{w1:World}{g:Nat}{i:dO}(hl:g<w1.heap.size)(hr:w1.rangeAt g 0 i.cells):∀y:Wd w1,(Instr.loadAt 146 (.pointer (some ⟨g,30,none⟩))).run Tryz.prog y.w= .ok (.agg (TY i.pO)) y.w:=by
 have h:w1.rangeAt g 30 i.pO.cells:=by
  have:=OB hr 30 7
  rw[Nat.zero_add]at this
  exact this
 exact Wd.load hl h Tryz.underlying146 rfl (by kernel_rfl)
theorem adr{w1:World}{g:Nat}{i:dO}(hl:g<w1.heap.size)(hr:w1.rangeAt g 0 i.cells):∀y:Wd w1,(Instr.loadAt 148 (.pointer (some ⟨g,37,none⟩))).run Tryz.prog y.w= .ok (.agg (OQ i.dec)) y.w:=by
 have h:w1.rangeAt g 37 i.dec.cells:=by
  have:=OB hr 37 12
  rw[Nat.zero_add]at this
  exact this
 exact Wd.load hl h Tryz.underlying148 rfl (by kernel_rfl)
theorem ads(i:dO):(jT i).all (·.oneCell')=true:=by
 simp[jT,dO.cells,ak.cells,xM.cells,wO.cells,oU.cells,Value.oneCell']
theorem dL(c:ak):c.cells.toArray.all (·.oneCell')=true:=by simp[ak.cells,Value.oneCell']
theorem bC(cs vs:List Value)(h:cs.length=vs.length):splice cs 0 vs=vs:=by
 unfold splice
 rw[Nat.zero_add,List.drop_eq_nil_of_le (by omega)]
 simp
end Item
namespace Mem
open Go.RowKit aQ
theorem LQ{P:Program}{ops:Array Oper}{rest:List Oper}{o:Oper}{a:Act}{w:World}{K:Exit->Act->World->Prop}(ty:TypeId)(parts:Array (Nat×Operand))(vs:Array (Nat×Value))(v:Value)(ho:o.op= .build ty parts)(hw:Region.wanted o (yielded ops a.tmps)=true)
 (hp:(parts.map fun x=>(x.1,a.eval x.2))=vs) (hr:(Instr.build ty vs).run P w= .ok v w) (h:wpList P ops K rest (a.put o.dst v) w):wpList P ops K (o::rest) a w:=by
 refine wpList_step fun K' hK=> ?_
 rw[if_pos hw]
 subst hp
 unfold Oper.wp execOp
 simp only[ho,Sem.run_bind,hr,Result.andThen_ok,Sem.run_pure]
 exact hK _ _ h
theorem Uk{P:Program}{ops:Array Oper}{rest:List Oper}{o:Oper}{a:Act}{w w':World}{K:Exit->Act->World->Prop}(ty:TypeId)(len:Nat)(parts:Array (Nat×Operand))(vs:Array (Nat×Value))(v:Value)(ho:o.op= .buildSlice ty len parts)(hw:Region.wanted o (yielded ops a.tmps)=true)
 (hp:(parts.map fun x=>(x.1,a.eval x.2))=vs) (hr:(Instr.buildSlice ty len vs).run P w= .ok v w') (h:wpList P ops K rest (a.put o.dst v) w'):wpList P ops K (o::rest) a w:=by
 refine wpList_step fun K' hK=> ?_
 rw[if_pos hw]
 subst hp
 unfold Oper.wp execOp
 simp only[ho,Sem.run_bind,hr,Result.andThen_ok,Sem.run_pure]
 exact hK _ _ h
theorem adt{P:Program}{ops:Array Oper}{rest:List Oper}{o:Oper}{a:Act}{w:World}{K:Exit->Act->World->Prop}(x:Operand)(v:Value)(ho:o.op= .move x)(hw:Region.wanted o (yielded ops a.tmps)=true)(hx:a.eval x=v)(h:wpList P ops K rest (a.put o.dst v) w):wpList P ops K (o::rest) a w:=by
 refine wpList_step fun K' hK=> ?_
 rw[if_pos hw]
 unfold Oper.wp execOp
 simp only[ho,hx,Sem.run_bind,Result.andThen_ok,Sem.run_pure]
 exact hK _ _ h
theorem tY{g k:Nat}(hk:k≠g):∀(vs:List Value) (o:Nat) (w:World),(w.setCells g o vs).heap[k]?=w.heap[k]?:=by
 intro vs
 induction vs with
 |nil=>intro o w;rfl
 |cons v vs ih=>intro o w;exact(ih (o+1) _).trans (Below.heap_setCell _ _ _ _ hk)
theorem eY{P:Program}{ops:Array Oper}{rest:List Oper}{op:Oper}{a:Act}{w:World}{K:Exit->Act->World->Prop}{g o:Nat}{t:TypeId}{cs:List Value}(hb:ah w g t cs.toArray)(hgd:op.guard=none)(ty:TypeId)(x y:Operand)(vs:List Value)(ho:op.op= .store ty x y)
 (hx:a.eval x= .pointer (some ⟨g,o,none⟩)) (hy:a.eval y= .agg vs.toArray) (hi:(P.info? ty).map (·.size)=some vs.length) (h1:vs.toArray.all (·.oneCell')=true) (hl:o+vs.length<=cs.length)
 (h:∀W,ah W g t (splice cs o vs).toArray->(∀B w0,B<=g->Below B w0 w->Below B w0 W)->(∀k,k≠g->W.heap[k]?=w.heap[k]?)->wpList P ops K rest (a.put op.dst undef) W):wpList P ops K (op::rest) a w:=
 wpList_store_mid hgd ty x y ho g o vs.toArray hx hy (by simpa using hb.there hl) (by simpa using hi) h1 (by
  have:=h _ (ah.setCells vs o cs w hb hl) (fun B w0 hB hw=>below_setCells hB vs o w0 w hw) (fun k hk=>tY hk vs o w)
  simpa using this)
section
variable {α:Type} {f:α->List Value} {k:Nat}
theorem Ul(hk:∀x,(f x).length=k):∀l:List α,(l.flatMap f).length=l.length*k
 |[]=>by simp
 |x::l=>by rw[List.flatMap_cons,List.length_append,hk,Ul hk l,List.length_cons,Nat.succ_mul,Nat.add_comm]
theorem flat_get(hk:∀x,(f x).length=k):∀(l:List α) (j i:Nat) (h:j<l.length),i<k->(l.flatMap f)[j*k+i]?=(f l[j])[i]?
 |x::l,0,i,h,hi=>by
  rw[List.flatMap_cons,Nat.zero_mul,Nat.zero_add,List.getElem?_append_left (by rw[hk];exact hi)]
  rfl
 |x::l,j+1,i,h,hi=>by
  rw[List.flatMap_cons,List.getElem?_append_right (by rw[hk,Nat.succ_mul];omega),hk]
  have:=flat_get hk l j i (by simpa using h) hi
  rw[show(j+1)*k+i-k=j*k+i by rw[Nat.succ_mul];omega,this]
  rfl
theorem anP(hk:∀x,(f x).length=k)(l:List α)(m:Nat)(u:Value)(h:(l.flatMap f)[m]?=some u):∃(j i:Nat) (hj:j<l.length),m=j*k+i/\i<k/\(f l[j])[i]?=some u:=by
 have hm:=(List.getElem?_eq_some_iff.1 h).1
 rw[Ul hk]at hm
 have hk0:0<k:=by
  rcases Nat.eq_zero_or_pos k with h0|h0
  ·subst h0;omega
  ·exact h0
 have hj:m/k<l.length:=Nat.div_lt_of_lt_mul (by rw[Nat.mul_comm];exact hm)
 have he:m=m/k*k+m%k:=by rw[Nat.mul_comm];exact(Nat.div_add_mod m k).symm
 refine⟨m/k,m%k,hj,he,Nat.mod_lt _ hk0,?_⟩
 rw[<-flat_get hk l _ _ hj (Nat.mod_lt _ hk0),<-he]
 exact h
theorem dS.news{w:World}{b o:Nat}{l:List α}(hk:∀x,(f x).length=k)(h:∀j (h:j<l.length),w.rangeAt b (o+j*k) (f l[j])):∀j u,(l.flatMap f)[j]?=some u->w.cell? ((⟨b,o,none⟩:Addr).add j)=some u:=fun m u hu=>by
 obtain⟨j,i,hj,rfl,hi,hv⟩:=anP hk l m u hu
 rw[Addr.add_mid,<-Nat.add_assoc]
 exact h j hj i u hv
theorem aV.rows{w:World}{base n:Nat}{e:TypeId}{A:Option Addr}{c:Nat}{l:List α}(hk:∀x,(f x).length=k)(h:aV w base e k (.slice A n c) n (l.flatMap f))(hn:n=l.length):dS w A k f l:=fun h0=>by
 subst hn
 rcases h.2 with⟨e1,h1⟩|⟨g,cap,cur,fz,hv,hb,hg,_⟩
 ·omega
 ·injection hv with hA _ _
  subst hA
  refine⟨g,0,rfl,(Array.getElem?_eq_some_iff.1 hg).1,fun j hj i v hv=> ?_⟩
  have hi:i<k:=by rw[<-hk l[j]];exact(List.getElem?_eq_some_iff.1 hv).1
  have:=h.cells (g:=g) rfl (j*k+i) v (by rw[flat_get hk l j i hj hi];exact hv)
  rw[Addr.add_mid]at this
  rw[Nat.add_assoc]
  exact this
theorem dS.one(w:World)(t:TypeId)(x:α)(cs:Array Value)(hc:cs=(f x).toArray):dS (w.alloc (.cells cs t)) (some ⟨w.heap.size,0,none⟩) k f [x]:=fun _=>by
 subst hc
 have hb:=ah.new w t (f x).toArray
 refine⟨_,_,rfl,hb.lt,fun j hj=> ?_⟩
 have:j=0:=by simpa using hj
 subst this
 rw[Nat.zero_mul]
 exact hb.range
theorem dS.take{w:World}{A:Option Addr}{l:List α}(h:dS w A k f l)(n:Nat):dS w A k f (l.take n):=fun h0=>by
 rw[List.length_take]at h0
 obtain⟨b,o,e,hb,hc⟩:=h (by omega)
 exact⟨b,o,e,hb,fun j hj=>by rw[List.length_take]at hj;rw[List.getElem_take];exact hc j (by omega)⟩
theorem run_append_nil{P:Program}(w:World)(t ty e:TypeId)(i:TypeInfo)(ht:P.underlying t=some (.slice e))(hi:P.info? e=some i)(B A:Option Addr)(n cap c:Nat)(h:n<=cap):
 (Builtin.append_ #[t,t] ty #[.slice B n cap, .slice A 0 c]).run P w= .ok (.slice B n cap) w:=by
 cases A<;>cases B<;>simp[Builtin.append_,run_underlying ht,sizeOf,typeInfo,hi,Builtin.lenOf,h,Builtin.firstCells,storeCells,loadCells,loadCellsFrom]
theorem XU{P:Program}(hk:∀x,(f x).length=k)(ho:∀x,∀v∈f x,v.oneCell'=true)(w:World)(t ty e:TypeId)(i:TypeInfo)(z:Value)(bytes:Nat)(ht:P.underlying t=some (.slice e))(hi:P.info? e=some i)(hz:i.zero=some z)(hz1:i.size=k)(hz2:i.bytes=bytes)(hz3:z.cells.size=k)(hk0:0<k)(hby:bytes<=10000)
 (base:Nat) (v:Value) (n:Nat) (L:List α) (hown:aV w base e k v n (L.flatMap f)) (A:Option Addr) (m c:Nat) (M:List α) (hS:dS w A k f M) (hm:M.length=m) (hsz:n+m<=1000000) (hbase:base<=w.heap.size):
 ∃v' w',(Builtin.append_ #[t,t] ty #[v, .slice A m c]).run P w= .ok v' w'/\aV w' base e k v' (n+m) ((L++M).flatMap f)/\w.grownBy w' v.ownBlock:=by
 by_cases h0:m=0
 ·subst h0
  have hM:M=[]:=List.eq_nil_of_length_eq_zero hm
  subst hM
  obtain⟨B,cap,rfl,hc1,hc2⟩:=hown.shape
  refine⟨_,_,run_append_nil w t ty e i ht hi B A n cap c hc1,by rw[List.append_nil];exact hown,⟨rfl,rfl,rfl,Nat.le_refl _,fun _ _ _=>rfl⟩⟩
 ·obtain⟨b,o,rfl,hb,hc⟩:=hS (by omega)
  rw[List.flatMap_append]
  have hmul:(n+m)*bytes<=140737488355328:=Nat.le_trans (Nat.mul_le_mul hsz hby) (by decide)
  exact abG w base t ty e i z k bytes ht hi hz hz1 hz2 hz3 hk0 v n (L.flatMap f) hown ⟨b,o,none⟩ m c (M.flatMap f) (by rw[Ul hk,hm]) (dS.news hk hc) (fun u hu=>by obtain⟨x,_,hx⟩:=List.mem_flatMap.1 hu;exact ho x u hx) (by simp only[maxLen];omega) hmul hbase
theorem Jw{P:Program}(hk:∀x,(f x).length=k)(h1:∀x,∀v∈f x,v.oneCell'=true){w:World}{ops:Array Oper}{rest:List Oper}{o:Oper}{a:Act}{Q:Exit->Act->World->Prop}(hw:Region.wanted o (yielded ops a.tmps)=true)(s x:Operand)(t e:TypeId)(i:TypeInfo)(z:Value)(bytes:Nat)
 (ho:o.op= .call {callee:= .builtin .append,args:= #[s,x],argTypes:= #[t,t]}) (ht:P.underlying t=some (.slice e)) (hi:P.info? e=some i) (hz:i.zero=some z) (hz1:i.size=k) (hz2:i.bytes=bytes) (hz3:z.cells.size=k) (hk0:0<k) (hby:bytes<=10000)
 (base:Nat) (v:Value) (n:Nat) (L:List α) (hs:a.eval s=v) (hown:aV w base e k v n (L.flatMap f)) (A:Option Addr) (m c:Nat) (M:List α) (hx:a.eval x= .slice A m c) (hS:dS w A k f M) (hm:M.length=m) (hsz:n+m<=1000000) (hbase:base<=w.heap.size)
 (h:∀A' cap w',n+m<=cap->cap<=maxLen->aV w' base e k (.slice A' (n+m) cap) (n+m) ((L++M).flatMap f)->w.grownBy w' v.ownBlock->wpList P ops Q rest (a.put o.dst (.slice A' (n+m) cap)) w'):wpList P ops Q (o::rest) a w:=
 wpList_step fun _ hK=>by
  rw[if_pos hw]
  obtain⟨v',w',hr,h2,h3⟩:=XU (P:=P) hk h1 w t o.type e i z bytes ht hi hz hz1 hz2 hz3 hk0 hby base v n L hown A m c M hS hm hsz hbase
  obtain⟨A',cap,rfl,hc1,hc2⟩:=h2.shape
  unfold Oper.wp execOp
  simp only[ho,resolve,invoke,builtin,Sem.run_bind,Sem.run_pure,Result.andThen_ok,List.map_toArray,List.map_cons,List.map_nil,hs,hx,hr]
  exact hK _ _ (h A' cap w' hc1 hc2 h2 h3)
end
theorem fB{w0 w w':World}{base n size:Nat}{e:TypeId}{v:Value}{xs:List Value}(hq:Q w0 w)(hB:w0.heap.size<=base)(hown:aV w base e size v n xs)(hg:w.grownBy w' v.ownBlock):Q w0 w':=
 Below.grown hq hg hq.size fun k hk=>Nat.le_trans hB (hown.lt k hk).1
end Mem
end Go.Proofs.YtbemmjnjoabadaaGreatDoor
