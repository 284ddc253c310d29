/- part 4 -/
import Derived.Test.YtbemmjnjoabadaaGreatDoorK01
set_option linter.unusedVariables false
set_option linter.unusedSimpArgs false
set_option maxHeartbeats 400000
set_option maxRecDepth 100000
namespace Go.Proofs.YtbemmjnjoabadaaGreatDoor
namespace aQ
open Go.RowKit
def Gy(x:Int):Prop:=0<=x/\x<18446744073709551616
theorem als(w:World):Calls Tryz.prog 222 #[.int .u64 2305843009213693951] w fun e w'=>e= .returned (.int .i64 3)/\w=w':=by
 have h:=Tryz.bits_LeadingZeros64 2305843009213693951 w (by decide) (by decide)
 have e:(64-(Lib.bitLen (2305843009213693951:Int).toNat:Int))=3:=by decide+kernel
 rw[e]at h
 exact h.mono fun e w' ⟨a,b⟩=>⟨a,b.symm⟩
structure Dv(A B q r:Int):Prop where
 sum:q*4294967295+r=A
 q0:0<=q
 q1:q<=4294967296
 r0:0<=r
 r1:r<4294967296
 up:A*4294967296+B<(q+1)*18446744073709551608
theorem Td(A B:Int)(Jg:0<=A)(Ot:A<18446744073709551608)(Ou:B<4294967296):Dv A B (A/4294967295) (A-A/4294967295*4294967295):=by
 constructor<;>omega
theorem Gz{A B q r:Int}(h:Dv A B q r)(Ot:A<18446744073709551608)(_hB:0<=B)(Ou:B<4294967296)(_hq:4294967296<=q∨4294967296*r+B<q*4294967288)(_hr:r+4294967295<4294967296):Dv A B (q-1) (r+4294967295):=by
 obtain⟨h1,h2,h3,h4,h5,h6⟩:=h
 constructor<;>omega
theorem GH{A B q r:Int}(h:Dv A B q r)(Jg:0<=A)(_hB:0<=B)(_hq:4294967296<=q∨4294967296*r+B<q*4294967288):1<=q:=by
 obtain⟨h1,h2,h3,h4,h5,h6⟩:=h
 omega
theorem Tf{A B q r:Int}(h:Dv A B q r)(_hB:0<=B)(_h1:¬4294967296<=q)(_h2:¬4294967296*r+B<q*4294967288):q=(A*4294967296+B)/18446744073709551608:=by
 obtain⟨h3,h4,h5,h6,h7,h8⟩:=h
 omega
theorem GI{A B q r:Int}(h:Dv A B q r)(Ot:A<18446744073709551608)(_hB:0<=B)(Ou:B<4294967296)(_hq:4294967296<=q∨4294967296*r+B<q*4294967288)(_hr:¬r+4294967295<4294967296):q-1=(A*4294967296+B)/18446744073709551608:=by
 obtain⟨h3,h4,h5,h6,h7,h8⟩:=h
 omega
theorem zQ(A B q:Int)(Jg:0<=A)(_hB:0<=B)(_hq:q=(A*4294967296+B)/18446744073709551608):
 IntKind.u64.wrap (IntKind.u64.wrap (IntKind.u64.wrap (A*4294967296)+B)-IntKind.u64.wrap (q*18446744073709551608))=(A*4294967296+B)%18446744073709551608:=by
 simp only[IntKind.wrap_u64]
 omega
theorem Xp(hi lo A B C:Int)(_h0:0<=hi)(_h1:hi<2305843009213693951)(l0:Gy lo)(Jg:A=hi*8+lo/2305843009213693952)(_hB:B=lo*8%18446744073709551616/4294967296)(_hC:C=lo*8%18446744073709551616%4294967296):
 ((A*4294967296+B)%18446744073709551608*4294967296+C)%18446744073709551608/8=(hi*18446744073709551616+lo)%2305843009213693951:=by
 obtain⟨l0,l1⟩:=l0
 have e:((A*4294967296+B)%18446744073709551608*4294967296+C)%18446744073709551608=((A*4294967296+B)*4294967296+C)%18446744073709551608:=by
  omega
 rw[e]
 omega
theorem alx(lo:Int)(h:0<=lo):(0*18446744073709551616+lo)%2305843009213693951=lo%2305843009213693951:=by rw[Int.zero_mul,Int.zero_add]
theorem aly(hi lo:Int)(h0:0<=hi)(h1:hi<2305843009213693951)(l0:Gy lo):bits .or .u64 (hi*8) (lo/2305843009213693952)=hi*8+lo/2305843009213693952:=by
 obtain⟨l0,l1⟩:=l0
 obtain⟨h,rfl⟩:=Int.eq_ofNat_of_zero_le h0
 obtain⟨l,rfl⟩:=Int.eq_ofNat_of_zero_le l0
 have e1:((h:Int)*8)=((h*8:Nat):Int):=by omega
 have e2:((l:Int)/2305843009213693952)=((l/2305843009213693952:Nat):Int):=by omega
 rw[e1,e2,bits_or_u64_nat _ _ (by omega) (by omega)]
 have e3:h*8|||l/2305843009213693952=h*8+l/2305843009213693952:=by
  have:=Nat.two_pow_add_eq_or_of_lt (i:=3) (b:=l/2305843009213693952) (by omega) h
  rw[Nat.mul_comm h 8]
  exact this.symm
 rw[e3]
 omega
theorem alz:bits .and .u64 18446744073709551608 4294967295=4294967288:=by decide+kernel
theorem wrP(lo:Int):IntKind.u64.wrap (lo*8)=lo*8%18446744073709551616:=IntKind.wrap_u64 _
theorem alB(lo:Int):bits .and .u64 (lo*8%18446744073709551616) 4294967295=lo*8%18446744073709551616%4294967296:=by
 obtain⟨l,e⟩:=Int.eq_ofNat_of_zero_le (show 0<=lo*8%18446744073709551616 by omega)
 rw[e]
 have h:=bits_and_u64_nat l 4294967295 (by omega) (by omega)
 have e2:l&&&4294967295=l%4294967296:=Nat.and_two_pow_sub_one_eq_mod l 32
 rw[e2]at h
 rw[show((4294967295:Nat):Int)=4294967295 from rfl]at h
 rw[h]
 omega
theorem Ti(A:Int)(h0:0<=A)(h1:A<18446744073709551608):IntKind.u64.wrap (A.tdiv 4294967295)=A/4294967295:=by
 exact IntWalk.u64_quo _ _ ⟨h0,by omega,by omega⟩
theorem Tj(A:Int)(h0:0<=A)(h1:A<18446744073709551608):IntKind.u64.wrap (A-IntKind.u64.wrap (A/4294967295*4294967295))=A-A/4294967295*4294967295:=by
 simp only[IntKind.wrap_u64];omega
theorem alC(hi lo:Int)(w:World)(h0:0<=hi)(h1:hi<2305843009213693951)(l0:Gy lo):
 Calls Tryz.prog 208 #[.int .u64 hi, .int .u64 lo, .int .u64 2305843009213693951] w fun e w'=>(∃q:Int,e= .returned (.tuple #[.int .u64 q, .int .u64 ((hi*18446744073709551616+lo)%2305843009213693951)]))/\Q w w':=by
 by_cases hz:hi=0
 ·subst hz
  have Xq:=l0.1
  go_enter Tryz.func208,Tryz.ntmps208
  go_wp2
  go_quiet (fail)
  go_wp2
  go_ret2
  exact⟨⟨IntKind.u64.wrap (lo.tdiv 2305843009213693951),by rw[alx lo Xq];rfl⟩,below_drewN (Below.refl _ _) _⟩
 ·have hz':(hi==0)=false:=by simpa using hz
  have e1:=aly hi lo h0 h1 l0
  have e2:=wrP lo
  have e3:=alB lo
  have hA0:0<=hi*8+lo/2305843009213693952:=by obtain⟨a,b⟩:=l0;omega
  have hA1:hi*8+lo/2305843009213693952<18446744073709551608:=by obtain⟨a,b⟩:=l0;omega
  have e4:=Ti _ hA0 hA1
  have e5:=Tj _ hA0 hA1
  generalize hB:lo*8%18446744073709551616/4294967296=B at*
  generalize hC:lo*8%18446744073709551616%4294967296=C at*
  have hB0:0<=B:=by omega
  have hB1:B<4294967296:=by omega
  have hC0:0<=C:=by omega
  have fU:C<4294967296:=by omega
  generalize hA:hi*8+lo/2305843009213693952=A at*
  have E1:=Lib.hid e1
  have E2:=Lib.hid e2
  have E3:=Lib.hid e3
  have E4:=Lib.hid e4
  have E5:=Lib.hid e5
  have L0:=Lib.hid l0
  have HA:=Lib.hid hA
  have HB:=Lib.hid hB
  have HC:=Lib.hid hC
  have HA1:=Lib.hid hA1
  clear e1 e2 e3 e4 e5 l0 hA hB hC hA1
  go_enter Tryz.func208,Tryz.ntmps208
  go_wp2_with (go_at_call 222;refine(als _).mono ?_;rintro e w' ⟨rfl,rfl⟩)
  simp only[alz,E1.out,E2.out,E3.out,E4.out,E5.out,HB.out]
  go_loop [15,16] (fun q r=>∃q1 r1:Int,q= .int .u64 q1/\r= .int .u64 r1/\Dv A B q1 r1) (fun q _=>(intOf q).toNat)
  case atStart=>exact⟨_,_,rfl,rfl,Td A B hA0 HA1.out hB1⟩
  case round=>
   obtain⟨q1,r1,rfl,rfl,he⟩:=hrel
   have q0:=he.q0
   have q1':=he.q1
   have r0:=he.r0
   have r1':=he.r1
   by_cases t1:4294967296<=q1
   ·have HP:=GH he hA0 hB0 (Or.inl t1)
    by_cases hr:r1+4294967295<4294967296
    ·have HE:=Lib.hid (Gz he HA1.out hB0 hB1 (Or.inl t1) hr)
     clear he
     go_wp2
     exact⟨⟨_,_,rfl,rfl,HE.out⟩,by simp only[intOf];omega⟩
    ·have HE:=Lib.hid (GI he HA1.out hB0 hB1 (Or.inl t1) hr)
     clear he
     go_wp2
     have er:=zQ A B _ hA0 hB0 HE.out
     simp only[er]
     clear er
     have hR0:0<=(A*4294967296+B)%18446744073709551608:=Int.emod_nonneg _ (by decide)
     have HR1:=Lib.hid (show(A*4294967296+B)%18446744073709551608<18446744073709551608 from Int.emod_lt_of_pos _ (by decide))
     have HL:=Lib.hid (Xp hi lo A B C h0 h1 L0.out HA.out.symm HB.out.symm HC.out.symm)
     simp only[Ti _ hR0 HR1.out,Tj _ hR0 HR1.out]
     generalize (A*4294967296+B)%18446744073709551608=R at*
     clear t1 q0 q1' r0 r1' HE
     go_loop [18,16] (fun q r=>∃q1 r1:Int,q= .int .u64 q1/\r= .int .u64 r1/\Dv R C q1 r1) (fun q _=>(intOf q).toNat)
     case atStart=>exact⟨_,_,rfl,rfl,Td R C hR0 HR1.out fU⟩
     case round=>
      obtain⟨q1,r1,rfl,rfl,he⟩:=hrel
      have q0:=he.q0
      have q1':=he.q1
      have r0:=he.r0
      have r1':=he.r1
      by_cases t1:4294967296<=q1
      ·have HP:=GH he hR0 hC0 (Or.inl t1)
       by_cases hr:r1+4294967295<4294967296
       ·have HE:=Lib.hid (Gz he HR1.out hC0 fU (Or.inl t1) hr)
        clear he
        go_wp2
        exact⟨⟨_,_,rfl,rfl,HE.out⟩,by simp only[intOf];omega⟩
       ·have HE:=Lib.hid (GI he HR1.out hC0 fU (Or.inl t1) hr)
        clear he
        go_wp2
        have er:=zQ R C _ hR0 hC0 HE.out
        simp only[er,HL.out]
        clear er
        go_ret2
        exact⟨⟨_,rfl⟩,Q.refl _⟩
      ·by_cases t2:4294967296*r1+C<q1*4294967288
       ·have HP:=GH he hR0 hC0 (Or.inr t2)
        by_cases hr:r1+4294967295<4294967296
        ·have HE:=Lib.hid (Gz he HR1.out hC0 fU (Or.inr t2) hr)
         clear he
         go_wp2
         exact⟨⟨_,_,rfl,rfl,HE.out⟩,by simp only[intOf];omega⟩
        ·have HE:=Lib.hid (GI he HR1.out hC0 fU (Or.inr t2) hr)
         clear he
         go_wp2
         have er:=zQ R C _ hR0 hC0 HE.out
         simp only[er,HL.out]
         clear er
         go_ret2
         exact⟨⟨_,rfl⟩,Q.refl _⟩
       ·have HE:=Lib.hid (Tf he hC0 t1 t2)
        clear he
        go_wp2
        have er:=zQ R C _ hR0 hC0 HE.out
        simp only[er,HL.out]
        clear er
        go_ret2
        exact⟨⟨_,rfl⟩,Q.refl _⟩
   ·by_cases t2:4294967296*r1+B<q1*4294967288
    ·have HP:=GH he hA0 hB0 (Or.inr t2)
     by_cases hr:r1+4294967295<4294967296
     ·have HE:=Lib.hid (Gz he HA1.out hB0 hB1 (Or.inr t2) hr)
      clear he
      go_wp2
      exact⟨⟨_,_,rfl,rfl,HE.out⟩,by simp only[intOf];omega⟩
     ·have HE:=Lib.hid (GI he HA1.out hB0 hB1 (Or.inr t2) hr)
      clear he
      go_wp2
      have er:=zQ A B _ hA0 hB0 HE.out
      simp only[er]
      clear er
      have hR0:0<=(A*4294967296+B)%18446744073709551608:=Int.emod_nonneg _ (by decide)
      have HR1:=Lib.hid (show(A*4294967296+B)%18446744073709551608<18446744073709551608 from Int.emod_lt_of_pos _ (by decide))
      have HL:=Lib.hid (Xp hi lo A B C h0 h1 L0.out HA.out.symm HB.out.symm HC.out.symm)
      simp only[Ti _ hR0 HR1.out,Tj _ hR0 HR1.out]
      generalize (A*4294967296+B)%18446744073709551608=R at*
      clear t1 q0 q1' r0 r1' HE
      go_loop [18,16] (fun q r=>∃q1 r1:Int,q= .int .u64 q1/\r= .int .u64 r1/\Dv R C q1 r1) (fun q _=>(intOf q).toNat)
      case atStart=>exact⟨_,_,rfl,rfl,Td R C hR0 HR1.out fU⟩
      case round=>
       obtain⟨q1,r1,rfl,rfl,he⟩:=hrel
       have q0:=he.q0
       have q1':=he.q1
       have r0:=he.r0
       have r1':=he.r1
       by_cases t1:4294967296<=q1
       ·have HP:=GH he hR0 hC0 (Or.inl t1)
        by_cases hr:r1+4294967295<4294967296
        ·have HE:=Lib.hid (Gz he HR1.out hC0 fU (Or.inl t1) hr)
         clear he
         go_wp2
         exact⟨⟨_,_,rfl,rfl,HE.out⟩,by simp only[intOf];omega⟩
        ·have HE:=Lib.hid (GI he HR1.out hC0 fU (Or.inl t1) hr)
         clear he
         go_wp2
         have er:=zQ R C _ hR0 hC0 HE.out
         simp only[er,HL.out]
         clear er
         go_ret2
         exact⟨⟨_,rfl⟩,Q.refl _⟩
       ·by_cases t2:4294967296*r1+C<q1*4294967288
        ·have HP:=GH he hR0 hC0 (Or.inr t2)
         by_cases hr:r1+4294967295<4294967296
         ·have HE:=Lib.hid (Gz he HR1.out hC0 fU (Or.inr t2) hr)
          clear he
          go_wp2
          exact⟨⟨_,_,rfl,rfl,HE.out⟩,by simp only[intOf];omega⟩
         ·have HE:=Lib.hid (GI he HR1.out hC0 fU (Or.inr t2) hr)
          clear he
          go_wp2
          have er:=zQ R C _ hR0 hC0 HE.out
          simp only[er,HL.out]
          clear er
          go_ret2
          exact⟨⟨_,rfl⟩,Q.refl _⟩
        ·have HE:=Lib.hid (Tf he hC0 t1 t2)
         clear he
         go_wp2
         have er:=zQ R C _ hR0 hC0 HE.out
         simp only[er,HL.out]
         clear er
         go_ret2
         exact⟨⟨_,rfl⟩,Q.refl _⟩
    ·have HE:=Lib.hid (Tf he hB0 t1 t2)
     clear he
     go_wp2
     have er:=zQ A B _ hA0 hB0 HE.out
     simp only[er]
     clear er
     have hR0:0<=(A*4294967296+B)%18446744073709551608:=Int.emod_nonneg _ (by decide)
     have HR1:=Lib.hid (show(A*4294967296+B)%18446744073709551608<18446744073709551608 from Int.emod_lt_of_pos _ (by decide))
     have HL:=Lib.hid (Xp hi lo A B C h0 h1 L0.out HA.out.symm HB.out.symm HC.out.symm)
     simp only[Ti _ hR0 HR1.out,Tj _ hR0 HR1.out]
     generalize (A*4294967296+B)%18446744073709551608=R at*
     clear t1 q0 q1' r0 r1' HE
     go_loop [18,16] (fun q r=>∃q1 r1:Int,q= .int .u64 q1/\r= .int .u64 r1/\Dv R C q1 r1) (fun q _=>(intOf q).toNat)
     case atStart=>exact⟨_,_,rfl,rfl,Td R C hR0 HR1.out fU⟩
     case round=>
      obtain⟨q1,r1,rfl,rfl,he⟩:=hrel
      have q0:=he.q0
      have q1':=he.q1
      have r0:=he.r0
      have r1':=he.r1
      by_cases t1:4294967296<=q1
      ·have HP:=GH he hR0 hC0 (Or.inl t1)
       by_cases hr:r1+4294967295<4294967296
       ·have HE:=Lib.hid (Gz he HR1.out hC0 fU (Or.inl t1) hr)
        clear he
        go_wp2
        exact⟨⟨_,_,rfl,rfl,HE.out⟩,by simp only[intOf];omega⟩
       ·have HE:=Lib.hid (GI he HR1.out hC0 fU (Or.inl t1) hr)
        clear he
        go_wp2
        have er:=zQ R C _ hR0 hC0 HE.out
        simp only[er,HL.out]
        clear er
        go_ret2
        exact⟨⟨_,rfl⟩,Q.refl _⟩
      ·by_cases t2:4294967296*r1+C<q1*4294967288
       ·have HP:=GH he hR0 hC0 (Or.inr t2)
        by_cases hr:r1+4294967295<4294967296
        ·have HE:=Lib.hid (Gz he HR1.out hC0 fU (Or.inr t2) hr)
         clear he
         go_wp2
         exact⟨⟨_,_,rfl,rfl,HE.out⟩,by simp only[intOf];omega⟩
        ·have HE:=Lib.hid (GI he HR1.out hC0 fU (Or.inr t2) hr)
         clear he
         go_wp2
         have er:=zQ R C _ hR0 hC0 HE.out
         simp only[er,HL.out]
         clear er
         go_ret2
         exact⟨⟨_,rfl⟩,Q.refl _⟩
       ·have HE:=Lib.hid (Tf he hC0 t1 t2)
        clear he
        go_wp2
        have er:=zQ R C _ hR0 hC0 HE.out
        simp only[er,HL.out]
        clear er
        go_ret2
        exact⟨⟨_,rfl⟩,Q.refl _⟩
theorem alD(w:World):Calls Tryz.prog 222 #[.int .u64 2305843009213693950] w fun e w'=>e= .returned (.int .i64 3)/\w=w':=by
 have h:=Tryz.bits_LeadingZeros64 2305843009213693950 w (by decide) (by decide)
 have e:(64-(Lib.bitLen (2305843009213693950:Int).toNat:Int))=3:=by decide+kernel
 rw[e]at h
 exact h.mono fun e w' ⟨a,b⟩=>⟨a,b.symm⟩
structure Dw(A B q r:Int):Prop where
 sum:q*4294967295+r=A
 q0:0<=q
 q1:q<=4294967296
 r0:0<=r
 r1:r<4294967296
 up:A*4294967296+B<(q+1)*18446744073709551600
theorem Tm(A B:Int)(Jg:0<=A)(Ot:A<18446744073709551600)(Ou:B<4294967296):Dw A B (A/4294967295) (A-A/4294967295*4294967295):=by
 constructor<;>omega
theorem GK{A B q r:Int}(h:Dw A B q r)(Ot:A<18446744073709551600)(_hB:0<=B)(Ou:B<4294967296)(_hq:4294967296<=q∨4294967296*r+B<q*4294967280)(_hr:r+4294967295<4294967296):Dw A B (q-1) (r+4294967295):=by
 obtain⟨h1,h2,h3,h4,h5,h6⟩:=h
 constructor<;>omega
theorem GL{A B q r:Int}(h:Dw A B q r)(Jg:0<=A)(_hB:0<=B)(_hq:4294967296<=q∨4294967296*r+B<q*4294967280):1<=q:=by
 obtain⟨h1,h2,h3,h4,h5,h6⟩:=h
 omega
theorem Tn{A B q r:Int}(h:Dw A B q r)(_hB:0<=B)(_h1:¬4294967296<=q)(_h2:¬4294967296*r+B<q*4294967280):q=(A*4294967296+B)/18446744073709551600:=by
 obtain⟨h3,h4,h5,h6,h7,h8⟩:=h
 omega
theorem GN{A B q r:Int}(h:Dw A B q r)(Ot:A<18446744073709551600)(_hB:0<=B)(Ou:B<4294967296)(_hq:4294967296<=q∨4294967296*r+B<q*4294967280)(_hr:¬r+4294967295<4294967296):q-1=(A*4294967296+B)/18446744073709551600:=by
 obtain⟨h3,h4,h5,h6,h7,h8⟩:=h
 omega
theorem zS(A B q:Int)(Jg:0<=A)(_hB:0<=B)(_hq:q=(A*4294967296+B)/18446744073709551600):
 IntKind.u64.wrap (IntKind.u64.wrap (IntKind.u64.wrap (A*4294967296)+B)-IntKind.u64.wrap (q*18446744073709551600))=(A*4294967296+B)%18446744073709551600:=by
 simp only[IntKind.wrap_u64]
 omega
theorem Xr(hi lo A B C:Int)(_h0:0<=hi)(_h1:hi<2305843009213693950)(l0:Gy lo)(Jg:A=hi*8+lo/2305843009213693952)(_hB:B=lo*8%18446744073709551616/4294967296)(_hC:C=lo*8%18446744073709551616%4294967296):
 ((A*4294967296+B)%18446744073709551600*4294967296+C)%18446744073709551600/8=(hi*18446744073709551616+lo)%2305843009213693950:=by
 obtain⟨l0,l1⟩:=l0
 have e:((A*4294967296+B)%18446744073709551600*4294967296+C)%18446744073709551600=((A*4294967296+B)*4294967296+C)%18446744073709551600:=by
  omega
 rw[e]
 omega
theorem alE(lo:Int)(h:0<=lo):(0*18446744073709551616+lo)%2305843009213693950=lo%2305843009213693950:=by rw[Int.zero_mul,Int.zero_add]
theorem alF(hi lo:Int)(h0:0<=hi)(h1:hi<2305843009213693950)(l0:Gy lo):bits .or .u64 (hi*8) (lo/2305843009213693952)=hi*8+lo/2305843009213693952:=by
 obtain⟨l0,l1⟩:=l0
 obtain⟨h,rfl⟩:=Int.eq_ofNat_of_zero_le h0
 obtain⟨l,rfl⟩:=Int.eq_ofNat_of_zero_le l0
 have e1:((h:Int)*8)=((h*8:Nat):Int):=by omega
 have e2:((l:Int)/2305843009213693952)=((l/2305843009213693952:Nat):Int):=by omega
 rw[e1,e2,bits_or_u64_nat _ _ (by omega) (by omega)]
 have e3:h*8|||l/2305843009213693952=h*8+l/2305843009213693952:=by
  have:=Nat.two_pow_add_eq_or_of_lt (i:=3) (b:=l/2305843009213693952) (by omega) h
  rw[Nat.mul_comm h 8]
  exact this.symm
 rw[e3]
 omega
theorem alG:bits .and .u64 18446744073709551600 4294967295=4294967280:=by decide+kernel
theorem wrN(lo:Int):IntKind.u64.wrap (lo*8)=lo*8%18446744073709551616:=IntKind.wrap_u64 _
theorem alI(lo:Int):bits .and .u64 (lo*8%18446744073709551616) 4294967295=lo*8%18446744073709551616%4294967296:=by
 obtain⟨l,e⟩:=Int.eq_ofNat_of_zero_le (show 0<=lo*8%18446744073709551616 by omega)
 rw[e]
 have h:=bits_and_u64_nat l 4294967295 (by omega) (by omega)
 have e2:l&&&4294967295=l%4294967296:=Nat.and_two_pow_sub_one_eq_mod l 32
 rw[e2]at h
 rw[show((4294967295:Nat):Int)=4294967295 from rfl]at h
 rw[h]
 omega
theorem Tq(A:Int)(h0:0<=A)(h1:A<18446744073709551600):IntKind.u64.wrap (A.tdiv 4294967295)=A/4294967295:=by
 exact IntWalk.u64_quo _ _ ⟨h0,by omega,by omega⟩
theorem Tt(A:Int)(h0:0<=A)(h1:A<18446744073709551600):IntKind.u64.wrap (A-IntKind.u64.wrap (A/4294967295*4294967295))=A-A/4294967295*4294967295:=by
 simp only[IntKind.wrap_u64];omega
theorem alJ(hi lo:Int)(w:World)(h0:0<=hi)(h1:hi<2305843009213693950)(l0:Gy lo):
 Calls Tryz.prog 208 #[.int .u64 hi, .int .u64 lo, .int .u64 2305843009213693950] w fun e w'=>(∃q:Int,e= .returned (.tuple #[.int .u64 q, .int .u64 ((hi*18446744073709551616+lo)%2305843009213693950)]))/\Q w w':=by
 by_cases hz:hi=0
 ·subst hz
  have Xq:=l0.1
  go_enter Tryz.func208,Tryz.ntmps208
  go_wp2
  go_quiet (fail)
  go_wp2
  go_ret2
  exact⟨⟨IntKind.u64.wrap (lo.tdiv 2305843009213693950),by rw[alE lo Xq];rfl⟩,below_drewN (Below.refl _ _) _⟩
 ·have hz':(hi==0)=false:=by simpa using hz
  have e1:=alF hi lo h0 h1 l0
  have e2:=wrN lo
  have e3:=alI lo
  have hA0:0<=hi*8+lo/2305843009213693952:=by obtain⟨a,b⟩:=l0;omega
  have hA1:hi*8+lo/2305843009213693952<18446744073709551600:=by obtain⟨a,b⟩:=l0;omega
  have e4:=Tq _ hA0 hA1
  have e5:=Tt _ hA0 hA1
  generalize hB:lo*8%18446744073709551616/4294967296=B at*
  generalize hC:lo*8%18446744073709551616%4294967296=C at*
  have hB0:0<=B:=by omega
  have hB1:B<4294967296:=by omega
  have hC0:0<=C:=by omega
  have fU:C<4294967296:=by omega
  generalize hA:hi*8+lo/2305843009213693952=A at*
  have E1:=Lib.hid e1
  have E2:=Lib.hid e2
  have E3:=Lib.hid e3
  have E4:=Lib.hid e4
  have E5:=Lib.hid e5
  have L0:=Lib.hid l0
  have HA:=Lib.hid hA
  have HB:=Lib.hid hB
  have HC:=Lib.hid hC
  have HA1:=Lib.hid hA1
  clear e1 e2 e3 e4 e5 l0 hA hB hC hA1
  go_enter Tryz.func208,Tryz.ntmps208
  go_wp2_with (go_at_call 222;refine(alD _).mono ?_;rintro e w' ⟨rfl,rfl⟩)
  simp only[alG,E1.out,E2.out,E3.out,E4.out,E5.out,HB.out]
  go_loop [15,16] (fun q r=>∃q1 r1:Int,q= .int .u64 q1/\r= .int .u64 r1/\Dw A B q1 r1) (fun q _=>(intOf q).toNat)
  case atStart=>exact⟨_,_,rfl,rfl,Tm A B hA0 HA1.out hB1⟩
  case round=>
   obtain⟨q1,r1,rfl,rfl,he⟩:=hrel
   have q0:=he.q0
   have q1':=he.q1
   have r0:=he.r0
   have r1':=he.r1
   by_cases t1:4294967296<=q1
   ·have HP:=GL he hA0 hB0 (Or.inl t1)
    by_cases hr:r1+4294967295<4294967296
    ·have HE:=Lib.hid (GK he HA1.out hB0 hB1 (Or.inl t1) hr)
     clear he
     go_wp2
     exact⟨⟨_,_,rfl,rfl,HE.out⟩,by simp only[intOf];omega⟩
    ·have HE:=Lib.hid (GN he HA1.out hB0 hB1 (Or.inl t1) hr)
     clear he
     go_wp2
     have er:=zS A B _ hA0 hB0 HE.out
     simp only[er]
     clear er
     have hR0:0<=(A*4294967296+B)%18446744073709551600:=Int.emod_nonneg _ (by decide)
     have HR1:=Lib.hid (show(A*4294967296+B)%18446744073709551600<18446744073709551600 from Int.emod_lt_of_pos _ (by decide))
     have HL:=Lib.hid (Xr hi lo A B C h0 h1 L0.out HA.out.symm HB.out.symm HC.out.symm)
     simp only[Tq _ hR0 HR1.out,Tt _ hR0 HR1.out]
     generalize (A*4294967296+B)%18446744073709551600=R at*
     clear t1 q0 q1' r0 r1' HE
     go_loop [18,16] (fun q r=>∃q1 r1:Int,q= .int .u64 q1/\r= .int .u64 r1/\Dw R C q1 r1) (fun q _=>(intOf q).toNat)
     case atStart=>exact⟨_,_,rfl,rfl,Tm R C hR0 HR1.out fU⟩
     case round=>
      obtain⟨q1,r1,rfl,rfl,he⟩:=hrel
      have q0:=he.q0
      have q1':=he.q1
      have r0:=he.r0
      have r1':=he.r1
      by_cases t1:4294967296<=q1
      ·have HP:=GL he hR0 hC0 (Or.inl t1)
       by_cases hr:r1+4294967295<4294967296
       ·have HE:=Lib.hid (GK he HR1.out hC0 fU (Or.inl t1) hr)
        clear he
        go_wp2
        exact⟨⟨_,_,rfl,rfl,HE.out⟩,by simp only[intOf];omega⟩
       ·have HE:=Lib.hid (GN he HR1.out hC0 fU (Or.inl t1) hr)
        clear he
        go_wp2
        have er:=zS R C _ hR0 hC0 HE.out
        simp only[er,HL.out]
        clear er
        go_ret2
        exact⟨⟨_,rfl⟩,Q.refl _⟩
      ·by_cases t2:4294967296*r1+C<q1*4294967280
       ·have HP:=GL he hR0 hC0 (Or.inr t2)
        by_cases hr:r1+4294967295<4294967296
        ·have HE:=Lib.hid (GK he HR1.out hC0 fU (Or.inr t2) hr)
         clear he
         go_wp2
         exact⟨⟨_,_,rfl,rfl,HE.out⟩,by simp only[intOf];omega⟩
        ·have HE:=Lib.hid (GN he HR1.out hC0 fU (Or.inr t2) hr)
         clear he
         go_wp2
         have er:=zS R C _ hR0 hC0 HE.out
         simp only[er,HL.out]
         clear er
         go_ret2
         exact⟨⟨_,rfl⟩,Q.refl _⟩
       ·have HE:=Lib.hid (Tn he hC0 t1 t2)
        clear he
        go_wp2
        have er:=zS R C _ hR0 hC0 HE.out
        simp only[er,HL.out]
        clear er
        go_ret2
        exact⟨⟨_,rfl⟩,Q.refl _⟩
   ·by_cases t2:4294967296*r1+B<q1*4294967280
    ·have HP:=GL he hA0 hB0 (Or.inr t2)
     by_cases hr:r1+4294967295<4294967296
     ·have HE:=Lib.hid (GK he HA1.out hB0 hB1 (Or.inr t2) hr)
      clear he
      go_wp2
      exact⟨⟨_,_,rfl,rfl,HE.out⟩,by simp only[intOf];omega⟩
     ·have HE:=Lib.hid (GN he HA1.out hB0 hB1 (Or.inr t2) hr)
      clear he
      go_wp2
      have er:=zS A B _ hA0 hB0 HE.out
      simp only[er]
      clear er
      have hR0:0<=(A*4294967296+B)%18446744073709551600:=Int.emod_nonneg _ (by decide)
      have HR1:=Lib.hid (show(A*4294967296+B)%18446744073709551600<18446744073709551600 from Int.emod_lt_of_pos _ (by decide))
      have HL:=Lib.hid (Xr hi lo A B C h0 h1 L0.out HA.out.symm HB.out.symm HC.out.symm)
      simp only[Tq _ hR0 HR1.out,Tt _ hR0 HR1.out]
      generalize (A*4294967296+B)%18446744073709551600=R at*
      clear t1 q0 q1' r0 r1' HE
      go_loop [18,16] (fun q r=>∃q1 r1:Int,q= .int .u64 q1/\r= .int .u64 r1/\Dw R C q1 r1) (fun q _=>(intOf q).toNat)
      case atStart=>exact⟨_,_,rfl,rfl,Tm R C hR0 HR1.out fU⟩
      case round=>
       obtain⟨q1,r1,rfl,rfl,he⟩:=hrel
       have q0:=he.q0
       have q1':=he.q1
       have r0:=he.r0
       have r1':=he.r1
       by_cases t1:4294967296<=q1
       ·have HP:=GL he hR0 hC0 (Or.inl t1)
        by_cases hr:r1+4294967295<4294967296
        ·have HE:=Lib.hid (GK he HR1.out hC0 fU (Or.inl t1) hr)
         clear he
         go_wp2
         exact⟨⟨_,_,rfl,rfl,HE.out⟩,by simp only[intOf];omega⟩
        ·have HE:=Lib.hid (GN he HR1.out hC0 fU (Or.inl t1) hr)
         clear he
         go_wp2
         have er:=zS R C _ hR0 hC0 HE.out
         simp only[er,HL.out]
         clear er
         go_ret2
         exact⟨⟨_,rfl⟩,Q.refl _⟩
       ·by_cases t2:4294967296*r1+C<q1*4294967280
        ·have HP:=GL he hR0 hC0 (Or.inr t2)
         by_cases hr:r1+4294967295<4294967296
         ·have HE:=Lib.hid (GK he HR1.out hC0 fU (Or.inr t2) hr)
          clear he
          go_wp2
          exact⟨⟨_,_,rfl,rfl,HE.out⟩,by simp only[intOf];omega⟩
         ·have HE:=Lib.hid (GN he HR1.out hC0 fU (Or.inr t2) hr)
          clear he
          go_wp2
          have er:=zS R C _ hR0 hC0 HE.out
          simp only[er,HL.out]
          clear er
          go_ret2
          exact⟨⟨_,rfl⟩,Q.refl _⟩
        ·have HE:=Lib.hid (Tn he hC0 t1 t2)
         clear he
         go_wp2
         have er:=zS R C _ hR0 hC0 HE.out
         simp only[er,HL.out]
         clear er
         go_ret2
         exact⟨⟨_,rfl⟩,Q.refl _⟩
    ·have HE:=Lib.hid (Tn he hB0 t1 t2)
     clear he
     go_wp2
     have er:=zS A B _ hA0 hB0 HE.out
     simp only[er]
     clear er
     have hR0:0<=(A*4294967296+B)%18446744073709551600:=Int.emod_nonneg _ (by decide)
     have HR1:=Lib.hid (show(A*4294967296+B)%18446744073709551600<18446744073709551600 from Int.emod_lt_of_pos _ (by decide))
     have HL:=Lib.hid (Xr hi lo A B C h0 h1 L0.out HA.out.symm HB.out.symm HC.out.symm)
     simp only[Tq _ hR0 HR1.out,Tt _ hR0 HR1.out]
     generalize (A*4294967296+B)%18446744073709551600=R at*
     clear t1 q0 q1' r0 r1' HE
     go_loop [18,16] (fun q r=>∃q1 r1:Int,q= .int .u64 q1/\r= .int .u64 r1/\Dw R C q1 r1) (fun q _=>(intOf q).toNat)
     case atStart=>exact⟨_,_,rfl,rfl,Tm R C hR0 HR1.out fU⟩
     case round=>
      obtain⟨q1,r1,rfl,rfl,he⟩:=hrel
      have q0:=he.q0
      have q1':=he.q1
      have r0:=he.r0
      have r1':=he.r1
      by_cases t1:4294967296<=q1
      ·have HP:=GL he hR0 hC0 (Or.inl t1)
       by_cases hr:r1+4294967295<4294967296
       ·have HE:=Lib.hid (GK he HR1.out hC0 fU (Or.inl t1) hr)
        clear he
        go_wp2
        exact⟨⟨_,_,rfl,rfl,HE.out⟩,by simp only[intOf];omega⟩
       ·have HE:=Lib.hid (GN he HR1.out hC0 fU (Or.inl t1) hr)
        clear he
        go_wp2
        have er:=zS R C _ hR0 hC0 HE.out
        simp only[er,HL.out]
        clear er
        go_ret2
        exact⟨⟨_,rfl⟩,Q.refl _⟩
      ·by_cases t2:4294967296*r1+C<q1*4294967280
       ·have HP:=GL he hR0 hC0 (Or.inr t2)
        by_cases hr:r1+4294967295<4294967296
        ·have HE:=Lib.hid (GK he HR1.out hC0 fU (Or.inr t2) hr)
         clear he
         go_wp2
         exact⟨⟨_,_,rfl,rfl,HE.out⟩,by simp only[intOf];omega⟩
        ·have HE:=Lib.hid (GN he HR1.out hC0 fU (Or.inr t2) hr)
         clear he
         go_wp2
         have er:=zS R C _ hR0 hC0 HE.out
         simp only[er,HL.out]
         clear er
         go_ret2
         exact⟨⟨_,rfl⟩,Q.refl _⟩
       ·have HE:=Lib.hid (Tn he hC0 t1 t2)
        clear he
        go_wp2
        have er:=zS R C _ hR0 hC0 HE.out
        simp only[er,HL.out]
        clear er
        go_ret2
        exact⟨⟨_,rfl⟩,Q.refl _⟩
theorem alK(x y:Int)(w:World)(x0:0<=x)(x1:x<18446744073709551616)(y0:0<=y)(y1:y<18446744073709551616):
 Calls Tryz.prog 180 #[.int .u64 x, .int .u64 y] w fun e w'=>e= .returned (.tuple #[.int .u64 (x*y/18446744073709551616), .int .u64 (x*y%18446744073709551616)])/\w=w':=by
 obtain⟨a,rfl⟩:=Int.eq_ofNat_of_zero_le x0
 obtain⟨b,rfl⟩:=Int.eq_ofNat_of_zero_le y0
 refine(Tryz.bits_Mul64 a b (by omega) (by omega) w).mono fun e w' ⟨h1,h2⟩=>⟨?_,h2.symm⟩
 rw[h1]
 have e1:((a*b/18446744073709551616:Nat):Int)=(a:Int)*b/18446744073709551616:=by omega
 have e2:((a*b%18446744073709551616:Nat):Int)=(a:Int)*b%18446744073709551616:=by omega
 rw[e1,e2]
theorem alL:∀(f x:Nat),x<2^f->x<2^Lib.bitLenAux f x:=by
 intro f
 induction f with
 |zero=>intro x h;exact h
 |succ f ih=>
  intro x h
  rw[Lib.bitLenAux]
  by_cases h0:x=0
  ·rw[if_pos h0];omega
  ·rw[if_neg h0,Nat.add_comm,Nat.pow_succ]
   have:=ih (x/2) (by omega)
   omega
theorem aci(x:Int)(w:World)(x0:0<=x)(x1:x<=9223372036854775807):
 Calls Tryz.prog 74 #[.int .u64 x] w fun e w'=>(∃L:Nat,L<=64/\x.toNat<2^L/\e= .returned (.int .i64 L))/\w=w':=by
 refine(Tryz.bits_Len64 x w x0 (by omega)).mono fun e w' ⟨h1,h2⟩=>⟨⟨_,?_,?_,h1⟩,h2.symm⟩
 ·exact Lib.bitLen_le _ 64 (Nat.le_refl _) (by omega)
 ·exact alL 64 _ (by omega)
theorem alM(hi lo m:Int)(hm:m=2305843009213693951∨m=2305843009213693950):(hi%m*18446744073709551616+lo)%m=(hi*18446744073709551616+lo)%m:=by
 rcases hm with rfl|rfl<;>omega
theorem alN(hi lo m:Int)(w:World)(h0:0<=hi)(l0:Gy lo)(hm:m=2305843009213693951∨m=2305843009213693950):
 Calls Tryz.prog 181 #[.int .u64 hi, .int .u64 lo, .int .u64 m] w fun e w'=>e= .returned (.int .u64 ((hi*18446744073709551616+lo)%m))/\Q w w':=by
 have er:=alM hi lo m hm
 rw[<-er]
 clear er
 rcases hm with rfl|rfl
 ·obtain⟨b0,b1⟩:=zN hi (show(0:Int)<2305843009213693951 by decide)
  go_enter Tryz.func181,Tryz.ntmps181
  go_wp2_with (go_at_call 208;refine(alC _ _ _ b0 b1 l0).mono ?_;rintro e w' ⟨⟨q,rfl⟩,hq⟩)
  go_ret
  exact⟨rfl,hq⟩
 ·obtain⟨b0,b1⟩:=zN hi (show(0:Int)<2305843009213693950 by decide)
  go_enter Tryz.func181,Tryz.ntmps181
  go_wp2_with (go_at_call 208;refine(alJ _ _ _ b0 b1 l0).mono ?_;rintro e w' ⟨⟨q,rfl⟩,hq⟩)
  go_ret
  exact⟨rfl,hq⟩
end aQ
end Go.Proofs.YtbemmjnjoabadaaGreatDoor
