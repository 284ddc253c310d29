/- part 5 -/
import Derived.Laws.StructEq
import Derived.Test.YtbemmjnjoabadaaGreatDoorK04
import Derived.Test.YtbemmjnjoabadaaGreatDoorK03
set_option linter.unusedVariables false
set_option linter.unusedSimpArgs false
set_option maxHeartbeats 1000000
set_option maxRecDepth 100000
namespace Go.Proofs.YtbemmjnjoabadaaGreatDoor
namespace aQ
open Go.RowKit
theorem alO(a b m:Int):(a%m*(b%m)/18446744073709551616*18446744073709551616+a%m*(b%m)%18446744073709551616)%m=a*b%m:=by
 have h:=Int.mul_ediv_add_emod (a%m*(b%m)) 18446744073709551616
 rw[Int.mul_comm _ 18446744073709551616,h,<-Int.mul_emod]
theorem alP{x y:Int}(x0:0<=x)(y0:0<=y):0<=x*y/18446744073709551616:=Int.ediv_nonneg (Int.mul_nonneg x0 y0) (by decide)
theorem alQ(x:Int):Gy (x%18446744073709551616):=⟨by omega,by omega⟩
theorem mul_any(a b m:Int)(w:World)(hm:m=2305843009213693951∨m=2305843009213693950):
 Calls Tryz.prog 120 #[.int .i64 a, .int .i64 b, .int .i64 m] w fun e w'=>e= .returned (.int .i64 (a*b%m))/\Q w w':=by
 have m0:0<m:=by omega
 have m1:m<=2305843009213693951:=by omega
 obtain⟨a0,a1⟩:=zN a m0
 obtain⟨b0,b1⟩:=zN b m0
 have hr:=zN (a*b) m0
 have hr0:=hr.1
 have hr1:=hr.2
 have e0:=Lib.hid (alO a b m)
 have p0:=alP a0 b0
 have HM:=Lib.hid hm
 clear hm hr
 go_enter Tryz.func120,Tryz.ntmps120
 go_wp2_with (first|(go_at_call 73;refine(SK _ _ _ m0 (by omega)).mono ?_;rintro e w' ⟨rfl,rfl⟩)|(go_at_call 180;refine(alK _ _ _ a0 (by omega) b0 (by omega)).mono ?_;rintro e w' ⟨rfl,rfl⟩))
 refine(alN _ _ _ _ p0 (alQ _) HM.out).mono ?_
 rintro e w' ⟨rfl,hq⟩
 rw[e0.out]
 go_wp2
 go_ret
 exact⟨rfl,hq⟩
def Jh(a b:Int):Int:=(a+b)%2305843009213693951
def Dx(a b:Int):Int:=a*b%2305843009213693951
def acj(a b:Int):Int:=(a+b)%2305843009213693950
def acn(a b:Int):Int:=a*b%2305843009213693950
theorem aco(a b:Int)(w:World):
 Calls Tryz.prog 105 #[.int .i64 a, .int .i64 b] w fun e w'=>e= .returned (.int .i64 (Jh a b))/\w=w':=by
 go_enter Tryz.func105,Tryz.ntmps105
 go_wp2_with (go_at_call 160;refine(add_any _ _ _ _ (by decide) (by decide)).mono ?_;rintro e w' ⟨rfl,rfl⟩)
 go_ret
 exact⟨rfl,rfl⟩
theorem alR(a b:Int)(w:World):
 Calls Tryz.prog 126 #[.int .i64 a, .int .i64 b] w fun e w'=>e= .returned (.int .i64 (acj a b))/\w=w':=by
 go_enter Tryz.func126,Tryz.ntmps126
 go_wp2_with (go_at_call 160;refine(add_any _ _ _ _ (by decide) (by decide)).mono ?_;rintro e w' ⟨rfl,rfl⟩)
 go_ret
 exact⟨rfl,rfl⟩
theorem Xt(a b:Int)(w:World):
 Calls Tryz.prog 75 #[.int .i64 a, .int .i64 b] w fun e w'=>e= .returned (.int .i64 (Dx a b))/\Q w w':=by
 go_enter Tryz.func75,Tryz.ntmps75
 go_wp2_with (go_at_call 120;refine(mul_any _ _ _ _ (Or.inl rfl)).mono ?_;rintro e w' ⟨rfl,hq⟩)
 go_ret
 exact⟨rfl,hq⟩
theorem alS(a b:Int)(w:World):
 Calls Tryz.prog 127 #[.int .i64 a, .int .i64 b] w fun e w'=>e= .returned (.int .i64 (acn a b))/\Q w w':=by
 go_enter Tryz.func127,Tryz.ntmps127
 go_wp2_with (go_at_call 120;refine(mul_any _ _ _ _ (Or.inr rfl)).mono ?_;rintro e w' ⟨rfl,hq⟩)
 go_ret
 exact⟨rfl,hq⟩
def zT(e:Int):Nat:=(if e<0 then e%2305843009213693950 else e).toNat
def dW(a e:Int):Int:=(pow (a%2305843009213693951).toNat (zT e):Nat)
theorem alT(x:Int)(h0:0<=x)(h1:x<=9223372036854775807):bits .and .i64 x 1=x%2:=by
 obtain⟨a,rfl⟩:=Int.eq_ofNat_of_zero_le h0
 have ha:(BitVec.ofInt 64 (a:Int)).toNat=a:=by
  rw[BitVec.ofInt_natCast,BitVec.toNat_ofNat];exact Nat.mod_eq_of_lt (by omega)
 have hb:(BitVec.ofInt 64 (1:Int)).toNat=1:=by decide
 show IntKind.i64.wrap ((BitVec.ofInt 64 (a:Int)&&&BitVec.ofInt 64 (1:Int)).toNat:Int)=_
 rw[BitVec.toNat_and,ha,hb,Nat.and_one_is_mod,IntWalk.i64_in _ (by omega)]
 omega
structure Sq(A E i:Nat)(r p:Int):Prop where
 r0:0<=r
 r1:r<2305843009213693951
 p0:0<=p
 p1:p<2305843009213693951
 eq:r.toNat*p.toNat^(E/2^i)%2305843009213693951=A^E%2305843009213693951
theorem acp(a:Int)(E:Nat):Sq (a%2305843009213693951).toNat E 0 1 (a%2305843009213693951):=by
 obtain⟨a0,a1⟩:=zN a (show(0:Int)<2305843009213693951 by decide)
 exact⟨by decide,by decide,a0,a1,by simp⟩
theorem acr(E i:Nat):E/2^(i+1)=E/2^i/2:=by rw[Nat.pow_succ,Nat.div_div_eq_div_mul]
theorem Xu(x y:Int)(x0:0<=x)(y0:0<=y):(x*y%2305843009213693951).toNat=x.toNat*y.toNat%2305843009213693951:=by
 obtain⟨a,rfl⟩:=Int.eq_ofNat_of_zero_le x0
 obtain⟨b,rfl⟩:=Int.eq_ofNat_of_zero_le y0
 simp only[Int.toNat_natCast]
 rw[<-Int.natCast_mul]
 omega
theorem acs(E:Int)(k:Nat)(b:Bool)(h0:0<=E)(h1:E<=9223372036854775807)(h:(bits BinOp.and IntKind.i64 (E/2^k) 1==1)=b):E.toNat/2^k%2=if b then 1 else 0:=by
 obtain⟨n,rfl⟩:=Int.eq_ofNat_of_zero_le h0
 have e:((n:Int)/2^k)=((n/2^k:Nat):Int):=by rw[Int.natCast_ediv,Int.natCast_pow];rfl
 have hle:n/2^k<=n:=Nat.div_le_self _ _
 rw[e]at h
 rw[Int.toNat_natCast]
 clear e
 generalize n/2^k=q at*
 rw[alT _ (by omega) (by omega)]at h
 cases b
 ·simp at h⊢;omega
 ·simp at h⊢;omega
theorem acu{A:Nat}{E:Int}{i:Nat}{r p:Int}(h:Sq A E.toNat i r p)(h0:0<=E)(h1:E<=9223372036854775807)(hb:(bits BinOp.and IntKind.i64 (E/2^i) 1==1)=true):
 Sq A E.toNat (i+1) (Dx r p) (Dx p p):=by
 unfold Dx
 obtain⟨a0,a1⟩:=zN (r*p) (show(0:Int)<2305843009213693951 by decide)
 obtain⟨b0,b1⟩:=zN (p*p) (show(0:Int)<2305843009213693951 by decide)
 have h2:=acs E i true h0 h1 hb
 refine⟨a0,a1,b0,b1,?_⟩
 rw[<-h.eq,Xu _ _ h.r0 h.p0,Xu _ _ h.p0 h.p0,acr]
 generalize E.toNat/2^i=n at*
 have hs:p.toNat^n=(p.toNat*p.toNat)^(n/2)*p.toNat:=by
  conv=>lhs;rw[<-Nat.div_add_mod n 2]
  rw[Nat.pow_add,Nat.pow_mul,Nat.pow_two,h2,if_pos rfl,Nat.pow_one]
 rw[hs,Nat.mul_mod,Nat.mod_mod,<-Nat.pow_mod,<-Nat.mul_mod,Nat.mul_assoc,Nat.mul_comm p.toNat]
theorem acv{A:Nat}{E:Int}{i:Nat}{r p:Int}(h:Sq A E.toNat i r p)(h0:0<=E)(h1:E<=9223372036854775807)(hb:(bits BinOp.and IntKind.i64 (E/2^i) 1==1)=false):
 Sq A E.toNat (i+1) r (Dx p p):=by
 unfold Dx
 obtain⟨b0,b1⟩:=zN (p*p) (show(0:Int)<2305843009213693951 by decide)
 have h2:=acs E i false h0 h1 hb
 refine⟨h.r0,h.r1,b0,b1,?_⟩
 rw[<-h.eq,Xu _ _ h.p0 h.p0,acr]
 generalize E.toNat/2^i=n at*
 have hs:p.toNat^n=(p.toNat*p.toNat)^(n/2):=by
  conv=>lhs;rw[<-Nat.div_add_mod n 2]
  rw[Nat.pow_add,Nat.pow_mul,Nat.pow_two,h2]
  simp
 rw[hs,Nat.mul_mod,<-Nat.pow_mod,<-Nat.mul_mod]
theorem acw{a E:Int}{L:Nat}{r p:Int}(h:Sq (a%2305843009213693951).toNat E.toNat L r p)(hx:E.toNat<2^L)(hE:E.toNat<18446744073709551616:=by omega):r=((pow (a%2305843009213693951).toNat E.toNat:Nat):Int):=by
 have h1:=h.eq
 rw[Nat.div_eq_of_lt hx,Nat.pow_zero,Nat.mul_one]at h1
 rw[pow_eq _ _ hE,<-h1]
 have:=h.r0
 have:=h.r1
 omega
theorem Tv(a e:Int)(w:World)(h0: -9223372036854775808<=e)(h1:e<=9223372036854775807):
 Calls Tryz.prog 28 #[.int .i64 a, .int .i64 e] w fun e' w'=>e'= .returned (.int .i64 (dW a e))/\Q w w':=by
 by_cases hn:e<0
 ·have g0:0<=e%2305843009213693950:=by omega
  have g1:e%2305843009213693950<=9223372036854775807:=by omega
  go_enter Tryz.func28,Tryz.ntmps28
  go_wp2_with (first|(go_at_call 73;refine(SK _ _ _ (by decide) (by decide)).mono ?_;rintro e w' ⟨rfl,rfl⟩)|(go_at_call 74;refine(aci _ _ (by omega) (by omega)).mono ?_;rintro e w' ⟨⟨L,hL,hx,rfl⟩,rfl⟩))
  go_loopw [5,6,17] (fun r p i wr=>∃(r1 p1:Int) (k:Nat),k<=L/\i= .int .i64 k/\r= .int .i64 r1/\p= .int .i64 p1/\Sq (a%2305843009213693951).toNat ((e%2305843009213693950)).toNat k r1 p1/\Q w wr) (fun _ _ i _=>L-(intOf i).toNat)
  case atStart=>exact⟨1,_,0,by omega,rfl,rfl,rfl,acp a _,Q.refl _⟩
  case round=>
   obtain⟨r1,p1,k,hk,rfl,rfl,rfl,hs,hq⟩:=hrel
   by_cases hlt:k<L
   ·go_wp2_with (first|(go_at_call 75;refine(Xt _ _ _).mono ?_;rintro e w' ⟨rfl,hq1⟩))
    ·have hb:(bits BinOp.and IntKind.i64 ((e%2305843009213693950)/2^k) 1==1)=true:=by assumption
     exact⟨⟨_,_,k+1,by omega,by go_num,rfl,rfl,acu hs g0 g1 hb,by repeat(first|exact hq|refine Q.trans ?_ (by assumption))⟩,by simp only[intOf];omega⟩
    ·have hb:(bits BinOp.and IntKind.i64 ((e%2305843009213693950)/2^k) 1==1)=false:=by assumption
     exact⟨⟨_,_,k+1,by omega,by go_num,rfl,rfl,acv hs g0 g1 hb,by repeat(first|exact hq|refine Q.trans ?_ (by assumption))⟩,by simp only[intOf];omega⟩
   ·go_wp2
    go_ret
    have GR:k=L:=by omega
    subst GR
    exact⟨SI (by rw[acw hs hx];unfold dW;rw[show((e%2305843009213693950)).toNat=zT e by unfold zT;rw[if_pos hn]]),hq⟩
 ·have g0:0<=e:=by omega
  go_enter Tryz.func28,Tryz.ntmps28
  go_wp2_with (first|(go_at_call 73;refine(SK _ _ _ (by decide) (by decide)).mono ?_;rintro e w' ⟨rfl,rfl⟩)|(go_at_call 74;refine(aci _ _ (by omega) (by omega)).mono ?_;rintro e w' ⟨⟨L,hL,hx,rfl⟩,rfl⟩))
  go_loopw [5,6,17] (fun r p i wr=>∃(r1 p1:Int) (k:Nat),k<=L/\i= .int .i64 k/\r= .int .i64 r1/\p= .int .i64 p1/\Sq (a%2305843009213693951).toNat e.toNat k r1 p1/\Q w wr) (fun _ _ i _=>L-(intOf i).toNat)
  case atStart=>exact⟨1,_,0,by omega,rfl,rfl,rfl,acp a _,Q.refl _⟩
  case round=>
   obtain⟨r1,p1,k,hk,rfl,rfl,rfl,hs,hq⟩:=hrel
   by_cases hlt:k<L
   ·go_wp2_with (first|(go_at_call 75;refine(Xt _ _ _).mono ?_;rintro e w' ⟨rfl,hq1⟩))
    ·have hb:(bits BinOp.and IntKind.i64 (e/2^k) 1==1)=true:=by assumption
     exact⟨⟨_,_,k+1,by omega,by go_num,rfl,rfl,acu hs g0 h1 hb,by repeat(first|exact hq|refine Q.trans ?_ (by assumption))⟩,by simp only[intOf];omega⟩
    ·have hb:(bits BinOp.and IntKind.i64 (e/2^k) 1==1)=false:=by assumption
     exact⟨⟨_,_,k+1,by omega,by go_num,rfl,rfl,acv hs g0 h1 hb,by repeat(first|exact hq|refine Q.trans ?_ (by assumption))⟩,by simp only[intOf];omega⟩
   ·go_wp2
    go_ret
    have GR:k=L:=by omega
    subst GR
    exact⟨SI (by rw[acw hs hx];unfold dW;rw[show e.toNat=zT e by unfold zT;rw[if_neg (by omega)]]),hq⟩
theorem Ll(a e:Int):0<=dW a e/\dW a e<2305843009213693951:=by
 have h:=abw 2305843009213693951 (by decide) 64 1 (a%2305843009213693951).toNat (zT e) (by decide)
 unfold dW pow
 omega
theorem alU(e:Int)(h:e<=9223372036854775807):zT e<18446744073709551616:=by
 unfold zT
 split<;>omega
theorem alV(a e:Int)(h:e<=9223372036854775807):dW a e=(((a%2305843009213693951).toNat^zT e%2305843009213693951:Nat):Int):=by
 unfold dW
 rw[pow_eq _ _ (alU e h)]
def res(a:Int):Nat:=(a%2305843009213693951).toNat
theorem Xv{a:Int}(h:a%2305843009213693951≠0):res a%2305843009213693951≠0:=by unfold res;omega
theorem alW{x:Nat}(h:x<2305843009213693951):res (x:Int)=x:=by unfold res;omega
theorem alX(x:Nat):res ((x%2305843009213693951:Nat):Int)=x%2305843009213693951:=alW (Nat.mod_lt _ (by decide))
theorem Tz(a e:Int)(h:e<=9223372036854775807)(ha:a%2305843009213693951≠0):dW a e=((res a^(e%2305843009213693950).toNat%2305843009213693951:Nat):Int):=by
 rw[alV a e h]
 by_cases hn:e<0
 ·unfold zT;rw[if_pos hn];rfl
 ·have h1:zT e=e.toNat:=by unfold zT;rw[if_neg hn]
  have h2:(e%2305843009213693950).toNat=e.toNat%NN:=by unfold NN;omega
  rw[h1,h2,abB _ (Xv ha)]
  rfl
theorem acy(a e:Int)(h:e<=9223372036854775807)(ha:a%2305843009213693951≠0):dW a e%2305843009213693951≠0:=by
 have h1:=akH (res a) (Xv ha) (e%2305843009213693950).toNat
 rw[Tz a e h ha]
 omega
theorem acz(a d e:Int)(hd:d<=9223372036854775807)(he:e<=9223372036854775807)(ha:a%2305843009213693951≠0):dW (dW a d) e=dW a (d*e%2305843009213693950):=by
 rw[Tz (dW a d) e he (acy a d hd ha),Tz a d hd ha,Tz a _ (by omega) ha,alX,<-Nat.pow_mod,<-Nat.pow_mul]
 have h:(d*e%2305843009213693950%2305843009213693950).toNat=((d%2305843009213693950).toNat*(e%2305843009213693950).toNat)%NN:=by
  have h1:d*e%2305843009213693950=(d%2305843009213693950)*(e%2305843009213693950)%2305843009213693950:=Int.mul_emod _ _ _
  rw[Int.emod_emod,h1]
  obtain⟨x,hx⟩:=Int.eq_ofNat_of_zero_le (show 0<=d%2305843009213693950 by omega)
  obtain⟨y,hy⟩:=Int.eq_ofNat_of_zero_le (show 0<=e%2305843009213693950 by omega)
  rw[hx,hy,<-Int.natCast_mul]
  unfold NN
  simp only[Int.toNat_natCast]
  omega
 rw[h,abB _ (Xv ha)]
end aQ
namespace Sign
open Go.RowKit aQ Mem _root_.Go.Proofs.YtbemmjnjoabadaaGreatDoor.Code aY
def lit(l:List UInt8):ByteArray:=⟨l.toArray⟩
def Ov:ByteArray:=aZ (lit [115,105,103,110])
def Ox(r y:Int)(m:ByteArray):ByteArray:=cat [Ov,aU r,aU y,aZ m]
def TD(r y:Int)(m:ByteArray):Int:=lU (Ox r y m)%2305843009213693950
theorem pK(s:ByteArray):(aZ s).size<=s.size+10:=by unfold aZ;rw[tK];exact vN s
theorem alY(r y:Int)(m:ByteArray):(Ox r y m).size<=m.size+44:=by
 unfold Ox
 rw[Xo]
 have h1:=iI r
 have h2:=iI y
 have h3:=pK m
 have h4:Ov.size<=14:=pK (lit [115,105,103,110])
 simp only[List.map_cons,List.map_nil,List.sum_cons,List.sum_nil]
 omega
theorem Strs.of{w:World}{g:Nat}{t:TypeId}{l:List ByteArray}(h:ah w g t ((l.map Value.string).toArray)):Strs w (some ⟨g,0,none⟩) l:=fun h0=>
 ⟨g,0,rfl,h.lt,fun j hj=>by
   rw[Nat.zero_add,h.cell]
   simp[hj]⟩
theorem acA(l:List ByteArray)(n:Nat)(cs:Array Value)(t:TypeId)(w:World)(hT:Tab w)(hn:l.length=n)(hcs:(l.map Value.string).toArray=cs)(h1:n<=100)(hs:(cat l).size<=140737488355327):
 Calls Tryz.prog 103 #[.slice (some ⟨w.heap.size,0,none⟩) n n] (w.alloc (.cells cs t)) fun e w'=>e= .returned (.int .i64 (lU (cat l)))/\Q w w':=by
 subst hn hcs
 have hq:Q w (w.alloc (.cells (l.map Value.string).toArray t)):=Below.alloc (Q.refl w) (Nat.le_refl _) _
 exact(acg _ l _ _ (hT.q hq) (Strs.of (ah.new w t _)) (Nat.le_refl _) (by omega) hs).mono fun e w' ⟨h1,h2⟩=>⟨h1,Q.trans hq h2⟩
theorem alZ(r y:Int)(m:ByteArray)(w:World)(hT:Tab w)(hr:r<=9223372036854775807)(hy:y<=9223372036854775807)(hm:m.size<=140737488355200):
 Calls Tryz.prog 125 #[.int .i64 r, .int .i64 y, .string m] w fun e w'=>e= .returned (.int .i64 (TD r y m))/\Q w w':=by
 have hz:(Ox r y m).size<=140737488355327:=by have:=alY r y m;omega
 have HZ:=Lib.hid hz
 clear hz
 go_enter Tryz.func125,Tryz.ntmps125
 go_wp2_with fail
 refine(kY _ _ (by decide)).mono ?_
 rintro e w1 ⟨rfl,hq1⟩
 go_wp2_with fail
 refine(kM _ _ hr).mono ?_
 rintro e w2 ⟨rfl,hq2⟩
 go_wp2_with fail
 refine(kM _ _ hy).mono ?_
 rintro e w3 ⟨rfl,hq3⟩
 go_wp2_with fail
 refine(kY _ _ (by omega)).mono ?_
 rintro e w4 ⟨rfl,hq4⟩
 have hq:=Q.trans hq1 (Q.trans hq2 (Q.trans hq3 hq4))
 clear hq1 hq2 hq3 hq4
 go_wp2_with fail
 refine(acA [Ov,aU r,aU y,aZ m] 4 _ _ _ (hT.q hq) rfl rfl (by decide) HZ.out).mono ?_
 rintro e w5 ⟨rfl,hq5⟩
 have hb:=Oo (Ox r y m)
 change 0<=lU (cat [Ov,aU r,aU y,aZ m])/\lU (cat [Ov,aU r,aU y,aZ m])<_ at hb
 go_wp2
 go_ret
 exact⟨rfl,Q.trans hq hq5⟩
def keyOf(x:Int):Int×Int:=if x<1∨x>2305843009213693949 then(0,0)else(x,dW 37 x)
def yK(k:Int×Int):Value:= .agg #[.int .i64 k.1, .int .i64 k.2]
def bH(k:Int×Int):Array Value:= #[.int .i64 k.1, .int .i64 k.2]
theorem vP(k:Int×Int):(bH k).all (·.oneCell')=true:=by simp[bH,Value.oneCell']
theorem aO(w:World)(cs:Array Value)(t:TypeId):Q w (w.alloc (.cells cs t)):=Below.alloc (Q.refl w) (Nat.le_refl _) _
theorem al0(x:Int)(w:World)(h:(decide (x<1)||decide (2305843009213693949<x))=true):
 Calls Tryz.prog 72 #[.int .i64 x] w fun e w'=>e= .returned (yK (0,0))/\Q w w':=by
 go_enter Tryz.func72,Tryz.ntmps72
 go_wp2
 all_goals exact bodyPost_ret (results_cell_row rfl _ _ w.heap.size 66 (bH (0,0)) (0,0) _ rfl (ah.new w _ _) Tryz.underlying66 rfl (by kernel_rfl)) rfl ⟨rfl,aO _ _ _⟩
theorem al1(x:Int)(w:World)(h0:1<=x)(h1:x<=2305843009213693949):
 Calls Tryz.prog 72 #[.int .i64 x] w fun e w'=>e= .returned (yK (x,dW 37 x))/\Q w w':=by
 have hk:=Lib.hid (vP (x,dW 37 x))
 go_enter Tryz.func72,Tryz.ntmps72
 go_wp2_with fail
 refine(Tv 37 x _ (by omega) (by omega)).mono ?_
 rintro e w1 ⟨rfl,hq⟩
 have hb:=(ah.new w 66 (bH (0,0))).q hq
 have hq0:=Q.trans (aO w (bH (0,0)) 66) hq
 go_wp2_with (refine wpList_store_row rfl 66 _ _ rfl w.heap.size (bH (x,dW 37 x)) rfl rfl 66 (bH (0,0)) hb (by kernel_rfl) (by kernel_rfl) hk.out ?_)
 exact bodyPost_ret (results_cell_row rfl _ _ w.heap.size 66 (bH (x,dW 37 x)) (0,0) _ rfl (ah.setRow hb _) Tryz.underlying66 rfl (by kernel_rfl)) rfl ⟨rfl,below_setRow hq0 (Nat.le_refl _) _⟩
theorem acB(x:Int)(w:World):Calls Tryz.prog 72 #[.int .i64 x] w fun e w'=>e= .returned (yK (keyOf x))/\Q w w':=by
 unfold keyOf
 by_cases h:x<1∨x>2305843009213693949
 ·rw[if_pos h]
  exact al0 x w (by simp;omega)
 ·rw[if_neg h]
  exact al1 x w (by omega) (by omega)
theorem acC(x:Int)(w:World):Calls Tryz.prog 72 #[.int .i64 x] w fun e w'=>e= .returned (.agg #[.int .i64 (keyOf x).1, .int .i64 (keyOf x).2])/\Q w w':=acB x w
def sD:ByteArray:=aZ (lit [107,101,121])
def Bh(s:ByteArray):ByteArray:=cat [sD,aZ s]
def kN(s:ByteArray):Int:=EN (lU (Bh s))
theorem al2(s:ByteArray):(Bh s).size<=s.size+24:=by
 unfold Bh
 rw[Xo]
 have h3:=pK s
 have h4:sD.size<=13:=pK (lit [107,101,121])
 simp only[List.map_cons,List.map_nil,List.sum_cons,List.sum_nil]
 omega
theorem acD(s:ByteArray)(w:World)(hT:Tab w)(hm:s.size<=140737488355200):
 Calls Tryz.prog 61 #[.string s] w fun e w'=>e= .returned (yK (keyOf (kN s)))/\Q w w':=by
 have hz:(Bh s).size<=140737488355327:=by have:=al2 s;omega
 have HZ:=Lib.hid hz
 have hk:=Lib.hid (vP (keyOf (kN s)))
 have hb0:=ah.new w 66 (bH (0,0))
 have hq0:=aO w (bH (0,0)) 66
 clear hz
 go_enter Tryz.func61,Tryz.ntmps61
 go_wp2_with fail
 refine(kY _ _ (by decide)).mono ?_
 rintro e w1 ⟨rfl,hq1⟩
 go_wp2_with fail
 refine(kY _ _ (by omega)).mono ?_
 rintro e w2 ⟨rfl,hq2⟩
 have hb:=(hb0.q hq1).q hq2
 have hq:=Q.trans hq0 (Q.trans hq1 hq2)
 clear hb0 hq0 hq1 hq2
 go_wp2_with fail
 refine(acA [sD,aZ s] 2 _ _ _ (hT.q hq) rfl rfl (by decide) HZ.out).mono ?_
 rintro e w3 ⟨rfl,hq3⟩
 have hh:=Oo (Bh s)
 change 0<=lU (cat [sD,aZ s])/\lU (cat [sD,aZ s])<_ at hh
 go_wp2_with fail
 refine(ach _ _ hh.1 (by omega)).mono ?_
 rintro e w4 ⟨rfl,hq4⟩
 go_wp2_with fail
 refine(acB _ _).mono ?_
 rintro e w5 ⟨rfl,hq5⟩
 have hb:=((hb.q hq3).q hq4).q hq5
 have hq:=Q.trans hq (Q.trans hq3 (Q.trans hq4 hq5))
 clear hq3 hq4 hq5
 go_wp2_with (refine wpList_store_row rfl 66 _ _ rfl w.heap.size (bH (keyOf (kN s))) rfl rfl 66 (bH (0,0)) hb (by kernel_rfl) (by kernel_rfl) hk.out ?_)
 exact bodyPost_ret (results_cell_row rfl _ _ w.heap.size 66 (bH (keyOf (kN s))) (0,0) _ rfl (ah.setRow hb _) Tryz.underlying66 rfl (by kernel_rfl)) rfl ⟨rfl,below_setRow hq (Nat.le_refl _) _⟩
theorem held2{w w1 w2:World}{g i j:Nat}{u v:Option Value}(h:w1.cell? ⟨g,i,none⟩=u/\w1.cell? ⟨g,j,none⟩=v/\g<w1.heap.size/\Q w w1)(hq:Q w1 w2):
 w2.cell? ⟨g,i,none⟩=u/\w2.cell? ⟨g,j,none⟩=v/\g<w2.heap.size/\Q w w2:=
 ⟨(hq.cell (p:=⟨g,i,none⟩) h.2.2.1).trans h.1,(hq.cell (p:=⟨g,j,none⟩) h.2.2.1).trans h.2.1,Nat.lt_of_lt_of_le h.2.2.1 hq.size,Q.trans h.2.2.2 hq⟩
open Go.Op Go.Instr in
theorem yL(x y x' y':Int)(w:World):(binOp .eql 66 (.agg #[.int .i64 x, .int .i64 y]) (.agg #[.int .i64 x', .int .i64 y'])).run Tryz.prog w= .ok (.bool (decide (x=x')&&decide (y=y'))) w:=by
 have u3:=Tryz.underlying3
 have a3:=Tryz.isAgg3
 have z3:=Tryz.sizeOf3
 have hS:Tryz.prog.underlying 66=some (.struct (Tryz.prog.fieldsOf 66)):=by kernel_rfl
 have hp:Tryz.prog.stoodInHeld 66=false:=by kernel_rfl
 rw[run_eql_struct,show(10000:Nat)=9999+1 from rfl,run_equalIn_agg w 9999 66 _ _ hS hp]
 simp only[Program.fieldsOf,Tryz.underlying66]
 go_simp
 by_cases h1:x=x'<;>by_cases h2:y=y'<;>simp[h1,h2]
theorem al3(op:BinOp)(a b:Operand)(xs ys:Array Value)(w:World):(eqGuard op 66 a b (.agg xs) (.agg ys)).run Tryz.prog w= .ok () w:=run_eqGuard_agg w op _ _ _ _ _ (by kernel_rfl)
def iP(k:Int×Int):Bool:=decide (1<=k.1)&&(decide (k.1=(keyOf k.1).1)&&decide (k.2=(keyOf k.1).2))
theorem Ji(k:Int×Int)(w:World):Calls Tryz.prog 58 #[yK k] w fun e w'=>e= .returned (.bool (iP k))/\Q w w':=by
 obtain⟨x,y⟩:=k
 unfold iP
 dsimp only
 by_cases h:1<=x
 ·have h0:decide (1<=x)=true:=by simp[h]
  have hE:=yL
  have hG:=al3
  change Calls _ _ #[.agg #[.int .i64 x, .int .i64 y]] _ _
  rw[h0,Bool.true_and]
  go_enter Tryz.func58,Tryz.ntmps58
  go_wp2_with fail
  have hb:=ah.new w 66 #[.int .i64 x, .int .i64 y]
  have hq0:=aO w #[.int .i64 x, .int .i64 y] 66
  have hc0:=hb.cell 0
  have hc1:=hb.cell 1
  simp only[List.getElem?_toArray,List.getElem?_cons_zero,List.getElem?_cons_succ]at hc0 hc1
  have hlt:=hb.lt
  generalize hW:w.alloc (.cells #[.int .i64 x, .int .i64 y] 66)=W at*
  clear hb
  go_region_held3 (fun w'=>w'.cell? ⟨w.heap.size,0,none⟩=some (.int .i64 x)/\w'.cell? ⟨w.heap.size,1,none⟩=some (.int .i64 y)/\w.heap.size<w'.heap.size/\Q w w') (first|exact⟨hc0,hc1,hlt,hq0.drew⟩|exact held2 (by assumption) hq) (first|(go_at_call 72;refine(acC _ _).mono ?_;rintro e w' ⟨rfl,hq⟩))
  go_wp2
  go_ret
  exact⟨rfl,by rename_i hh;exact hh.2.2.2⟩
 ·have h0:decide (1<=x)=false:=by simp[h]
  change Calls _ _ #[.agg #[.int .i64 x, .int .i64 y]] _ _
  rw[h0,Bool.false_and]
  go_enter Tryz.func58,Tryz.ntmps58
  go_wp2_with fail
  have hb:=ah.new w 66 #[.int .i64 x, .int .i64 y]
  have hq0:=aO w #[.int .i64 x, .int .i64 y] 66
  have hc0:=hb.cell 0
  have hc1:=hb.cell 1
  simp only[List.getElem?_toArray,List.getElem?_cons_zero,List.getElem?_cons_succ]at hc0 hc1
  have hlt:=hb.lt
  generalize hW:w.alloc (.cells #[.int .i64 x, .int .i64 y] 66)=W at*
  clear hb
  go_quiet (fail)
  go_wp2
  go_ret
  exact⟨rfl,hq0.drewN _⟩
def inI(n:Int):Bool:=decide (0<=n)&&decide (n<2305843009213693950)
def Ctx(w0 w:World)(g:Nat)(t:TypeId)(cs:Array Value):Prop:=Q w0 w/\Tab w/\ah w g t cs
theorem Ctx.q{w0 w1 w2:World}{g:Nat}{t:TypeId}{cs:Array Value}(h:Ctx w0 w1 g t cs)(hq:Q w1 w2):Ctx w0 w2 g t cs:=⟨Q.trans h.1 hq,h.2.1.q hq,h.2.2.q hq⟩
theorem Xw{w w1 w2:World}{g g':Nat}{t:TypeId}{cs:Array Value}{u v:Option Value}(h:w1.cell? ⟨g,0,none⟩=u/\w1.cell? ⟨g,1,none⟩=v/\g<w1.heap.size/\Ctx w w1 g' t cs)(hq:Q w1 w2):
 w2.cell? ⟨g,0,none⟩=u/\w2.cell? ⟨g,1,none⟩=v/\g<w2.heap.size/\Ctx w w2 g' t cs:=
 ⟨(hq.cell (p:=⟨g,0,none⟩) h.2.2.1).trans h.1,(hq.cell (p:=⟨g,1,none⟩) h.2.2.1).trans h.2.1,Nat.lt_of_lt_of_le h.2.2.1 hq.size,h.2.2.2.q hq⟩
theorem al4{w w1:World}{g g':Nat}{t:TypeId}{cs:Array Value}{u v:Option Value}(h:w1.cell? ⟨g,0,none⟩=u/\w1.cell? ⟨g,1,none⟩=v/\g<w1.heap.size/\Ctx w w1 g' t cs)(cs':Array Value)(t':TypeId):
 (w1.alloc (.cells cs' t')).cell? ⟨g,0,none⟩=u/\(w1.alloc (.cells cs' t')).cell? ⟨g,1,none⟩=v/\g<(w1.alloc (.cells cs' t')).heap.size/\Ctx w (w1.alloc (.cells cs' t')) g' t cs:=Xw h (aO _ _ _)
theorem al5{w w1:World}{g g':Nat}{t:TypeId}{cs:Array Value}{u v:Option Value}(l:List ByteArray)(n:Nat)(cs':Array Value)(t':TypeId)(h:(w1.alloc (.cells cs' t')).cell? ⟨g,0,none⟩=u/\(w1.alloc (.cells cs' t')).cell? ⟨g,1,none⟩=v/\g<(w1.alloc (.cells cs' t')).heap.size/\Ctx w (w1.alloc (.cells cs' t')) g' t cs)
 (hn:l.length=n) (hcs:(l.map Value.string).toArray=cs') (h1:n<=100) (hs:(cat l).size<=140737488355327):
 Calls Tryz.prog 103 #[.slice (some ⟨w1.heap.size,0,none⟩) n n] (w1.alloc (.cells cs' t')) fun e w'=>e= .returned (.int .i64 (lU (cat l)))/\Q (w1.alloc (.cells cs' t')) w':=by
 subst hn hcs
 exact acg _ l _ _ h.2.2.2.2.1 (Strs.of (ah.new w1 t' _)) (Nat.le_refl _) (by omega) hs
theorem al6(s:ByteArray)(w:World):Calls Tryz.prog 102 #[.int .i64 (lU s)] w fun e w'=>e= .returned (.int .i64 (EN (lU s)))/\Q w w':=by
 have h:=Oo s
 exact ach _ _ h.1 (by omega)
theorem al7{w w1:World}{g g':Nat}{t:TypeId}{cs:Array Value}{u v:Option Value}(r y:Int)(m:ByteArray)(h:w1.cell? ⟨g,0,none⟩=u/\w1.cell? ⟨g,1,none⟩=v/\g<w1.heap.size/\Ctx w w1 g' t cs)(hr:r<=9223372036854775807)(hy:y<=9223372036854775807)(hm:m.size<=140737488355200):
 Calls Tryz.prog 125 #[.int .i64 r, .int .i64 y, .string m] w1 fun e w'=>e= .returned (.int .i64 (TD r y m))/\Q w1 w':=alZ r y m w1 h.2.2.2.2.1 hr hy hm
def zU:ByteArray:=aZ (lit [110,111,110,99,101])
def Jj(x:Int)(m:ByteArray):ByteArray:=cat [zU,aU x,aZ m]
def Lm(x:Int)(m:ByteArray):Int:=EN (lU (Jj x m))
theorem Xx(x:Int)(m:ByteArray):(Jj x m).size<=m.size+35:=by
 unfold Jj
 rw[Xo]
 have h1:=iI x
 have h3:=pK m
 have h4:zU.size<=15:=pK (lit [110,111,110,99,101])
 simp only[List.map_cons,List.map_nil,List.sum_cons,List.sum_nil]
 omega
theorem al8{w w1:World}{g g':Nat}{t:TypeId}{cs:Array Value}{u v:Option Value}(x:Int)(m:ByteArray)(cs':Array Value)(t':TypeId)(h:(w1.alloc (.cells cs' t')).cell? ⟨g,0,none⟩=u/\(w1.alloc (.cells cs' t')).cell? ⟨g,1,none⟩=v/\g<(w1.alloc (.cells cs' t')).heap.size/\Ctx w (w1.alloc (.cells cs' t')) g' t cs)
 (hcs:([zU,aU x,aZ m].map Value.string).toArray=cs') (hs:(Jj x m).size<=140737488355327):
 Calls Tryz.prog 103 #[.slice (some ⟨w1.heap.size,0,none⟩) 3 3] (w1.alloc (.cells cs' t')) fun e w'=>e= .returned (.int .i64 (lU (Jj x m)))/\Q (w1.alloc (.cells cs' t')) w':=al5 [zU,aU x,aZ m] 3 cs' t' h rfl hcs (by decide) hs
theorem al9(x:Int)(m:ByteArray)(w:World):Calls Tryz.prog 102 #[.int .i64 (lU (Jj x m))] w fun e w'=>e= .returned (.int .i64 (Lm x m))/\Q w w':=al6 _ _
def Lp(x y:Int)(m:ByteArray):Int:=TD (dW 37 (Lm x m)) y m
def Oy(x y:Int)(m:ByteArray):Int:=acj (Lm x m) (acn (Lp x y m) x)
def yM(k:Int×Int)(m:ByteArray):Int×Int:=if iP k then(Lp k.1 k.2 m,Oy k.1 k.2 m)else(0,0)
theorem ama(k:Int×Int)(m:ByteArray)(w:World)(h:iP k=false):Calls Tryz.prog 79 #[yK k, .string m] w fun e w'=>e= .returned (yK (0,0))/\Q w w':=by
 obtain⟨x,y⟩:=k
 have hR:=Ji (x,y)
 rw[h]at hR
 have hk:=Lib.hid (vP (0,0))
 have hb0:=(ah.new w 66 #[.int .i64 x, .int .i64 y]).alloc (.cells (bH (0,0)) 35)
 have hb1:=ah.new' (w.alloc (.cells #[.int .i64 x, .int .i64 y] 66)) 35 (bH (0,0)) rfl
 have hq0:=Q.trans (aO w #[.int .i64 x, .int .i64 y] 66) (aO _ (bH (0,0)) 35)
 have hs:(w.alloc (.cells #[.int .i64 x, .int .i64 y] 66)).heap.size=w.heap.size+1:=by simp
 rw[hs]at hb1
 change Calls _ _ #[.agg #[.int .i64 x, .int .i64 y], .string m] _ _
 change∀w,Calls _ _ #[.agg #[.int .i64 x, .int .i64 y]] _ _ at hR
 have HR:=Lib.hid hR
 clear hR
 go_enter Tryz.func79,Tryz.ntmps79
 go_wp2_with fail
 refine(HR.out _).mono ?_
 rintro e w1 ⟨rfl,hq1⟩
 have hb:=hb1.q hq1
 have hq:=Q.trans hq0 hq1
 clear hb0 hb1 hq0 hq1
 go_wp2_with (refine wpList_store_row rfl 35 _ _ rfl (w.heap.size+1) (bH (0,0)) rfl rfl 35 (bH (0,0)) hb (by kernel_rfl) (by kernel_rfl) hk.out ?_)
 exact bodyPost_ret (results_cell_row rfl _ _ (w.heap.size+1) 35 (bH (0,0)) (0,0) _ rfl (ah.setRow hb _) Tryz.underlying35 rfl (by kernel_rfl)) rfl ⟨rfl,below_setRow hq (by omega) _⟩
theorem amb(x y:Int)(m:ByteArray)(w:World)(hT:Tab w)(h:iP (x,y)=true)(hx:x<=9223372036854775807)(hy:y<=9223372036854775807)(hm:m.size<=140737488355200):
 Calls Tryz.prog 79 #[yK (x,y), .string m] w fun e w'=>e= .returned (yK (Lp x y m,Oy x y m))/\Q w w':=by
 have hR:=Ji (x,y)
 rw[h]at hR
 have hz:(Jj x m).size<=140737488355327:=by have:=Xx x m;omega
 have HZ:=Lib.hid hz
 clear hz
 have hk:=Lib.hid (vP (Lp x y m,Oy x y m))
 have hb0:=(ah.new w 66 #[.int .i64 x, .int .i64 y]).alloc (.cells (bH (0,0)) 35)
 have hb1:=ah.new' (w.alloc (.cells #[.int .i64 x, .int .i64 y] 66)) 35 (bH (0,0)) rfl
 have hq0:=Q.trans (aO w #[.int .i64 x, .int .i64 y] 66) (aO _ (bH (0,0)) 35)
 have hs:(w.alloc (.cells #[.int .i64 x, .int .i64 y] 66)).heap.size=w.heap.size+1:=by simp
 rw[hs]at hb1
 have hnb:1<=Lm x m/\Lm x m<=2305843009213693949:=Oq _
 have hgb:=Ll 37 (Lm x m)
 have HNB:=Lib.hid hnb
 have HGB:=Lib.hid hgb
 clear hnb hgb
 change Calls _ _ #[.agg #[.int .i64 x, .int .i64 y], .string m] _ _
 change∀w,Calls _ _ #[.agg #[.int .i64 x, .int .i64 y]] _ _ at hR
 have HR:=Lib.hid hR
 clear hR
 go_enter Tryz.func79,Tryz.ntmps79
 go_wp2_with fail
 refine(HR.out _).mono ?_
 rintro e w1 ⟨rfl,hq1⟩
 have hb:=hb1.q hq1
 have hc0:=(hb0.q hq1).cell 0
 have hc1:=(hb0.q hq1).cell 1
 simp only[List.getElem?_toArray,List.getElem?_cons_zero,List.getElem?_cons_succ]at hc0 hc1
 have hlt:=(hb0.q hq1).lt
 have hq:=Q.trans hq0 hq1
 have hX:Ctx w w1 (w.heap.size+1) 35 (bH (0,0)):=⟨hq,hT.q hq,hb⟩
 clear hb0 hb1 hq0 hq1 hq hb
 go_wp2_with fail
 go_region_held3 (fun w'=>w'.cell? ⟨w.heap.size,0,none⟩=some (.int .i64 x)/\w'.cell? ⟨w.heap.size,1,none⟩=some (.int .i64 y)/\w.heap.size<w'.heap.size/\Ctx w w' (w.heap.size+1) 35 (bH (0,0))) (first|exact⟨hc0,hc1,hlt,hX.q (Q.refl _).drew⟩|exact Xw (by assumption) hq|exact al4 (by assumption) _ _) (first|(go_at_call 59;refine(kY _ _ (by first|decide|omega)).mono ?_;rintro e w' ⟨rfl,hq⟩)|(go_at_call 60;refine(kM _ _ (by omega)).mono ?_;rintro e w' ⟨rfl,hq⟩)|(go_at_call 103;refine(al8 x m _ _ (by assumption) rfl HZ.out).mono ?_;rintro e w' ⟨rfl,hq⟩)|(go_at_call 102;refine(al9 x m _).mono ?_;rintro e w' ⟨rfl,hq⟩))
 go_wp2_with fail
 obtain⟨hc0,hc1,hlt,hX⟩:w'.cell? ⟨w.heap.size,0,none⟩=some (.int .i64 x)/\w'.cell? ⟨w.heap.size,1,none⟩=some (.int .i64 y)/\w.heap.size<w'.heap.size/\Ctx w w' (w.heap.size+1) 35 (bH (0,0)):=by assumption
 generalize w'=W at*
 go_region_held3 (fun w'=>w'.cell? ⟨w.heap.size,0,none⟩=some (.int .i64 x)/\w'.cell? ⟨w.heap.size,1,none⟩=some (.int .i64 y)/\w.heap.size<w'.heap.size/\Ctx w w' (w.heap.size+1) 35 (bH (0,0))) (first|exact⟨hc0,hc1,hlt,hX.q (Q.refl _).drew⟩|exact Xw (by assumption) hq) (first|(go_at_call 28;refine(Tv 37 _ _ (by have:=HNB.out;omega) (by have:=HNB.out;omega)).mono ?_;rintro e w' ⟨rfl,hq⟩)|(go_at_call 125;refine(al7 _ y m (by assumption) (by have:=HGB.out;omega) hy hm).mono ?_;rintro e w' ⟨rfl,hq⟩))
 obtain⟨hc0,hc1,hlt,hX⟩:w'.cell? ⟨w.heap.size,0,none⟩=some (.int .i64 x)/\w'.cell? ⟨w.heap.size,1,none⟩=some (.int .i64 y)/\w.heap.size<w'.heap.size/\Ctx w w' (w.heap.size+1) 35 (bH (0,0)):=by assumption
 generalize w'=W2 at*
 go_wp2_with fail
 refine(alS _ _ _).mono ?_
 rintro e W3 ⟨rfl,hq3⟩
 go_wp2_with fail
 refine(alR _ _ _).mono ?_
 rintro e W4 ⟨rfl,rfl⟩
 have hX:=hX.q hq3
 go_wp2_with (refine wpList_store_row rfl 35 _ _ rfl (w.heap.size+1) (bH (Lp x y m,Oy x y m)) rfl rfl 35 (bH (0,0)) hX.2.2 (by kernel_rfl) (by kernel_rfl) hk.out ?_)
 exact bodyPost_ret (results_cell_row rfl _ _ (w.heap.size+1) 35 (bH (Lp x y m,Oy x y m)) (0,0) _ rfl (ah.setRow hX.2.2 _) Tryz.underlying35 rfl (by kernel_rfl)) rfl ⟨rfl,below_setRow hX.1 (by omega) _⟩
theorem amd(k:Int×Int)(m:ByteArray)(w:World)(hT:Tab w)(hx:k.1<=9223372036854775807)(hy:k.2<=9223372036854775807)(hm:m.size<=140737488355200):
 Calls Tryz.prog 79 #[yK k, .string m] w fun e w'=>e= .returned (yK (yM k m))/\Q w w':=by
 unfold yM
 cases h:iP k with
 |false=>exact ama k m w h
 |true=>exact amb k.1 k.2 m w hT h hx hy hm
def ame(p:Int)(s:Int×Int):Bool:=(decide (1<=p)&&decide (p<2305843009213693951))&&(inI s.1&&inI s.2)
def amf(p:Int)(s:Int×Int):Int:=Dx (dW 37 s.2) (dW p (2305843009213693950-s.1))
def acG(p:Int)(m:ByteArray)(s:Int×Int):Bool:=ame p s&&decide (s.1=TD (amf p s) p m)
end Sign
end Go.Proofs.YtbemmjnjoabadaaGreatDoor
