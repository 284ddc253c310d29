/- part 1 -/
import Derived.Lib.Strings
import Derived.Test.YtbemmjnjoabadaaGreatDoorRows
import Derived.Test.YtbemmjnjoabadaaGreatDoorShelf
import Derived.WalkKit
import Derived.WalkSpells
import Derived.WalkLawsBesides
import Derived.Lib.Hide
import Derived.Lib.Mul64
import Derived.Laws.Bits64b
import Derived.Deep.QuietTactic
import Derived.BigQuiet
import Derived.Laws.OwnMore
import Derived.Deep.Draws
import Derived.Laws.Rows
import Derived.StillTailTactics
import Derived.Lib.AppendStr
import Derived.Lib.FrozenHead
import Derived.Laws.BytesArg
import Derived.Laws.IdiomStrings
import Derived.Laws.CopyRow
set_option linter.unusedVariables false
set_option linter.unusedSimpArgs false
set_option maxHeartbeats 400000
namespace Go.Proofs.YtbemmjnjoabadaaGreatDoor
namespace Code
def Ba:Nat->Nat->List UInt8
 |0,n=>[UInt8.ofNat n]
 |f+1,n=>if n<128 then[UInt8.ofNat n]else UInt8.ofNat (128+n%128)::Ba f (n/128)
def varint(n:Nat):List UInt8:=Ba 9 n
def aU(n:Int):ByteArray:=if n<0 then⟨#[]⟩else⟨(varint n.toNat).toArray⟩
def gZ(s:ByteArray):List UInt8:=varint s.size++s.data.toList
def aZ(s:ByteArray):ByteArray:=⟨(gZ s).toArray⟩
def lF(l:List ByteArray):List UInt8:=varint l.length++l.flatMap gZ
def Dp(l:List ByteArray):ByteArray:=⟨(lF l).toArray⟩
theorem akq:∀(f n:Nat),(Ba f n).length<=f+1:=by
 intro f
 induction f with
 |zero=>intro n;exact Nat.le_refl _
 |succ f ih=>
  intro n
  rw[Ba]
  split
  ·simp
  ·have:=ih (n/128)
   rw[List.length_cons]
   omega
theorem Og(n:Nat):(varint n).length<=10:=akq 9 n
theorem abv(n:Nat):0<(varint n).length:=by
 unfold varint Ba
 split<;>simp
theorem tK(l:List UInt8):(⟨l.toArray⟩:ByteArray).size=l.length:=by simp[ByteArray.size]
theorem rY(l:List UInt8):(⟨l.toArray⟩:ByteArray).data.toList=l:=by simp
theorem ny(s:ByteArray):s.data.toList.length=s.size:=by rw[Array.length_toList];rfl
theorem Bc{a b:ByteArray}(h:a.data.toList=b.data.toList):a=b:=by
 cases a;cases b
 congr 1
 exact Array.toList_inj.1 h
theorem Bd(a b:ByteArray):(a++b).data.toList=a.data.toList++b.data.toList:=by
 rw[ByteArray.data_append,Array.toList_append]
theorem iI(n:Int):(aU n).size<=10:=by
 unfold aU
 split
 ·exact Nat.zero_le _
 ·rw[tK];exact Og _
theorem akr(s:ByteArray):aU (s.size:Int)++s=aZ s:=by
 apply Bc
 rw[Bd]
 unfold aU aZ gZ
 rw[if_neg (by omega)]
 simp
theorem vN(s:ByteArray):(gZ s).length<=s.size+10:=by
 unfold gZ
 have:=Og s.size
 rw[List.length_append,ny]
 omega
end Code
namespace aQ
def Jc(m:Nat):Nat->Nat->Nat->Nat->Nat
 |0,acc,_,_=>acc
 |f+1,acc,b,e=>if e=0 then acc else Jc m f (if e%2=1 then acc*b%m else acc) (b*b%m) (e/2)
theorem aks(m:Nat):∀(f acc b e:Nat),e<2^f->Jc m f acc b e%m=acc*b^e%m:=by
 intro f
 induction f with
 |zero=>
  intro acc b e he
  have:e=0:=by omega
  subst this
  simp[Jc]
 |succ f ih=>
  intro acc b e he
  rw[Jc]
  by_cases h0:e=0
  ·subst h0;simp
  ·rw[if_neg h0,ih _ _ _ (by omega)]
   have hs:b^e=(b*b)^(e/2)*b^(e%2):=by
    rw[<-Nat.pow_two,<-Nat.pow_mul,<-Nat.pow_add,Nat.div_add_mod]
   by_cases h1:e%2=1
   ·rw[if_pos h1,hs,h1,Nat.pow_one,Nat.mul_mod,Nat.mod_mod,<-Nat.pow_mod,<-Nat.mul_mod]
    congr 1
    rw[Nat.mul_assoc,Nat.mul_comm b]
   ·have h2:e%2=0:=by omega
    rw[if_neg h1,hs,h2,Nat.pow_zero,Nat.mul_one,Nat.mul_mod,<-Nat.pow_mod,<-Nat.mul_mod]
theorem abw(m:Nat)(hm:0<m):∀(f acc b e:Nat),acc<m->Jc m f acc b e<m:=by
 intro f
 induction f with
 |zero=>intro acc b e h;exact h
 |succ f ih=>
  intro acc b e h
  rw[Jc]
  split
  ·exact h
  ·apply ih
   split
   ·exact Nat.mod_lt _ hm
   ·exact h
def pow(b e:Nat):Nat:=Jc 2305843009213693951 64 1 b e
theorem pow_eq(b e:Nat)(he:e<18446744073709551616):pow b e=b^e%2305843009213693951:=by
 have h1:=aks 2305843009213693951 64 1 b e he
 have h2:=abw 2305843009213693951 (by decide) 64 1 b e (by decide)
 rw[Nat.mod_eq_of_lt h2,Nat.one_mul]at h1
 exact h1
def S(k:Nat):Prop:=37^k%2305843009213693951=1
theorem SH{a:Nat}(h:S a)(k:Nat):S (a*k):=by
 unfold S at*
 rw[Nat.pow_mul,Nat.pow_mod,h,Nat.one_pow]
theorem akt{a b:Nat}(ha:S a)(hb:S b):S (b%a):=by
 have h1:=SH ha (b/a)
 unfold S at*
 have e:37^b=37^(a*(b/a))*37^(b%a):=by rw[<-Nat.pow_add,Nat.div_add_mod]
 rw[e,Nat.mul_mod,h1,Nat.one_mul,Nat.mod_mod]at hb
 exact hb
theorem aku(a b:Nat):S a->S b->S (Nat.gcd a b):=by
 induction a,b using Nat.gcd.induction with
 |H0 n=>intro _ h;rw[Nat.gcd_zero_left];exact h
 |H1 m n hm ih=>
  intro h1 h2
  rw[Nat.gcd_rec]
  exact ih (akt h1 h2) h1
theorem abx(k:Nat)(hk:k<18446744073709551616):S k↔pow 37 k=1:=by
 rw[pow_eq _ _ hk];exact Iff.rfl
theorem Xd:S 2305843009213693950:=(abx _ (by decide)).2 (by decide+kernel)
def Prim(q:Nat):Prop:=∀d,d∣q->d=1∨d=q
theorem zK(q:Nat)(hq:0<q)(h:∀d,d<q+1->d∣q->d=1∨d=q):Prim q:=
 fun d hd=>h d (Nat.lt_succ_of_le (Nat.le_of_dvd hq hd)) hd
theorem zL{q h:Nat}(hp:Prim q)(hn:¬q∣h):Nat.Coprime h q:=by
 rcases hp (Nat.gcd h q) (Nat.gcd_dvd_right h q)with e|e
 ·exact e
 ·exact absurd (e▸Nat.gcd_dvd_left h q) hn
theorem p2:Prim 2:=zK _ (by decide) (by decide+kernel)
theorem p3:Prim 3:=zK _ (by decide) (by decide+kernel)
theorem p5:Prim 5:=zK _ (by decide) (by decide+kernel)
theorem p7:Prim 7:=zK _ (by decide) (by decide+kernel)
theorem p11:Prim 11:=zK _ (by decide) (by decide+kernel)
theorem p13:Prim 13:=zK _ (by decide) (by decide+kernel)
theorem p31:Prim 31:=zK _ (by decide) (by decide+kernel)
theorem p41:Prim 41:=zK _ (by decide) (by decide+kernel)
theorem p61:Prim 61:=zK _ (by decide) (by decide+kernel)
theorem akv:Prim 151:=zK _ (by decide) (by decide+kernel)
theorem akw:Prim 331:=zK _ (by decide) (by decide+kernel)
theorem akx:Prim 1321:=zK _ (by decide) (by decide+kernel)
theorem zM{g h q r:Nat}(hg:S g)(hN:2305843009213693950=g*h)(hr:2305843009213693950=r*q)(hq:0<q)(hrl:r<18446744073709551616)(hne:pow 37 r≠1):¬q∣h:=by
 rintro⟨c,rfl⟩
 apply hne
 rw[<-abx _ hrl]
 have:r=g*c:=by
  have h1:r*q=g*c*q:=by rw[<-hr,hN,Nat.mul_assoc,Nat.mul_comm c q]
  exact Nat.eq_of_mul_eq_mul_right hq h1
 rw[this]
 exact SH hg c
theorem aby{k:Nat}(hk:S k):2305843009213693950∣k:=by
 have hg:=aku k 2305843009213693950 hk Xd
 obtain⟨h,hN⟩:=Nat.gcd_dvd_right k 2305843009213693950
 have aky:Nat.Coprime h 2305843009213693950:=by
  have e:2305843009213693950=2*(3*(3*(5*(5*(7*(11*(13*(31*(41*(61*(151*(331*1321)))))))))))):=by decide+kernel
  rw[e]
  have c2:=zL p2 (zM hg hN (r:=1152921504606846975) (by decide+kernel) (by decide) (by decide) (by decide+kernel))
  have c3:=zL p3 (zM hg hN (r:=768614336404564650) (by decide+kernel) (by decide) (by decide) (by decide+kernel))
  have c5:=zL p5 (zM hg hN (r:=461168601842738790) (by decide+kernel) (by decide) (by decide) (by decide+kernel))
  have c7:=zL p7 (zM hg hN (r:=329406144173384850) (by decide+kernel) (by decide) (by decide) (by decide+kernel))
  have c11:=zL p11 (zM hg hN (r:=209622091746699450) (by decide+kernel) (by decide) (by decide) (by decide+kernel))
  have c13:=zL p13 (zM hg hN (r:=177372539170284150) (by decide+kernel) (by decide) (by decide) (by decide+kernel))
  have c31:=zL p31 (zM hg hN (r:=74382032555280450) (by decide+kernel) (by decide) (by decide) (by decide+kernel))
  have c41:=zL p41 (zM hg hN (r:=56240073395455950) (by decide+kernel) (by decide) (by decide) (by decide+kernel))
  have c61:=zL p61 (zM hg hN (r:=37800705069076950) (by decide+kernel) (by decide) (by decide) (by decide+kernel))
  have akB:=zL akv (zM hg hN (r:=15270483504726450) (by decide+kernel) (by decide) (by decide) (by decide+kernel))
  have akC:=zL akw (zM hg hN (r:=6966293079195450) (by decide+kernel) (by decide) (by decide) (by decide+kernel))
  have akD:=zL akx (zM hg hN (r:=1745528394559950) (by decide+kernel) (by decide) (by decide) (by decide+kernel))
  exact c2.mul_right (c3.mul_right (c3.mul_right (c5.mul_right (c5.mul_right (c7.mul_right (c11.mul_right (c13.mul_right (c31.mul_right (c41.mul_right (c61.mul_right (akB.mul_right (akC.mul_right akD))))))))))))
 have h1:h=1:=Nat.Coprime.eq_one_of_dvd aky ⟨Nat.gcd k 2305843009213693950,by rw[Nat.mul_comm];exact hN⟩
 subst h1
 rw[Nat.mul_one]at hN
 rw[hN]
 exact Nat.gcd_dvd_left k _
theorem akE:∀(n:Nat) (f:Nat->Nat),(∀i,i<n->f i<n)->(∀i j,i<n->j<n->f i=f j->i=j)->∀y,y<n->∃i,i<n/\f i=y:=by
 intro n
 induction n with
 |zero=>intro f _ _ y hy;omega
 |succ n ih=>
  intro f hf hi y hy
  by_cases hv:f n=n
  ·by_cases hyn:y=n
   ·exact⟨n,by omega,by omega⟩
   ·obtain⟨i,hin,e⟩:=ih f (fun i h=>by
     have h1:=hf i (by omega)
     have h2:f i≠n:=fun e=>by have:=hi i n (by omega) (by omega) (by omega);omega
     omega) (fun i j h1 h2 e=>hi i j (by omega) (by omega) e) y (by omega)
    exact⟨i,by omega,e⟩
  ·have hvn:f n<n:=by have:=hf n (by omega);omega
   have hg:=ih (fun i=>if f i=n then f n else f i) (fun i h=>by
    have h1:=hf i (by omega)
    show(if f i=n then f n else f i)<n
    split<;>omega) (fun i j h1 h2 e=>by
    have e':(if f i=n then f n else f i)=(if f j=n then f n else f j):=e
    by_cases a:f i=n<;>by_cases b:f j=n<;>simp only[a,b,if_true,if_false]at e'
    ·exact hi i j (by omega) (by omega) (by omega)
    ·have:=hi n j (by omega) (by omega) e';omega
    ·have:=hi i n (by omega) (by omega) e';omega
    ·exact hi i j (by omega) (by omega) e')
   by_cases hyn:y=n
   ·obtain⟨i,hin,e⟩:=hg (f n) hvn
    have e':(if f i=n then f n else f i)=f n:=e
    by_cases a:f i=n
    ·exact⟨i,by omega,by omega⟩
    ·rw[if_neg a]at e'
     have:=hi i n (by omega) (by omega) e';omega
   ·obtain⟨i,hin,e⟩:=hg y (by omega)
    have e':(if f i=n then f n else f i)=y:=e
    by_cases a:f i=n
    ·rw[if_pos a]at e'
     exact⟨n,by omega,e'⟩
    ·rw[if_neg a]at e'
     exact⟨i,by omega,e'⟩
theorem Xe(k:Nat):37^k*37^(k*2305843009213693949)%2305843009213693951=1:=by
 rw[<-Nat.pow_add]
 have e:k+k*2305843009213693949=2305843009213693950*k:=by omega
 rw[e]
 exact SH Xd k
theorem Oh(k:Nat):37^k%2305843009213693951≠0:=by
 intro h
 have h1:=Xe k
 rw[Nat.mul_mod,h,Nat.zero_mul]at h1
 exact absurd h1 (by decide)
theorem abz{d e:Nat}(hde:d<=e)(h:37^d%2305843009213693951=37^e%2305843009213693951):S (e-d):=by
 have h1:37^e=37^d*37^(e-d):=by rw[<-Nat.pow_add];congr 1;omega
 have h2:=Xe d
 rw[Nat.mul_mod,h,<-Nat.mul_mod,h1]at h2
 have h3:37^d*37^(e-d)*37^(d*2305843009213693949)=37^(e-d)*(37^d*37^(d*2305843009213693949)):=by
  rw[Nat.mul_comm (37^d),Nat.mul_assoc]
 rw[h3,Nat.mul_mod,Xe d,Nat.mul_one,Nat.mod_mod]at h2
 exact h2
theorem akF{d e:Nat}(h:37^d%2305843009213693951=37^e%2305843009213693951):d%2305843009213693950=e%2305843009213693950:=by
 rcases Nat.le_total d e with hde|hde
 ·have:=aby (abz hde h);omega
 ·have:=aby (abz hde h.symm);omega
theorem abA(a:Nat)(h0:a%2305843009213693951≠0):∃i,a%2305843009213693951=37^i%2305843009213693951:=by
 have key:=akE 2305843009213693950 (fun i=>37^i%2305843009213693951-1) (fun i _=>by
  have h1:=Oh i
  have h2:37^i%2305843009213693951<2305843009213693951:=Nat.mod_lt _ (by decide)
  show 37^i%2305843009213693951-1<2305843009213693950
  omega) (fun i j hi hj e=>by
  have h1:=Oh i
  have h2:=Oh j
  have e':37^i%2305843009213693951-1=37^j%2305843009213693951-1:=e
  have h3:37^i%2305843009213693951=37^j%2305843009213693951:=by omega
  have:=akF h3
  omega) (a%2305843009213693951-1) (by
  have h2:a%2305843009213693951<2305843009213693951:=Nat.mod_lt _ (by decide)
  omega)
 obtain⟨i,_,e⟩:=key
 have e':37^i%2305843009213693951-1=a%2305843009213693951-1:=e
 have h1:=Oh i
 exact⟨i,by omega⟩
def NN:Nat:=2305843009213693950
theorem akG(a:Nat)(h0:a%2305843009213693951≠0):a^NN%2305843009213693951=1:=by
 obtain⟨i,e⟩:=abA a h0
 rw[Nat.pow_mod,e,<-Nat.pow_mod,<-Nat.pow_mul,Nat.mul_comm]
 have h:=SH Xd i
 unfold S at h
 unfold NN
 exact h
theorem abB(a:Nat)(h0:a%2305843009213693951≠0)(e:Nat):a^(e%NN)%2305843009213693951=a^e%2305843009213693951:=by
 have hs:a^e=(a^NN)^(e/NN)*a^(e%NN):=by
  rw[<-Nat.pow_mul,<-Nat.pow_add,Nat.div_add_mod]
 have h2:(a^NN)^(e/NN)%2305843009213693951=1:=by
  rw[Nat.pow_mod,akG a h0,Nat.one_pow]
 rw[hs,Nat.mul_mod,h2,Nat.one_mul,Nat.mod_mod]
theorem akH(a:Nat)(h0:a%2305843009213693951≠0)(e:Nat):a^e%2305843009213693951≠0:=by
 obtain⟨i,h⟩:=abA a h0
 rw[Nat.pow_mod,h,<-Nat.pow_mod,<-Nat.pow_mul]
 exact Oh _
end aQ
namespace aQ
open Go.RowKit
def Q(w w':World):Prop:=Below w.heap.size w w'
theorem Q.refl(w:World):Q w w:=Below.refl _ _
theorem Q.trans{a b c:World}(h:Q a b)(k:Q b c):Q a c:=Below.trans h (Below.mono k h.size)
theorem Q.drew{a b:World}(h:Q a b):Q a b.drew:=Below.drew h
theorem Q.drewN{a b:World}(h:Q a b)(n:Nat):Q a (b.drewN n):=below_drewN h n
theorem abC(a:Int){m:Int}:a%m=a.tmod m%m:=by
 conv=>lhs;rw[<-Int.tmod_add_mul_tdiv a m]
 rw[Int.add_mul_emod_self_left]
theorem akI(a:Int){m:Int}(hm:0<m)(h:0<=a.tmod m):a.tmod m=a%m:=by
 rw[abC a,Int.emod_eq_of_lt h (Int.tmod_lt_of_pos a hm)]
theorem tmod_neg(a:Int){m:Int}(hm:0<m)(hm':m<=9223372036854775807)(h:a.tmod m<0):wrap64 (a.tmod m+m)=a%m:=by
 have h1:=Int.lt_tmod_of_pos a hm
 rw[IntWalk.wrap64_in _ ⟨by omega,by omega⟩,abC a,<-Int.add_emod_right,Int.emod_eq_of_lt (by omega) (by omega)]
theorem zN(a:Int){m:Int}(hm:0<m):0<=a%m/\a%m<m:=⟨Int.emod_nonneg a (by omega),Int.emod_lt_of_pos a hm⟩
theorem SI{k:IntKind}{a b:Int}(h:a=b):Ending.returned (.int k a)= .returned (.int k b):=by rw[h]
theorem SK(a m:Int)(w:World)(hm:0<m)(hm':m<=9223372036854775807):
 Calls Tryz.prog 73 #[.int .i64 a, .int .i64 m] w fun e w'=>e= .returned (.int .i64 (a%m))/\w=w':=by
 go_enter Tryz.func73,Tryz.ntmps73
 go_wp2
 ·go_ret
  exact⟨SI (tmod_neg a hm hm' (by assumption)),rfl⟩
 ·go_ret
  exact⟨SI (akI a hm (by assumption)),rfl⟩
theorem add_any(a b m:Int)(w:World)(hm:0<m)(hm':m<=4611686018427387904):
 Calls Tryz.prog 160 #[.int .i64 a, .int .i64 b, .int .i64 m] w fun e w'=>e= .returned (.int .i64 ((a+b)%m))/\w=w':=by
 obtain⟨a0,a1⟩:=zN a hm
 obtain⟨b0,b1⟩:=zN b hm
 go_enter Tryz.func160,Tryz.ntmps160
 go_wp2_with (go_at_call 73;refine(SK _ _ _ hm (by omega)).mono ?_;rintro e w' ⟨rfl,rfl⟩)
 go_ret
 exact⟨rfl,rfl⟩
end aQ
namespace Mem
open Go.RowKit aQ
def ah(w:World)(g:Nat)(t:TypeId)(cs:Array Value):Prop:=w.heap[g]?=some (.cells cs t (0,0))
section
variable {w w':World} {g:Nat} {t:TypeId} {cs:Array Value}
theorem ah.lt(h:ah w g t cs):g<w.heap.size:=by
 rcases Nat.lt_or_ge g w.heap.size with hlt|hge
 ·exact hlt
 ·unfold ah at h;rw[Array.getElem?_eq_none hge]at h;cases h
theorem ah.cell(h:ah w g t cs)(i:Nat):w.cell? ⟨g,i,none⟩=cs[i]?:=cell_of_row w g i cs t (0,0) h
theorem ah.frozen(h:ah w g t cs)(i:Nat):w.frozen? ⟨g,i,none⟩=false:=by
 unfold ah at h
 simp[World.frozen?,h]
theorem ah.new(w:World)(t:TypeId)(cs:Array Value):ah (w.alloc (.cells cs t)) w.heap.size t cs:=heap_alloc_new w _
theorem ah.new'(w:World)(t:TypeId)(cs:Array Value)(h:g=w.heap.size):ah (w.alloc (.cells cs t)) g t cs:=by subst h;exact heap_alloc_new w _
theorem ah.drew(h:ah w g t cs):ah w.drew g t cs:=h
theorem ah.drewN(h:ah w g t cs)(n:Nat):ah (w.drewN n) g t cs:=h
theorem ah.alloc(h:ah w g t cs)(o:Obj):ah (w.alloc o) g t cs:=(Below.heap_alloc w o g h.lt).trans h
theorem ah.Dq(h:ah w g t cs)(i:Nat)(u:Value):ah (w.setCell ⟨g,i,none⟩ u) g t (cs.setIfInBounds i u):=by
 unfold ah at h⊢
 simp[World.setCell,Array.getElem?_modify,h]
theorem ah.far(h:ah w g t cs){p:Addr}(hp:g≠p.block)(u:Value):ah (w.setCell p u) g t cs:=(Below.heap_setCell w p u g hp).trans h
theorem ah.below{B:Nat}(h:ah w g t cs)(hb:Below B w w')(hg:g<B):ah w' g t cs:=(hb.block g hg).trans h
theorem ah.q(h:ah w g t cs)(hb:Q w w'):ah w' g t cs:=(hb.block g h.lt).trans h
end
theorem ah.setRow{w:World}{g:Nat}{t:TypeId}{cs:Array Value}(h:ah w g t cs)(cs':Array Value):ah (w.setRow g cs') g t cs':=by
 have hlt:=h.lt
 unfold ah at h⊢
 have hv:w.heap[g]= .cells cs t (0,0):=(Array.getElem?_eq_some_iff.1 h).2
 simp[World.setRow,Array.getElem?_modify,h]
theorem setRow_other{w:World}{g k:Nat}(hk:k≠g)(cs':Array Value):(w.setRow g cs').heap[k]?=w.heap[k]?:=by
 simp[World.setRow,Array.getElem?_modify,Ne.symm hk]
theorem ah.abD{w:World}{g g':Nat}{t:TypeId}{cs:Array Value}(h:ah w g t cs)(hne:g≠g')(cs':Array Value):ah (w.setRow g' cs') g t cs:=(setRow_other hne cs').trans h
theorem below_setRow{B:Nat}{a w:World}(h:Below B a w){g:Nat}(hg:B<=g)(cs':Array Value):Below B a (w.setRow g cs'):=
 h.trans ⟨rfl,rfl,rfl,by simp[World.setRow],fun k hk=>setRow_other (by omega) cs'⟩
theorem abE{P:Program}{ops:Array Oper}{rest:List Oper}{o:Oper}{a:Act}{w:World}{Q:Act->Prop}(hgd:o.guard=none)(ty:TypeId)(x:Operand)(ho:o.op= .load ty x)
 (g:Nat) (hx:a.eval x= .pointer (some ⟨g,0,none⟩)) (t:TypeId) (cs:Array Value) (fr:Nat×Nat) (d:TypeDesc) (hg:w.heap[g]?=some (.cells cs t fr))
 (hu:P.underlying ty=some d) (hd:(match d with| .struct _| .array _ _=>true|_=>false)=true) (hi:(P.info? ty).map (·.size)=some cs.size)
 (h:wpStill P ops w Q rest (a.put o.dst (.agg cs))):wpStill P ops w Q (o::rest) a:=by
 have hw:Region.wanted o (yielded ops a.tmps)=true:=by simp[Region.wanted,hgd]
 unfold wpStill
 rw[if_pos hw]
 unfold Oper.still execOp
 simp only[ho,hx,Instr.loadAt,Instr.sureAddr,Sem.run_bind,Sem.run_pure,Result.andThen_ok,run_loadVar_row w g t ty cs fr d hg hu hd hi]
 rw[Oper.stillUpon_value]
 exact h
theorem akJ{P:Program}{f:FuncId}{args:Array Value}{w:World}{a n:Nat}{v:Value}
 (h:Calls P f args (w.drewN (a+n)) fun e w'=>e= .returned v/\w.drewN (a+n)=w'):
 Calls P f args (w.drewN (a+n)) fun e w''=>e= .returned v/\∃m,w''=w.drewN (a+m):=
 h.mono fun _ _ ⟨he,hm⟩=>⟨he,n,hm.symm⟩
def ints(k:IntKind)(n:Nat)(f:Nat->Int):Array Value:=((List.range n).map fun j=>Value.int k (f j)).toArray
theorem SL(k:IntKind)(n:Nat)(f:Nat->Int)(i:Nat)(h:i<n):(ints k n f)[i]?=some (.int k (f i)):=by
 simp[ints,List.getElem?_range h]
theorem Xf(k:IntKind)(n:Nat)(f:Nat->Int):(ints k n f).size=n:=by simp[ints]
theorem ints_set(k:IntKind)(n:Nat)(f g:Nat->Int)(i:Nat)(x:Int)(h1:g i=x)(h2:∀j,j<n->j≠i->g j=f j):(ints k n f).setIfInBounds i (.int k x)=ints k n g:=by
 apply Array.ext_getElem?
 intro j
 by_cases hj:j<n
 ·rw[Array.getElem?_setIfInBounds,SL k n g j hj,SL k n f j hj,Xf]
  by_cases e:i=j
  ·subst e;rw[if_pos rfl,if_pos hj,h1]
  ·rw[if_neg e,h2 j hj (Ne.symm e)]
 ·rw[Array.getElem?_eq_none (by rw[Array.size_setIfInBounds,Xf];omega),Array.getElem?_eq_none (by rw[Xf];omega)]
def Loose(fz:Nat×Nat)(n:Nat):Prop:=fz.2=0∨n<=fz.1
def aV(w:World)(base:Nat)(e:TypeId)(size:Nat)(v:Value)(n:Nat)(xs:List Value):Prop:=
 xs.length=n*size/\
 ((v= .slice none 0 0/\n=0)∨
  ∃g cap cur fz,v= .slice (some ⟨g,0,none⟩) n cap/\base<=g/\w.heap[g]?=some (.cells cur e fz)/\Loose fz cur.size/\n<=cap/\cap<=maxLen/\cur.size=cap*size/\cur.toList.take (n*size)=xs)
section
variable {w w':World} {base:Nat} {e:TypeId} {size:Nat} {v:Value} {n:Nat} {xs:List Value}
theorem aV.of(h:w.ownsRow base e size v n xs):aV w base e size v n xs:=by
 refine⟨h.1,?_⟩
 rcases h.2 with hn|⟨g,cap,cur,hv,hb,hg,rest⟩
 ·exact .inl hn
 ·exact .inr ⟨g,cap,cur,(0,0),hv,hb,hg, .inl rfl,rest⟩
theorem aV.nil_(w:World)(base:Nat)(e:TypeId)(size:Nat):aV w base e size (.slice none 0 0) 0 []:=⟨by simp, .inl ⟨rfl,rfl⟩⟩
theorem aV.shape(h:aV w base e size v n xs):∃A cap,v= .slice A n cap/\n<=cap/\cap<=maxLen:=by
 rcases h.2 with⟨rfl,rfl⟩|⟨g,cap,cur,fz,rfl,_,_,_,h1,h2,_⟩
 ·exact⟨none,0,rfl,Nat.le_refl _,Nat.zero_le _⟩
 ·exact⟨_,cap,rfl,h1,h2⟩
theorem aV.lt(h:aV w base e size v n xs):∀k,v.ownBlock=some k->base<=k/\k<w.heap.size:=by
 intro k hk
 rcases h.2 with⟨rfl,_⟩|⟨g,cap,cur,fz,rfl,hb,hg,_⟩
 ·simp[Value.ownBlock]at hk
 ·simp[Value.ownBlock]at hk
  subst hk
  exact⟨hb,(Array.getElem?_eq_some_iff.1 hg).1⟩
theorem aV.keep(h:aV w base e size v n xs)(hk:∀k,v.ownBlock=some k->w'.heap[k]?=w.heap[k]?):aV w' base e size v n xs:=by
 refine⟨h.1,?_⟩
 rcases h.2 with hn|⟨g,cap,cur,fz,rfl,hb,hgg,rest⟩
 ·exact .inl hn
 ·refine .inr ⟨g,cap,cur,fz,rfl,hb,?_,rest⟩
  rw[hk g rfl]
  exact hgg
theorem aV.q(h:aV w base e size v n xs)(hq:Q w w'):aV w' base e size v n xs:=h.keep fun k hk=>hq.block k (h.lt k hk).2
theorem aV.drew(h:aV w base e size v n xs):aV w.drew base e size v n xs:=h
theorem aV.drewN(h:aV w base e size v n xs)(k:Nat):aV (w.drewN k) base e size v n xs:=h
theorem aV.alloc(h:aV w base e size v n xs)(o:Obj):aV (w.alloc o) base e size v n xs:=h.keep fun k hk=>Below.heap_alloc w o k (h.lt k hk).2
theorem aV.grown(h:aV w base e size v n xs){row:Option Nat}(hg:w.grownBy w' row)(hne:v.ownBlock≠row∨v.ownBlock=none):aV w' base e size v n xs:=h.keep fun k hk=>hg.block k (h.lt k hk).2 (fun e=>by
 rcases hne with h1|h1
 ·exact h1 (by rw[hk,e])
 ·rw[h1]at hk;cases hk)
theorem aV.low(h:aV w base e size v n xs){b:Nat}(hb:b<=base):aV w b e size v n xs:=by
 refine⟨h.1,?_⟩
 rcases h.2 with hn|⟨g,cap,cur,fz,rfl,hg,rest⟩
 ·exact .inl hn
 ·exact .inr ⟨g,cap,cur,fz,rfl,Nat.le_trans hb hg,rest⟩
theorem aV.cells(h:aV w base e size v n xs){g:Nat}(hg:v.ownBlock=some g):∀j u,xs[j]?=some u->w.cell? ((⟨g,0,none⟩:Addr).add j)=some u:=by
 intro j u hu
 rcases h.2 with⟨rfl,_⟩|⟨g',cap,cur,fz,rfl,_,hgg,_,_,_,_,htake⟩
 ·simp[Value.ownBlock]at hg
 ·simp[Value.ownBlock]at hg
  subst hg
  have hadd:(⟨g',0,none⟩:Addr).add j=⟨g',j,none⟩:=by unfold Addr.add;split<;>simp_all
  rw[hadd,cell_of_row w g' j cur e fz hgg]
  rw[<-htake,List.getElem?_take]at hu
  split at hu
  ·simpa using hu
  ·cases hu
theorem aV.cellAt{A:Option Addr}{cap:Nat}(h:aV w base e size (.slice A n cap) n xs)(j:Nat)(u:Value)(hu:xs[j]?=some u):∃g,A=some ⟨g,0,none⟩/\base<=g/\g<w.heap.size/\w.cell? ⟨g,j,none⟩=some u/\w.frozen? ⟨g,j,none⟩=false:=by
 rcases h.2 with⟨hv,rfl⟩|⟨g,cap',cur,fz,hv,hb,hgg,hl,_,_,hs,htake⟩
 ·have:=h.1
  simp at this
  subst this
  simp at hu
 ·injection hv with hA
  subst hA
  have hc:cur[j]?=some u:=by
   rw[<-htake,List.getElem?_take]at hu
   split at hu
   ·simpa using hu
   ·cases hu
  refine⟨g,rfl,hb,(Array.getElem?_eq_some_iff.1 hgg).1,?_,?_⟩
  ·rw[cell_of_row w g j cur e fz hgg];exact hc
  ·have hj:j<cur.size:=(Array.getElem?_eq_some_iff.1 hc).1
   obtain⟨lo,hi⟩:=fz
   rcases hl with h0|h0
   ·simp only at h0
    subst h0
    simp[World.frozen?,hgg]
   ·simp only at h0
    simp only[World.frozen?,hgg,Bool.and_eq_false_iff,decide_eq_false_iff_not]
    left
    omega
end
theorem below_grown{B:Nat}{w w':World}{row:Option Nat}(hg:w.grownBy w' row)(hB:B<=w.heap.size)(hr:∀k,row=some k->B<=k):Below B w w':=(Below.refl B w).grown hg hB hr
theorem Jd{w0 w w':World}{e:TypeId}{size n:Nat}{v:Value}{xs:List Value}{o:Obj}(hq:Q w0 w)(hown:aV w w0.heap.size e size v n xs)(hg:(w.alloc o).grownBy w' v.ownBlock):Q w0 w':=
 Below.trans (Below.alloc hq hq.size o) (below_grown hg (by have:=hq.size;simp;omega) fun k hk=>(hown.lt k hk).1)
theorem akK{w0 w w':World}{e:TypeId}{size n:Nat}{v:Value}{xs:List Value}(hq:Q w0 w)(hown:aV w w0.heap.size e size v n xs)(hg:w.grownBy w' v.ownBlock):Q w0 w':=
 Below.trans hq (below_grown hg hq.size fun k hk=>(hown.lt k hk).1)
theorem SQ(P:Program)(g o:Nat)(t:TypeId)(fz:Nat×Nat):∀(vs:List Value) (i:Nat) (cur:Array Value) (w:World),w.heap[g]?=some (.cells cur t fz)->Loose fz cur.size->o+i+vs.length<=cur.size->(∀v∈vs,v.oneCell'=true)->
 (storeCells ⟨g,o,none⟩ vs i).run P w= .ok () (w.setRow g (cur.toList.take (o+i)++vs++cur.toList.drop (o+i+vs.length)).toArray)
 |[],i,cur,w,hg,_,_,_=>by
  simp only[storeCells,List.append_nil,List.length_nil,Nat.add_zero,List.take_append_drop,Array.toArray_toList]
  rw[setRow_self w g cur t fz hg]
  rfl
 |v::rest,i,cur,w,hg,hfz,hl,h1=>by
  have hi:o+i<cur.size:=by simp at hl;omega
  have hadd:(⟨g,o,none⟩:Addr).add i=⟨g,o+i,none⟩:=by unfold Addr.add;split<;>simp_all
  have hcell:w.cell? ⟨g,o+i,none⟩=some cur[o+i]:=by simp[World.cell?,hg,hi]
  have hfro:w.frozen? ⟨g,o+i,none⟩=false:=by
   obtain⟨lo,hi'⟩:=fz
   rcases hfz with h0|h0
   ·simp only at h0
    subst h0
    simp[World.frozen?,hg]
   ·simp only at h0
    simp only[World.frozen?,hg,Bool.and_eq_false_iff,decide_eq_false_iff_not]
    left
    omega
  have hst:(store ((⟨g,o,none⟩:Addr).add i) v).run P w= .ok () (w.setRow g (cur.setIfInBounds (o+i) v)):=by
   rw[hadd,run_store P w _ v _ (h1 v (by simp)),hcell]
   simp[hfro,setCell_eq_setRow w g (o+i) cur t fz v hg]
  have ih:=SQ P g o t fz rest (i+1) (cur.setIfInBounds (o+i) v) (w.setRow g (cur.setIfInBounds (o+i) v)) (setRow_heap w g cur _ t _ hg) (by simpa using hfz) (by simp at hl⊢;omega) (fun x hx=>h1 x (by simp[hx]))
  simp only[storeCells,Sem.run_bind,hst,Result.andThen_ok,ih,setRow_setRow]
  congr 3
  have e:=list_seg_step cur.toList (o+i) v rest (by simp at hl⊢;omega)
  simpa[Array.toList_setIfInBounds,Nat.add_assoc]using e
section
variable {P:Program} (w:World)
theorem abG(base:Nat)(t ty e:TypeId)(i:TypeInfo)(z:Value)(size bytes:Nat)(ht:P.underlying t=some (.slice e))(hi:P.info? e=some i)(hz:i.zero=some z)
 (hsize:i.size=size) (hby:i.bytes=bytes) (hzs:z.cells.size=size) (hsz:0<size)
 (v:Value) (n:Nat) (xs:List Value) (hown:aV w base e size v n xs)
 (a:Addr) (m c:Nat) (news:List Value) (hl:news.length=m*size) (hnews:∀j u,news[j]?=some u->w.cell? (a.add j)=some u) (h1:∀u∈news,u.oneCell'=true)
 (h63:n+m<=maxLen) (hbytes:(n+m)*bytes<=140737488355328) (hbase:base<=w.heap.size):
 ∃v' w',(Builtin.append_ #[t,t] ty #[v, .slice (some a) m c]).run P w= .ok v' w'/\aV w' base e size v' (n+m) (xs++news)/\w.grownBy w' v.ownBlock:=by
 rcases hown.2 with⟨rfl,rfl⟩|⟨g,cap,cur,fz,rfl,hbg,hg,hfz,hnc,hcm,hcs,htake⟩
 ·obtain⟨v',w',h1,h2,h3,_⟩:=run_append_own (P:=P) w base t ty e i z size bytes ht hi hz hsize hby hzs hsz (.slice none 0 0) 0 xs ⟨hown.1, .inl ⟨rfl,rfl⟩⟩ a m c news hl hnews h1 h63 hbytes hbase
  exact⟨v',w',h1,aV.of h2,h3⟩
 ·subst hsize
  subst hby
  have hsmall:n+m<=9223372036854775807:=by simp only[maxLen]at h63;omega
  have hlen:(xs++news).length=(n+m)*i.size:=by rw[List.length_append,hown.1,hl,Nat.add_mul]
  by_cases hroom:n+m<=cap
  ·have hfit:n*i.size+news.length<=cur.size:=by rw[hl,hcs,<-Nat.add_mul];exact Nat.mul_le_mul_right _ hroom
   have hf:=run_firstCells_some (P:=P) w i.size m a m c news hl hnews
   have hst:=SQ P g (n*i.size) e fz news 0 cur w hg hfz (by simpa using hfit) h1
   simp only[Nat.add_zero]at hst
   have hr:(Builtin.append_ #[t,t] ty #[.slice (some ⟨g,0,none⟩) n cap, .slice (some a) m c]).run P w=
    .ok (.slice (some ⟨g,0,none⟩) (n+m) cap) (w.setRow g (cur.toList.take (n*i.size)++news++cur.toList.drop (n*i.size+news.length)).toArray):=by
    simp[Builtin.append_,run_underlying ht,sizeOf,typeInfo,hi,Builtin.lenOf,hroom,hf,Addr.add_lit,hst]
   have hcsz:(cur.toList.take (n*i.size)++news++cur.toList.drop (n*i.size+news.length)).toArray.size=cur.size:=by
    simp only[List.size_toArray,List.length_append,List.length_take,List.length_drop,Array.length_toList]
    omega
   refine⟨_,_,hr,⟨hlen, .inr ⟨g,cap,_,fz,rfl,hbg,setRow_heap w g cur _ e _ hg,by rw[hcsz];exact hfz,hroom,hcm,hcsz.trans hcs,?_⟩⟩,⟨rfl,rfl,rfl,by simp,fun k _ hk=>Go.setRow_other w g k _ (fun e=>hk (by simp[Value.ownBlock,e]))⟩⟩
   rw[htake,<-hlen]
   exact List.take_left
  ·have holds:∀j u,xs[j]?=some u->w.cell? ((⟨g,0,none⟩:Addr).add j)=some u:=hown.cells (g:=g) rfl
   have hr:=run_append_grow (P:=P) w t ty e i z ht hi hz ⟨g,0,none⟩ n cap xs hown.1 holds a m c news hl hnews (by omega) (by omega) (growslice_fits (by omega) hbytes)
   have hge:=grownCap_ge w (n+m) cap e
   have hcm2:grownCap w (n+m) cap e<=maxLen:=grownCap_le_maxLen w (n+m) cap e h63
   refine⟨_,_,hr,⟨hlen, .inr ⟨w.heap.size,_,_,(0,0),rfl,hbase,heap_alloc_new w.drew _, .inl rfl,hge,hcm2,?_,?_⟩⟩,⟨rfl,rfl,rfl,by simp,fun k hk _=>Below.heap_alloc w.drew _ k hk⟩⟩
   ·simp only[Array.size_append,List.size_toArray,size_zeroCells,hzs,hown.1,hl,<-Nat.add_mul]
    congr 1
    omega
   ·simp only[Array.toList_append,List.append_assoc]
    rw[<-List.append_assoc,<-hlen]
    exact List.take_left
theorem Gv{ops:Array Oper}{rest:List Oper}{o:Oper}{a:Act}{Q:Exit->Act->World->Prop}(hgd:o.guard=none)(s x:Operand)(t:TypeId)
 (ho:o.op= .call {callee:= .builtin .append,args:= #[s,x],argTypes:= #[t,t]})
 (base:Nat) (e:TypeId) (i:TypeInfo) (z:Value) (size bytes:Nat) (ht:P.underlying t=some (.slice e)) (hi:P.info? e=some i) (hz:i.zero=some z)
 (hsize:i.size=size) (hby:i.bytes=bytes) (hzs:z.cells.size=size) (hsz:0<size)
 (v:Value) (n:Nat) (xs:List Value) (hs:a.eval s=v) (hown:aV w base e size v n xs)
 (ad:Addr) (m c:Nat) (news:List Value) (hx:a.eval x= .slice (some ad) m c) (hl:news.length=m*size) (hnews:∀j u,news[j]?=some u->w.cell? (ad.add j)=some u) (h1:∀u∈news,u.oneCell'=true)
 (h63:n+m<=maxLen) (hbytes:(n+m)*bytes<=140737488355328) (hbase:base<=w.heap.size)
 (h:∀v' w',aV w' base e size v' (n+m) (xs++news)->w.grownBy w' v.ownBlock->wpList P ops Q rest (a.put o.dst v') w'):wpList P ops Q (o::rest) a w:=
 wpList_plain hgd fun _ hK=>by
  obtain⟨v',w',hr,h2,h3⟩:=abG (P:=P) w base t o.type e i z size bytes ht hi hz hsize hby hzs hsz v n xs hown ad m c news hl hnews h1 h63 hbytes hbase
  unfold Oper.wp execOp
  simp only[ho,resolve,invoke,builtin,Sem.run_bind,Sem.run_pure,Result.andThen_ok,List.map_toArray,List.map_cons,List.map_nil,hs,hx,hr]
  exact hK _ _ (h v' w' h2 h3)
theorem akL(base:Nat)(t u ty e:TypeId)(i:TypeInfo)(ht:P.underlying t=some (.slice e))(hu:P.underlying u=some .string)(hi:P.info? e=some i)(hz:i.zero=some (.int .u8 0))
 (hsize:i.size=1) (hby:i.bytes=1)
 (v:Value) (n:Nat) (xs:List Value) (hown:aV w base e 1 v n xs) (s:ByteArray)
 (h63:n+s.size<=maxLen) (hbytes:n+s.size<=140737488355328) (hbase:base<=w.heap.size):
 ∃v' w',(Builtin.append_ #[t,u] ty #[v, .string s]).run P w= .ok v' w'/\aV w' base e 1 v' (n+s.size) (xs++Lib.strCells s)/\w.grownBy w' v.ownBlock:=by
 rcases hown.2 with⟨rfl,rfl⟩|⟨g,cap,cur,fz,rfl,hbg,hg,hfz,hnc,hcm,hcs,htake⟩
 ·obtain⟨v',w',h1,h2,h3,_⟩:=Lib.run_append_own_string (P:=P) w base t u ty e i ht hu hi hz hsize hby (.slice none 0 0) 0 xs ⟨hown.1, .inl ⟨rfl,rfl⟩⟩ s h63 hbytes hbase
  exact⟨v',w',h1,aV.of h2,h3⟩
 ·have hsmall:n+s.size<=9223372036854775807:=by simp only[maxLen]at h63;omega
  have hxl:xs.length=n:=by simpa using hown.1
  have hlen:(xs++Lib.strCells s).length=(n+s.size)*1:=by rw[List.length_append,hxl,Lib.strCells_length,Nat.mul_one]
  by_cases hroom:n+s.size<=cap
  ·have hcs':cur.size=cap:=by simpa using hcs
   have hf:=Lib.run_firstCells_string (P:=P) w 1 s
   have hst:=SQ P g n e fz (Lib.strCells s) 0 cur w hg hfz (by simp only[Lib.strCells_length];omega) (Lib.strCells_oneCell s)
   simp only[Nat.add_zero,Lib.strCells_length]at hst
   have hr:(Builtin.append_ #[t,u] ty #[.slice (some ⟨g,0,none⟩) n cap, .string s]).run P w=
    .ok (.slice (some ⟨g,0,none⟩) (n+s.size) cap) (w.setRow g (cur.toList.take n++Lib.strCells s++cur.toList.drop (n+s.size)).toArray):=by
    simp[Builtin.append_,run_underlying ht,run_underlying hu,sizeOf,typeInfo,hi,hsize,Builtin.lenOf,hroom,hf,Addr.add_lit,hst]
   have hcsz:(cur.toList.take n++Lib.strCells s++cur.toList.drop (n+s.size)).toArray.size=cur.size:=by
    simp only[List.size_toArray,List.length_append,List.length_take,List.length_drop,Array.length_toList,Lib.strCells_length]
    omega
   refine⟨_,_,hr,⟨hlen, .inr ⟨g,cap,_,fz,rfl,hbg,setRow_heap w g cur _ e _ hg,by rw[hcsz];exact hfz,hroom,hcm,hcsz.trans hcs,?_⟩⟩,⟨rfl,rfl,rfl,by simp,fun k _ hk=>Go.setRow_other w g k _ (fun e=>hk (by simp[Value.ownBlock,e]))⟩⟩
   have ht':cur.toList.take n=xs:=by simpa using htake
   rw[ht',<-hlen]
   exact List.take_left
  ·have holds:∀j u,xs[j]?=some u->w.cell? ((⟨g,0,none⟩:Addr).add j)=some u:=hown.cells (g:=g) rfl
   have hr:=Lib.run_append_grow_string (P:=P) w t u ty e i (.int .u8 0) ht hu hi hz ⟨g,0,none⟩ n cap xs (by rw[hsize];simpa using hxl) holds s (by omega) (by omega) (by rw[hby];exact growslice_fits (by omega) (by omega))
   have hge:=grownCap_ge w (n+s.size) cap e
   have hcm2:grownCap w (n+s.size) cap e<=maxLen:=grownCap_le_maxLen w (n+s.size) cap e h63
   refine⟨_,_,hr,⟨hlen, .inr ⟨w.heap.size,_,_,(0,0),rfl,hbase,heap_alloc_new w.drew _, .inl rfl,hge,hcm2,?_,?_⟩⟩,⟨rfl,rfl,rfl,by simp,fun k hk _=>Below.heap_alloc w.drew _ k hk⟩⟩
   ·have hz1:(Value.int IntKind.u8 0).cells.size=1:=rfl
    simp only[Array.size_append,List.size_toArray,size_zeroCells,hz1,hxl,Lib.strCells_length]
    omega
   ·simp only[Array.toList_append,List.append_assoc]
    rw[<-List.append_assoc,<-hlen]
    exact List.take_left
theorem SS{ops:Array Oper}{rest:List Oper}{o:Oper}{a:Act}{Q:Exit->Act->World->Prop}(hgd:o.guard=none)(sl x:Operand)(t u:TypeId)
 (ho:o.op= .call {callee:= .builtin .append,args:= #[sl,x],argTypes:= #[t,u]})
 (base:Nat) (e:TypeId) (i:TypeInfo) (ht:P.underlying t=some (.slice e)) (hu:P.underlying u=some .string) (hi:P.info? e=some i) (hz:i.zero=some (.int .u8 0))
 (hsize:i.size=1) (hby:i.bytes=1)
 (v:Value) (n:Nat) (xs:List Value) (hs:a.eval sl=v) (hown:aV w base e 1 v n xs) (s:ByteArray) (hx:a.eval x= .string s)
 (h63:n+s.size<=maxLen) (hbytes:n+s.size<=140737488355328) (hbase:base<=w.heap.size)
 (h:∀v' w',aV w' base e 1 v' (n+s.size) (xs++Lib.strCells s)->w.grownBy w' v.ownBlock->wpList P ops Q rest (a.put o.dst v') w'):wpList P ops Q (o::rest) a w:=
 wpList_plain hgd fun _ hK=>by
  obtain⟨v',w',hr,h2,h3⟩:=akL (P:=P) w base t u o.type e i ht hu hi hz hsize hby v n xs hown s h63 hbytes hbase
  unfold Oper.wp execOp
  simp only[ho,resolve,invoke,builtin,Sem.run_bind,Sem.run_pure,Result.andThen_ok,List.map_toArray,List.map_cons,List.map_nil,hs,hx,hr]
  exact hK _ _ (h v' w' h2 h3)
theorem abH(s:ByteArray)(cap:Nat)(e:TypeId)(hc:s.size<=cap)(hm:cap<=maxLen)(base:Nat)(hb:base<=w.heap.size):
 aV (w.alloc (.cells (bytesRow s cap) e ((bytesRow s cap).size,(bytesRow s cap).size+1))) base e 1 (.slice (some ⟨w.heap.size,0,none⟩) s.size cap) s.size (Lib.strCells s):=by
 have hsz:(bytesRow s cap).size=cap:=by
  have:s.data.size=s.size:=rfl
  simp[bytesRow,this];omega
 refine⟨by rw[Lib.strCells_length,Nat.mul_one], .inr ⟨w.heap.size,cap,_,_,rfl,hb,heap_alloc_new w _, .inr (Nat.le_refl _),hc,hm,by rw[hsz,Nat.mul_one],?_⟩⟩
 have h1:(bytesRow s cap).toList=Lib.strCells s++List.replicate (cap-s.size) (.int .u8 0):=by
  simp[bytesRow,Lib.strCells]
 rw[h1,Nat.mul_one,<-Lib.strCells_length s]
 exact List.take_left
theorem akM(w0:World)(src dst e:TypeId)(s:ByteArray)(hs:P.underlying src=some .string)(hd:P.underlying dst=some (.slice e))(he:P.underlying e=some (.int .u8))(hm:s.size<=maxLen)(hq:Q w0 w):
 ∃w' cap,(convert src dst (.string s)).run P w= .ok (.slice (some ⟨w.heap.size,0,none⟩) s.size cap) w'/\aV w' w0.heap.size e 1 (.slice (some ⟨w.heap.size,0,none⟩) s.size cap) s.size (Lib.strCells s)/\Q w0 w'/\s.size<=cap/\cap<=maxLen:=
 ⟨_,_,run_bytes_of_string (P:=P) w src dst e s hs hd he,abH w.drew s _ e (grownCap_ge w s.size 0 e) (grownCap_le_maxLen w s.size 0 e hm) _ hq.size,Below.alloc (Below.drew hq) hq.size _,grownCap_ge w s.size 0 e,grownCap_le_maxLen w s.size 0 e hm⟩
def cellsOf(l:List UInt8):List Value:=l.map fun b=>Value.int .u8 b.toNat
theorem Je(l m:List UInt8):cellsOf (l++m)=cellsOf l++cellsOf m:=by simp[cellsOf]
theorem strCells_eq(s:ByteArray):Lib.strCells s=cellsOf s.data.toList:=rfl
theorem Lh(base:Nat)(src dst e:TypeId)(v:Value)(l:List UInt8)(hs:P.underlying src=some (.slice e))(he:P.underlying e=some (.int .u8))(hd:P.underlying dst=some .string)
 (h:aV w base e 1 v l.length (cellsOf l)):(convert src dst v).run P w= .ok (.string ⟨l.toArray⟩) w:=by
 rcases h.2 with⟨rfl,h0⟩|⟨g,cap,cur,fz,rfl,hbg,hg,hfz,hnc,hcm,hcs,htake⟩
 ·have:l=[]:=List.eq_nil_of_length_eq_zero h0
  subst this
  exact run_convert_bytes_nil (P:=P) w src e hs he 0 0 dst hd
 ·refine run_convert_bytes_back (P:=P) w src dst e ⟨g,0,none⟩ cap l hs he hd (fun j hj=> ?_)
  exact h.cells (g:=g) rfl j _ (by simp[cellsOf,List.getElem?_eq_getElem hj])
end
end Mem
end Go.Proofs.YtbemmjnjoabadaaGreatDoor
