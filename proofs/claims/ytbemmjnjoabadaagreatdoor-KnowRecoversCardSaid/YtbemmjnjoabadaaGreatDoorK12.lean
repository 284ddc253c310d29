/- part 12 -/
import Derived.Deep.RegionWith
import Derived.Deep.RegionLaw
import Derived.RangeFuncNested
import Derived.RangeFuncBound
import Derived.RangeFuncCalls
import Derived.RangeFuncLeaves
import Derived.RangeFuncFrom
import Derived.RangeFuncBox
import Derived.Shelf.Abstract
import Derived.Shelf.RegionOpen
import Derived.OwnWalkIn
import Derived.TacticsInMore
import Derived.LoopNIn
import Derived.LoopIn
import Derived.Test.YtbemmjnjoabadaaGreatDoorK05
set_option linter.unusedVariables false
set_option linter.unusedSimpArgs false
set_option maxHeartbeats 2000000
set_option maxRecDepth 100000
namespace Go.Proofs.YtbemmjnjoabadaaGreatDoor
namespace bV
open Go.RowKit aQ Mem _root_.Go.Proofs.YtbemmjnjoabadaaGreatDoor.Code aY
def lit(l:List UInt8):ByteArray:=⟨l.toArray⟩
def uX(l:List ByteArray):ByteArray:=su (Dp l)
theorem JO(l:List ByteArray):(uX l).size=32:=yJ _
theorem YN(l:List ByteArray):(lF l).length<=10+(l.map (fun s=>s.size+10)).sum:=by
 unfold lF
 rw[List.length_append]
 have h1:=Og l.length
 have h2:∀l:List ByteArray,(l.flatMap gZ).length<=(l.map (fun s=>s.size+10)).sum:=by
  intro l
  induction l with
  |nil=>simp
  |cons s r ih=>
   have:=vN s
   rw[List.flatMap_cons,List.length_append,List.map_cons,List.sum_cons]
   omega
 have:=h2 l
 omega
def FH:ByteArray:=lit [115,116,114,101,97,109]
def MN:ByteArray:=lit [116,97,103]
def PN:ByteArray:=lit [119,114,97,112]
def FI:ByteArray:=lit [101,112,104]
def zU:ByteArray:=lit [110,111,110,99,101]
def YO(key bF:ByteArray)(i:Nat):ByteArray:=uX [FH,key,bF,aU (i:Int)]
def Hq(key bF:ByteArray)(i:Nat):UInt8:=(YO key bF (i/32)).data.toList.getD (i%32) 0
def DW(key bF s:ByteArray)(k:Nat):List UInt8:=(List.range k).map fun i=>s.data.toList.getD i 0^^^Hq key bF i
def wz(key bF s:ByteArray):ByteArray:=⟨(DW key bF s s.size).toArray⟩
theorem UM(key bF s:ByteArray)(k:Nat):(DW key bF s k).length=k:=by simp[DW]
theorem UN(key bF s:ByteArray):(wz key bF s).size=s.size:=by unfold wz;rw[tK,UM]
theorem aeZ(key bF s:ByteArray):(wz key bF s).data.toList=DW key bF s s.size:=rY _
theorem apT(key bF s:ByteArray)(k i:Nat)(h:i<k):(DW key bF s k).getD i 0=s.data.toList.getD i 0^^^Hq key bF i:=by
 simp[DW,List.getD_eq_getElem?_getD,h]
theorem apU(key bF s:ByteArray):wz key bF (wz key bF s)=s:=by
 apply Bc
 rw[aeZ,UN]
 apply List.ext_getElem
 ·rw[UM,ny]
 ·intro i h1 h2
  rw[UM]at h1
  simp only[DW,List.getElem_map,List.getElem_range]
  rw[aeZ,apT _ _ _ _ _ h1,UInt8.xor_assoc,UInt8.xor_self,UInt8.xor_zero,List.getD_eq_getElem?_getD,List.getElem?_eq_getElem h2]
  rfl
def yY(key bF data:ByteArray):ByteArray:=(uX [MN,key,bF,data]).extract 0 16
theorem apV(key bF data:ByteArray):(yY key bF data).size=16:=by
 unfold yY
 rw[ByteArray.size_extract,JO]
 rfl
abbrev BN:=ByteArray×ByteArray×ByteArray
def sK(key bF plain:ByteArray):BN:=(bF,wz key bF plain,yY key bF (wz key bF plain))
def nR(key:ByteArray)(b:BN):ByteArray×Bool:=if b.2.2=yY key b.1 b.2.1 then(wz key b.1 b.2.1,true)else(lit [],false)
theorem ae0(key bF plain:ByteArray):nR key (sK key bF plain)=(plain,true):=by
 unfold nR sK
 rw[if_pos rfl,apU]
theorem apW(key:ByteArray)(b:BN)(h:b.2.2≠yY key b.1 b.2.1):nR key b=(lit [],false):=if_neg h
theorem apX(key:ByteArray)(b:BN)(h:b.2.2=yY key b.1 b.2.1):nR key b=(wz key b.1 b.2.1,true):=if_pos h
def xZ(n:Int):Bool:=decide (1<=n)&&decide (n<=2305843009213693950)
def um(n:Int):Bool:=decide (1<=n)&&decide (n<=2305843009213693949)
def DX(to lV shared:Int):ByteArray:=uX [PN,aU to,aU lV,aU shared]
def BO(seed:ByteArray)(pub:Int):Int:=1+numOf (uX [FI,seed,aU pub])%2305843009213693949
theorem YP(seed:ByteArray)(pub:Int):1<=BO seed pub/\BO seed pub<=2305843009213693949:=by unfold BO;omega
abbrev bQ:=Int×Int×BN
def wZ(pub:Int)(seed plain:ByteArray):bQ:=
 (pub,dW 37 (BO seed pub),sK (DX pub (dW 37 (BO seed pub)) (dW pub (BO seed pub))) (uX [zU,DX pub (dW 37 (BO seed pub)) (dW pub (BO seed pub))]) plain)
def xg(sec:Int)(w:bQ):Bool:=um sec&&decide (w.1=dW 37 sec)&&xZ w.2.1
def BP(sec:Int)(w:bQ):ByteArray×Bool:=if xg sec w=true then nR (DX w.1 w.2.1 (dW w.2.1 sec)) w.2.2 else(lit [],false)
theorem UO(e:Int)(h0: -9223372036854775808<=e)(h:e<=9223372036854775807):xZ (dW 37 e)=true:=by
 have h1:=Ll 37 e
 have h2:=acy 37 e h (by decide)
 unfold xZ
 simp
 omega
theorem apY(sec e:Int)(hs:sec<=9223372036854775807)(he:e<=9223372036854775807):dW (dW 37 sec) e=dW (dW 37 e) sec:=by
 rw[acz 37 sec e hs he (by decide),acz 37 e sec he hs (by decide),Int.mul_comm]
theorem apZ(sec:Int)(seed plain:ByteArray)(h:um sec=true):BP sec (wZ (dW 37 sec) seed plain)=(plain,true):=by
 have hs:1<=sec/\sec<=2305843009213693949:=by simpa[um]using h
 have he:=YP seed (dW 37 sec)
 unfold BP
 rw[if_pos]
 ·unfold wZ
  dsimp only
  rw[<-apY sec _ (by omega) (by omega),ae0]
 ·unfold xg wZ
  simp only[Bool.and_eq_true,decide_eq_true_eq]
  exact⟨⟨h,trivial⟩,UO _ (by omega) (by omega)⟩
end bV
namespace aY
open Go.RowKit aQ Mem
def ofL(l:List UInt8):ByteArray:=⟨l.toArray⟩
def blk(l:List UInt8)(j:Nat):ByteArray:=ofL ((l.drop (64*j)).take 64)
def hs(l:List UInt8):Nat->V8
 |0=>init
 |j+1=>mix (hs l j) (blk l j)
end aY
namespace Code
open Go.RowKit aQ Mem
theorem one_byte(b:Nat)(x:Int)(h:b<256)(hx:x=b)(W:World)(g:Nat)(hc:W.cell? ⟨g,0,none⟩=some (.int .u8 x)):
 (convert 126 9 (.slice (some ⟨g,0,none⟩) 1 1)).run Tryz.prog W= .ok (.string ⟨#[UInt8.ofNat b]⟩) W:=by
 subst hx
 refine run_convert_bytes_back (P:=Tryz.prog) W 126 9 5 ⟨g,0,none⟩ 1 [UInt8.ofNat b] Tryz.underlying126 Tryz.underlying5 Tryz.underlying9 (fun j hj=> ?_)
 have hj0:j=0:=by simp at hj;omega
 subst hj0
 have:(UInt8.ofNat b).toNat=b:=by simp[UInt8.toNat_ofNat',Nat.mod_eq_of_lt h]
 have hadd:(⟨g,0,none⟩:Addr).add 0=⟨g,0,none⟩:=rfl
 rw[hadd,hc]
 simp[this]
theorem wV{w0 w:World}(hq:Q w0 w)(o:Obj):Q w0 (w.alloc o):=Below.alloc hq hq.size o
end Code
namespace aY
open Go.RowKit aQ Mem _root_.Go.Proofs.YtbemmjnjoabadaaGreatDoor.Code
def PO(w:World)(g:Nat)(v:V8):Prop:=g<w.heap.size/\∀j,j<8->w.cell? ⟨g,j,none⟩=some (.int .u32 (v.list.getD j 0))
theorem PO.q{w w':World}{g:Nat}{v:V8}(h:PO w g v)(hq:Q w w'):PO w' g v:=⟨Nat.lt_of_lt_of_le h.1 hq.size,fun j hj=>(hq.cell (p:=⟨g,j,none⟩) h.1).trans (h.2 j hj)⟩
def YQ(w:World)(g o:Nat)(s:ByteArray):Prop:=g<w.heap.size/\∀j,j<64->w.cell? ⟨g,o+j,none⟩=some (.int .u8 (byteAt s j))
theorem YQ.q{w w':World}{g o:Nat}{s:ByteArray}(h:YQ w g o s)(hq:Q w w'):YQ w' g o s:=⟨Nat.lt_of_lt_of_le h.1 hq.size,fun j hj=>(hq.cell (p:=⟨g,o+j,none⟩) h.1).trans (h.2 j hj)⟩
theorem ae1(v:V8)(j:Nat)(h:j<8):v.arr[j]?=some (.int .u32 (v.list.getD j 0)):=by
 rcases(show j=0∨j=1∨j=2∨j=3∨j=4∨j=5∨j=6∨j=7 by omega)with rfl|rfl|rfl|rfl|rfl|rfl|rfl|rfl<;>rfl
theorem PO.of{w:World}{g:Nat}{t:TypeId}{v:V8}(h:ah w g t v.arr):PO w g v:=⟨h.lt,fun j hj=>by rw[h.cell,ae1 v j hj]⟩
def Four(w0 w:World)(g o q:Nat)(x0 x1 x2 x3:Int):Prop:=g<w.heap.size/\Q w0 w/\w.cell? ⟨g,o+q,none⟩=some (.int .u8 x0)/\w.cell? ⟨g,o+(q+1),none⟩=some (.int .u8 x1)/\w.cell? ⟨g,o+(q+2),none⟩=some (.int .u8 x2)/\w.cell? ⟨g,o+(q+3),none⟩=some (.int .u8 x3)
section
variable {w0 w w':World} {g o r:Nat} {x0 x1 x2 x3:Int}
theorem Four.held(h:Four w0 w g o r x0 x1 x2 x3):w.cell? ⟨g,o+r,none⟩=some (.int .u8 x0)/\w.cell? ⟨g,o+(r+1),none⟩=some (.int .u8 x1)/\w.cell? ⟨g,o+(r+2),none⟩=some (.int .u8 x2)/\w.cell? ⟨g,o+(r+3),none⟩=some (.int .u8 x3)/\Four w0 w g o r x0 x1 x2 x3:=
 ⟨h.2.2.1,h.2.2.2.1,h.2.2.2.2.1,h.2.2.2.2.2,h⟩
theorem Four.q(h:Four w0 w g o r x0 x1 x2 x3)(hq:Q w w'):Four w0 w' g o r x0 x1 x2 x3:=
 ⟨Nat.lt_of_lt_of_le h.1 hq.size,Q.trans h.2.1 hq,(hq.cell (p:=⟨g,o+r,none⟩) h.1).trans h.2.2.1,(hq.cell (p:=⟨g,o+(r+1),none⟩) h.1).trans h.2.2.2.1,(hq.cell (p:=⟨g,o+(r+2),none⟩) h.1).trans h.2.2.2.2.1,(hq.cell (p:=⟨g,o+(r+3),none⟩) h.1).trans h.2.2.2.2.2⟩
theorem Four.drew(h:Four w0 w g o r x0 x1 x2 x3):Four w0 w.drew g o r x0 x1 x2 x3:=h.q (Q.refl w).drew
theorem Four.new(h:w.cell? ⟨g,o+r,none⟩=some (.int .u8 x0)/\w.cell? ⟨g,o+(r+1),none⟩=some (.int .u8 x1)/\w.cell? ⟨g,o+(r+2),none⟩=some (.int .u8 x2)/\w.cell? ⟨g,o+(r+3),none⟩=some (.int .u8 x3)/\Four w0 w g o r x0 x1 x2 x3)(ob:Obj):
 (w.alloc ob).cell? ⟨g,o+r,none⟩=some (.int .u8 x0)/\(w.alloc ob).cell? ⟨g,o+(r+1),none⟩=some (.int .u8 x1)/\(w.alloc ob).cell? ⟨g,o+(r+2),none⟩=some (.int .u8 x2)/\(w.alloc ob).cell? ⟨g,o+(r+3),none⟩=some (.int .u8 x3)/\Four w0 (w.alloc ob) g o r x0 x1 x2 x3:=
 (h.2.2.2.2.q (wV (Q.refl w) ob)).held
end
def PS(w:World)(g:Nat)(f:Nat->Int):Prop:=∀j,j<8->w.cell? ⟨g,j,none⟩=some (.int .u32 (f j))/\w.frozen? ⟨g,j,none⟩=false
theorem PS.q{w w':World}{g:Nat}{f:Nat->Int}(h:PS w g f)(hq:Q w w')(hg:g<w.heap.size):PS w' g f:=fun j hj=>
 ⟨(hq.cell (p:=⟨g,j,none⟩) hg).trans (h j hj).1,(World.frozen?_of_block (hq.block g hg)).trans (h j hj).2⟩
theorem PS.of{w:World}{g:Nat}{t:TypeId}{v:V8}(h:ah w g t v.arr):PS w g fun j=>v.list.getD j 0:=fun j hj=>⟨by rw[h.cell,ae1 v j hj],h.frozen j⟩
def FK(w0 w:World)(g:Nat)(v:V8):Prop:=g<w.heap.size/\Q w0 w/\w.cell? ⟨g,0,none⟩=some (.int .u32 v.a)/\w.cell? ⟨g,1,none⟩=some (.int .u32 v.b)/\w.cell? ⟨g,2,none⟩=some (.int .u32 v.c)/\w.cell? ⟨g,3,none⟩=some (.int .u32 v.d)/\w.cell? ⟨g,4,none⟩=some (.int .u32 v.e)/\w.cell? ⟨g,5,none⟩=some (.int .u32 v.f)/\w.cell? ⟨g,6,none⟩=some (.int .u32 v.g)
theorem FK.q{w0 w w':World}{g:Nat}{v:V8}(h:FK w0 w g v)(hq:Q w w'):FK w0 w' g v:=
 ⟨Nat.lt_of_lt_of_le h.1 hq.size,Q.trans h.2.1 hq,(hq.cell (p:=⟨g,0,none⟩) h.1).trans h.2.2.1,(hq.cell (p:=⟨g,1,none⟩) h.1).trans h.2.2.2.1,(hq.cell (p:=⟨g,2,none⟩) h.1).trans h.2.2.2.2.1,(hq.cell (p:=⟨g,3,none⟩) h.1).trans h.2.2.2.2.2.1,(hq.cell (p:=⟨g,4,none⟩) h.1).trans h.2.2.2.2.2.2.1,(hq.cell (p:=⟨g,5,none⟩) h.1).trans h.2.2.2.2.2.2.2.1,(hq.cell (p:=⟨g,6,none⟩) h.1).trans h.2.2.2.2.2.2.2.2⟩
theorem FK.held{w0 w:World}{g:Nat}{v:V8}(h:FK w0 w g v):w.cell? ⟨g,0,none⟩=some (.int .u32 v.a)/\w.cell? ⟨g,1,none⟩=some (.int .u32 v.b)/\w.cell? ⟨g,2,none⟩=some (.int .u32 v.c)/\w.cell? ⟨g,3,none⟩=some (.int .u32 v.d)/\w.cell? ⟨g,4,none⟩=some (.int .u32 v.e)/\w.cell? ⟨g,5,none⟩=some (.int .u32 v.f)/\w.cell? ⟨g,6,none⟩=some (.int .u32 v.g)/\FK w0 w g v:=
 ⟨h.2.2.1,h.2.2.2.1,h.2.2.2.2.1,h.2.2.2.2.2.1,h.2.2.2.2.2.2.1,h.2.2.2.2.2.2.2.1,h.2.2.2.2.2.2.2.2,h⟩
theorem FK.step{w0 w:World}{g:Nat}{v:V8}(h:w.cell? ⟨g,0,none⟩=some (.int .u32 v.a)/\w.cell? ⟨g,1,none⟩=some (.int .u32 v.b)/\w.cell? ⟨g,2,none⟩=some (.int .u32 v.c)/\w.cell? ⟨g,3,none⟩=some (.int .u32 v.d)/\w.cell? ⟨g,4,none⟩=some (.int .u32 v.e)/\w.cell? ⟨g,5,none⟩=some (.int .u32 v.f)/\w.cell? ⟨g,6,none⟩=some (.int .u32 v.g)/\FK w0 w g v)(o:Obj):
 (w.alloc o).cell? ⟨g,0,none⟩=some (.int .u32 v.a)/\(w.alloc o).cell? ⟨g,1,none⟩=some (.int .u32 v.b)/\(w.alloc o).cell? ⟨g,2,none⟩=some (.int .u32 v.c)/\(w.alloc o).cell? ⟨g,3,none⟩=some (.int .u32 v.d)/\(w.alloc o).cell? ⟨g,4,none⟩=some (.int .u32 v.e)/\(w.alloc o).cell? ⟨g,5,none⟩=some (.int .u32 v.f)/\(w.alloc o).cell? ⟨g,6,none⟩=some (.int .u32 v.g)/\FK w0 (w.alloc o) g v:=
 (h.2.2.2.2.2.2.2.q (wV (Q.refl w) o)).held
end aY
namespace bV
open Go.RowKit aQ Mem _root_.Go.Proofs.YtbemmjnjoabadaaGreatDoor.Code aY
open Sign (aO Strs.of)
theorem ap1(A:Option Addr)(n c:Nat)(l:List ByteArray)(w:World)(hT:Tab w)(hS:Strs w A l)(hn:l.length=n)(hz:(lF l).length<=140737488355327)(hn1:n<=1000):
 Calls Tryz.prog 108 #[.slice A n c] w fun e w'=>e= .returned (.string (uX l))/\Q w w':=by
 subst hn
 have hzz:(Dp l).size<=140737488355327:=by unfold Dp;rw[tK];exact hz
 have HZ:=Lib.hid hzz
 clear hzz
 go_enter Tryz.func108,Tryz.ntmps108
 go_wp2_with fail
 refine(Oi A c l _ hS hz (by omega)).mono ?_
 rintro e w1 ⟨rfl,hq1⟩
 go_wp2_with fail
 refine(Jf _ _ (hT.q hq1) HZ.out).mono ?_
 rintro e w2 ⟨rfl,hq2⟩
 go_wp2
 go_ret
 exact⟨rfl,Q.trans hq1 hq2⟩
theorem PU(l:List ByteArray)(n:Nat)(cs:Array Value)(t:TypeId)(w:World)(hT:Tab w)(hn:l.length=n)(hcs:(l.map Value.string).toArray=cs)(h1:n<=100)(hs:(lF l).length<=140737488355327):
 Calls Tryz.prog 108 #[.slice (some ⟨w.heap.size,0,none⟩) n n] (w.alloc (.cells cs t)) fun e w'=>e= .returned (.string (uX l))/\Q w w':=by
 subst hcs
 refine(ap1 _ n n l _ (hT.q (aO w _ t)) (Strs.of (ah.new w t _)) hn hs (by omega)).mono fun e w' ⟨h1,h2⟩=>⟨h1,Q.trans (aO w _ t) h2⟩
theorem list4(a b c d:ByteArray):(lF [a,b,c,d]).length<=50+a.size+b.size+c.size+d.size:=by
 have:=YN [a,b,c,d]
 simp at this
 omega
theorem ap2(a b c:ByteArray):(lF [a,b,c]).length<=40+a.size+b.size+c.size:=by
 have:=YN [a,b,c]
 simp at this
 omega
theorem ap3(a b:ByteArray):(lF [a,b]).length<=30+a.size+b.size:=by
 have:=YN [a,b]
 simp at this
 omega
theorem ap4(l:List ByteArray):(16:Int)<=((uX l).size:Int):=by rw[JO];decide
theorem ae2(key bF data:ByteArray)(w:World)(hT:Tab w)(hz:key.size+bF.size+data.size<=140737488355000):
 Calls Tryz.prog 96 #[.string key, .string bF, .string data] w fun e w'=>e= .returned (.string (yY key bF data))/\Q w w':=by
 have h4:=list4 MN key bF data
 have h5:MN.size=3:=rfl
 have hc:=ap4 [MN,key,bF,data]
 have HZ:=Lib.hid (show(lF [MN,key,bF,data]).length<=140737488355327 by omega)
 clear h4 h5
 unfold yY
 go_enter Tryz.func96,Tryz.ntmps96
 go_wp2_with fail
 refine(PU [MN,key,bF,data] 4 _ _ _ hT rfl rfl (by decide) HZ.out).mono ?_
 rintro e w1 ⟨rfl,hq1⟩
 go_wp2
 go_ret
 exact⟨rfl,hq1⟩
theorem ae3(a b c:Int)(w:World)(hT:Tab w)(ha:a<=9223372036854775807)(hb:b<=9223372036854775807)(hc:c<=9223372036854775807):
 Calls Tryz.prog 109 #[.int .i64 a, .int .i64 b, .int .i64 c] w fun e w'=>e= .returned (.string (DX a b c))/\Q w w':=by
 have h4:=list4 PN (aU a) (aU b) (aU c)
 have h5:PN.size=4:=rfl
 have k1:=iI a
 have k2:=iI b
 have k3:=iI c
 have HZ:=Lib.hid (show(lF [PN,aU a,aU b,aU c]).length<=140737488355327 by omega)
 clear h4 h5 k1 k2 k3
 unfold DX
 go_enter Tryz.func109,Tryz.ntmps109
 go_wp2_with fail
 refine(kM _ _ ha).mono ?_
 rintro e w1 ⟨rfl,hq1⟩
 go_wp2_with fail
 refine(kM _ _ hb).mono ?_
 rintro e w2 ⟨rfl,hq2⟩
 go_wp2_with fail
 refine(kM _ _ hc).mono ?_
 rintro e w3 ⟨rfl,hq3⟩
 have hq:=Q.trans hq1 (Q.trans hq2 hq3)
 go_wp2_with fail
 refine(PU [PN,aU a,aU b,aU c] 4 _ _ _ (hT.q hq) rfl rfl (by decide) HZ.out).mono ?_
 rintro e w4 ⟨rfl,hq4⟩
 go_wp2
 go_ret
 exact⟨rfl,Q.trans hq hq4⟩
theorem ae4(n:Int)(w:World):Calls Tryz.prog 106 #[.int .i64 n] w fun e w'=>e= .returned (.bool (xZ n))/\w=w':=by
 unfold xZ
 by_cases h1:1<=n<;>by_cases h2:n<=2305843009213693950
 all_goals
  go_enter Tryz.func106,Tryz.ntmps106
  go_wp2
  go_ret
  exact⟨by simp[h1,h2],rfl⟩
theorem ap5(n:Int)(w:World):Calls Tryz.prog 115 #[.int .i64 n] w fun e w'=>e= .returned (.bool (um n))/\w=w':=by
 unfold um
 by_cases h1:1<=n<;>by_cases h2:n<=2305843009213693949
 all_goals
  go_enter Tryz.func115,Tryz.ntmps115
  go_wp2
  go_ret
  exact⟨by simp[h1,h2],rfl⟩
end bV
namespace BQ
open Go.RowKit
def ae5{α:Type}(F:Fence)(n:Nat)(P:Program)(g:Nat)(lb:Array Value)(encs:α->Array Value)(Kp:World->World->Prop)(Sp:List α->Prop)(M:Nat)(w:World):Prop:=
 ∀(l:Nat) (J Jx:List α->World->Prop) (W:World),Below w.heap.size w W->AbidesFrom W.heap.size J->AbidesFrom W.heap.size Jx->(∀pre W1,J pre W1->pre.length<M)->
  (∀pre x W1,J pre W1->YieldAt F (n-1) P l (encs x) W1 fun e W'=>
    (e= .returned (.bool true)/\J (pre++[x]) W'/\Kp W1 W')∨(e= .returned (.bool false)/\Jx (pre++[x]) W'))->
  J [] W->
  CallsIn F n P g (#[.func (.yield l) #[] #[]]++lb) W fun e W'=>(∃v,e= .returned v)/\∃pre,Sp pre/\Jx pre W'
variable {F:Fence} {n:Nat} {P:Program}
theorem ap6{α:Type}{g:Operand}{ps:Array Tmp}{assign body:Code}{Q:Exit->Act->World->Prop}{a:Act}{w:World}
 (hro:F.round=none) (h1:1<=n) {gf:Nat} {lb:Array Value} (hg:a.eval g= .func (.func gf) #[] lb) (hFg:F.fn gf) (eg:∀args w,(callFunc gf args).run P w= .ok (.enter gf args) w)
 {encs:α->Array Value} {Kp:World->World->Prop} {Sp:List α->Prop} {M:Nat} {w0:World} (hseq:ae5 F (n-1) P gf lb encs Kp Sp M w0)
 (hKt:∀{A B C:World},Kp A B->Kp B C->Kp A C) (hKb:∀(W:World) (l:Nat) (o o':Obj),w.heap.size<=l->W.heap[l]?=some o->o.isCells=false->o.isWalk=false->Kp W (W.putObj l o')) (hb0:Below w0.heap.size w0 w) (hps:∀x,(encs x).size=ps.size)
 (I:List α->World->Prop) (Ix:Code->List α->World->Prop) (hI:OwnFrom w.heap.size I) (hIx:∀c,OwnFrom w.heap.size (Ix c)) (hM:∀pre W,I pre W->pre.length<M) (h0:I [] w) (a₁:α->Act)
 (hassign:∀(l:Nat) (x:α) (W:World) (K:Act->World->Prop),K (a₁ x) W->
   assign.wpIn (F.inRound l) (n-1-1) P (Exit.then K (fun _ _ _=>False)) {tmps:=(ps.zip (encs x)).foldl (fun t (p,v)=>t.setIfInBounds p v) a.tmps,defers:=[]} W)
 (hbody:∀(l:Nat) (pre:List α) (x:α) (W:World),I pre W->body.wpIn (F.inRound l) (n-1-1) P (ownPostK Kp I Ix (pre++[x]) W) (a₁ x) W)
 (hstop:∀(D:Nat) (c:Code) (pre:List α) (W:World),w.heap.size<=D->Sp pre->Ix c pre W->W.heap[D]?=some (.deferred (some []))->c.wpIn F n P Q {a with defers:={target:= .collected D,args:= #[]}::a.defers} W):
 (Code.rangeFunc g ps assign body).wpIn F n P Q a w:=by
 refine wpIn_rangeFunc ?_
 intro fn hfn
 rw[hro]
 obtain⟨rec,hrec⟩:∃rec:LoopState->Option Code->Loop,rec=fun st pe=>{state:=st,pending:=pe,fn,tmps:=a.tmps,params:=ps,assign,body,defers:=w.heap.size}:=⟨_,rfl⟩
 obtain⟨W1,hW1⟩:∃W1,(w.alloc (.deferred (some []))).alloc (.loop (rec .ready none))=W1:=⟨_,rfl⟩
 have hL1:W1.heap[w.heap.size+1]?=some (.loop (rec .ready none)):=by
  rw[<-hW1]
  have:=World.alloc_heap_new (w.alloc (.deferred (some []))) (.loop (rec .ready none))
  rwa[World.size_alloc]at this
 have hK1:W1.heap[w.heap.size]?=some (.deferred (some [])):=by
  rw[<-hW1]
  exact(Below.heap_alloc _ _ _ (by simp)).trans (World.alloc_heap_new w _)
 have hI1:I [] W1:=by rw[<-hW1];exact hI.alloc _ (hI.alloc _ h0)
 have hb1:Below w0.heap.size w0 W1:=by
  rw[<-hW1]
  exact hb0.trans ((((Below.refl _ w).alloc (Nat.le_refl _) _).alloc (by simp) _).mono hb0.size)
 refine⟨w.heap.size+1,[{target:= .collected w.heap.size,args:= #[]}],W1,{target:= .fn (.func gf) lb,args:= #[.func (.yield (w.heap.size+1)) #[] #[]]},W1,gf,
  #[.func (.yield (w.heap.size+1)) #[] #[]]++lb,W1,?_,?_,?_,?_,fun _=>h1,?_⟩
 ·rw[<-hW1,hrec]
  exact run_enterLoop_outer _ _ _ _ _
 ·simp only[resolve,hg]
  simp[go_sem]
 ·intro f' hf'
  simp[Target.leads]at hf'
  subst hf'
  exact hFg
 ·simp[invoke,go_sem,eg]
 ·have hnw:∀{A B:World} {row:Option Nat},(∀r,row=some r->W1.heap.size<=r/\∃o:Obj,A.heap[r]?=some o/\o.isWalk=true)->(∀r,row=some r->w.heap.size<=r/\∃o:Obj,A.heap[r]?=some o/\o.isCells=false):=
   fun hr r e=>by
    obtain⟨hB,o,ho,hw⟩:=hr r e
    exact⟨by rw[<-hW1]at hB;simp at hB;omega,o,ho,Obj.not_cells_of_walk hw⟩
  refine(hseq (w.heap.size+1)
   (fun pre W=>I pre W/\W.heap[w.heap.size+1]?=some (.loop (rec .ready none))/\W.heap[w.heap.size]?=some (.deferred (some [])))
   (fun pre W=>∃c,Ix c pre W/\W.heap[w.heap.size+1]?=some (.loop (rec .done (some c)))/\W.heap[w.heap.size]?=some (.deferred (some [])))
   W1 hb1
   (fun s A B row hs hg' hr=>⟨hI s A B row hs.1 hg' (hnw (B:=B) hr),(grownBy_keeps hg' (fun r e=>(hr r e).2) hs.2.1 rfl).trans hs.2.1,(grownBy_keeps hg' (fun r e=>(hr r e).2) hs.2.2 rfl).trans hs.2.2⟩)
   (fun s A B row hs hg' hr=>by
     obtain⟨c,hc,hl,hk⟩:=hs
     exact⟨c,hIx c s A B row hc hg' (hnw (B:=B) hr),(grownBy_keeps hg' (fun r e=>(hr r e).2) hl rfl).trans hl,(grownBy_keeps hg' (fun r e=>(hr r e).2) hk rfl).trans hk⟩)
   (fun pre W h=>hM pre W h.1) ?_ ⟨hI1,hL1,hK1⟩).mono ?_
  ·rintro pre x W ⟨hi,hl,hk⟩
   have hlt:w.heap.size+1<W.heap.size:=(Array.getElem?_eq_some_iff.1 hl).1
   have hy:=run_yield (P:=P) (args:=encs x) hl (by rw[hrec];exact hps x)
   rw[hrec]at hy
   refine⟨fn,_,assign,body,hy,roundIn_of_wpIn hfn (hassign _ x W _ ⟨_,run_beginRound hl (by rw[hrec]),?_⟩)⟩
   have hl2:(W.putObj (w.heap.size+1) (.loop {rec .ready none with state:= .busy})).heap[w.heap.size+1]?=some (.loop {rec .ready none with state:= .busy}):=World.putObj_heap_same hlt
   have hk2:(W.putObj (w.heap.size+1) (.loop {rec .ready none with state:= .busy})).heap[w.heap.size]?=some (.deferred (some [])):=(World.putObj_heap_other (by omega)).trans hk
   have hw2:Kp W (W.putObj (w.heap.size+1) (.loop {rec .ready none with state:= .busy})):=hKb _ _ _ _ (by omega) hl rfl rfl
   refine wpIn_mono (hbody _ pre x _ (hI.putObj _ hi (by omega) hl rfl)) ?_
   have fin:∀(jump:Option Code) (W3:World),KeepsOthers (W.putObj (w.heap.size+1) (.loop {rec .ready none with state:= .busy})) W3->
    (Instr.endRound (w.heap.size+1) jump).run P W3= .ok (.bool jump.isNone) (W3.putObj (w.heap.size+1) (.loop (rec (if jump.isNone then .ready else .done) jump)))/\
    W3.heap[w.heap.size+1]?=some (.loop {rec .ready none with state:= .busy})/\
    (W3.putObj (w.heap.size+1) (.loop (rec (if jump.isNone then .ready else .done) jump))).heap[w.heap.size+1]?=some (.loop (rec (if jump.isNone then .ready else .done) jump))/\
    (W3.putObj (w.heap.size+1) (.loop (rec (if jump.isNone then .ready else .done) jump))).heap[w.heap.size]?=some (.deferred (some [])):=fun jump W3 hk3=>by
    have hl3:=hk3.same _ _ hl2 rfl
    have:=run_endRound (P:=P) jump hl3
    rw[hrec]at this⊢
    exact⟨this,by rw[hrec]at hl3;exact hl3,World.putObj_heap_same (Array.getElem?_eq_some_iff.1 hl3).1,(World.putObj_heap_other (by omega)).trans (hk3.same _ _ hk2 rfl)⟩
   rintro e a3 W3 hp
   cases e with
   |normal=>
    obtain⟨hk3,hkp3,hi3⟩:=hp
    obtain⟨hr,hl3,hl4,hk4⟩:=fin none W3 hk3
    exact⟨_,_,hr, .inl ⟨rfl,⟨hI.putObj _ hi3 (by omega) hl3 rfl,hl4,hk4⟩,hKt (hKt hw2 hkp3) (hKb _ _ _ _ (by omega) hl3 rfl rfl)⟩⟩
   |ret=>
    obtain⟨hk3,hi3⟩:=hp
    obtain⟨hr,hl3,hl4,hk4⟩:=fin (some .ret) W3 hk3
    exact⟨_,_,hr, .inr ⟨rfl, .ret,(hIx _).putObj _ hi3 (by omega) hl3 rfl,hl4,hk4⟩⟩
   |exit id=>
    obtain⟨hk3,hi3⟩:=hp
    obtain⟨hr,hl3,hl4,hk4⟩:=fin (some (.exit id)) W3 hk3
    exact⟨_,_,hr, .inr ⟨rfl, .exit id,(hIx _).putObj _ hi3 (by omega) hl3 rfl,hl4,hk4⟩⟩
   |goto t=>
    obtain⟨hk3,hi3⟩:=hp
    obtain⟨hr,hl3,hl4,hk4⟩:=fin (some (.goto t)) W3 hk3
    exact⟨_,_,hr, .inr ⟨rfl, .goto t,(hIx _).putObj _ hi3 (by omega) hl3 rfl,hl4,hk4⟩⟩
   |panic ch=>exact hp.elim
   |outgrown=>exact hp.elim
  ·rintro e W2 ⟨⟨v,rfl⟩,pre,hSp,c,hi,hl,hk⟩
   exact⟨some c,_,by have:=run_endLoop (P:=P) hl (by rw[hrec];simp);rw[hrec]at this;exact this,hstop _ c pre _ (Nat.le_refl _) hSp ((hIx c).putObj _ hi (by omega) hl rfl) ((World.putObj_heap_other (by omega)).trans hk)⟩
def BR(B b1 b2:Nat)(W W':World):Prop:=
 Below B W W'/\(∀cs t fz,W.heap[b1]?=some (.cells cs t fz)->W'.heap[b1]?=some (.cells cs t fz))/\∀cs t fz,W.heap[b2]?=some (.cells cs t fz)->W'.heap[b2]?=some (.cells cs t fz)
theorem BR.trans{B b1 b2:Nat}{X Y Z:World}(h:BR B b1 b2 X Y)(k:BR B b1 b2 Y Z):BR B b1 b2 X Z:=
 ⟨h.1.trans k.1,fun cs t fz hh=>k.2.1 cs t fz (h.2.1 cs t fz hh),fun cs t fz hh=>k.2.2 cs t fz (h.2.2 cs t fz hh)⟩
theorem BR.putObj{B b1 b2:Nat}(W:World)(l:Nat)(o o':Obj)(hB:B<=l)(h:W.heap[l]?=some o)(hc:o.isCells=false):BR B b1 b2 W (W.putObj l o'):=by
 refine⟨(Below.refl B W).grown (grownBy_putObj' W l o') (by have:=(Array.getElem?_eq_some_iff.1 h).1;omega) (fun k e=>by cases e;exact hB),?_,?_⟩
 all_goals
  intro cs t fz hh
  refine(World.putObj_heap_other ?_).trans hh
  rintro rfl
  rw[h]at hh
  cases hh
  cases hc
end BQ
namespace bV
open Go.RowKit aQ Mem _root_.Go.Proofs.YtbemmjnjoabadaaGreatDoor.Code aY BQ
open Sign (aO Strs.of)
attribute [local go_sem] Oper.semAt_some
def yZ(key bF:ByteArray)(k:Nat):List UInt8:=(List.range k).map (Hq key bF)
theorem ap7(key bF:ByteArray)(k:Nat):yZ key bF (k+1)=yZ key bF k++[Hq key bF k]:=by simp[yZ,List.range_succ]
theorem ae6(key bF:ByteArray)(k:Nat):(yZ key bF k).length=k:=by simp[yZ]
theorem ap8(key bF:ByteArray)(i j:Nat)(hj:j<32)(h:j<(YO key bF i).size):Hq key bF (32*i+j)=(YO key bF i)[j]:=by
 unfold Hq
 rw[show(32*i+j)/32=i by omega,show(32*i+j)%32=j by omega,List.getD_eq_getElem?_getD,List.getElem?_eq_getElem (by rw[ny];exact h)]
 rfl
theorem ap9{W W':World}(h:Q W W'):W.grownBy W' none:=⟨h.os,h.tape,h.output,h.size,fun i hi _=>h.block i hi⟩
theorem Hr{W W':World}{B:Nat}{t:TypeId}{v:Value}(h:Boxed W B t v)(hq:Q W W'):Boxed W' B t v:=(hq.block B h.lt).trans h
theorem aqa(n:Nat)(hn:2<=n)(l bk bn:Nat)(key bF:ByteArray)(wt:World)(hT:Tab wt)(M:Nat)(FM:M<=140737488355328)(hz:key.size+bF.size<=140737488355000)(J Jx:List UInt8->World->Prop)(W:World)(hq:Q wt W)(hk:Boxed W bk 9 (.string key))(hnn:Boxed W bn 9 (.string bF))
 (hJ:AbidesFrom W.heap.size J) (hM:∀pre W1,J pre W1->pre.length<M)
 (hY:∀pre x W1,J pre W1->YieldAt Fence.wide (n-1) Tryz.prog l #[.int .u8 (x.toNat:Int)] W1 fun e W'=>
   (e= .returned (.bool true)/\J (pre++[x]) W'/\BR wt.heap.size bk bn W1 W')∨(e= .returned (.bool false)/\Jx (pre++[x]) W'))
 (h0:J [] W):
 CallsIn Fence.wide n Tryz.prog 196 #[.func (.yield l) #[] #[], .pointer (some ⟨bk,0,none⟩), .pointer (some ⟨bn,0,none⟩)] W fun e W'=>(∃v,e= .returned v)/\∃pre,pre=yZ key bF pre.length/\Jx pre W':=by
 have hmx:Tryz.prog.follows .mixedOrders=true:=by kernel_rfl
 have hwf:∀f,Fence.wide.fn f:=fun _=>trivial
 have hn1:1<=n:=by omega
 have hn2:1<=n-1:=by omega
 refine callsIn_of_wp Tryz.func196 rfl trivial ?_ rfl
 simp only[Tryz.ntmps196,List.size_toArray,List.length_cons,List.length_nil,Nat.reduceAdd,Nat.reduceSub,Array.replicate_succ,Array.replicate_zero,List.push_toArray,List.append_toArray,List.nil_append,List.cons_append]
 gi_wp2
 gi_loopw [4] (fun i wr=>∃k:Nat,i= .int .i64 k/\Q wt wr/\Boxed wr bk 9 (.string key)/\Boxed wr bn 9 (.string bF)/\J (yZ key bF (32*k)) wr) (fun i _=>M-32*(intOf i).toNat)
 case atStart=>exact⟨0,rfl,hq,hk,hnn,h0⟩
 case round=>
  obtain⟨k,rfl,hq,hk,hnn,hj⟩:=hrel
  have hlt:=hM _ _ hj
  rw[ae6]at hlt
  have h4:=list4 FH key bF (aU (k:Int))
  have h5:FH.size=6:=rfl
  have h6:=iI (k:Int)
  have HZ:=Lib.hid (show(lF [FH,key,bF,aU (k:Int)]).length<=140737488355327 by omega)
  have hkd:=Hr hk (Q.refl wr).drew
  have hnd:=Hr hnn (Q.refl wr).drew
  have hck:=hkd.cell
  have hcn:=hnd.cell
  clear h4 h5 h6
  obtain⟨wo,rfl⟩:∃wo:World,wo=wr:=⟨_,rfl⟩
  gi_wp2
  gi_region_with_o (first
   |(gi_at_call 60;refine(callsIn_wide.2 (kM _ _ (by omega))).mono ?_;rintro e w1 ⟨rfl,hq1⟩;have hk1:=Hr hkd hq1;have hn1:=Hr hnd hq1;have hck1:=hk1.cell;have aqb:=hn1.cell)
   |(gi_at_call 108;refine(callsIn_wide.2 (PU [FH,key,bF,aU (k:Int)] 4 _ _ _ (hT.q (Q.trans hq (Q.trans (Q.refl wo).drew hq1))) rfl rfl (by decide) HZ.out)).mono ?_;rintro e w2 ⟨rfl,hq2⟩))
  all_goals
   have hqq:Q wo w2:=Q.trans (Q.refl wo).drew (Q.trans hq1 hq2)
   have hqz:=Q.trans hq hqq
   have hkz:=Hr hk hqq
   have hnz:=Hr hnn hqq
   have hjz:=hJ _ _ _ none hj (ap9 hqq) (fun r e=>by cases e)
   have hbz:(uX [FH,key,bF,aU (k:Int)]).size=32:=JO _
   have hat:∀j (hj:j<32) (h:j<(uX [FH,key,bF,aU (k:Int)]).size),Hq key bF (32*k+j)=(uX [FH,key,bF,aU (k:Int)])[j]:=fun j hj h=>ap8 key bF k j hj h
   generalize uX [FH,key,bF,aU (k:Int)]=blk at*
   have HB:=Lib.hid hbz
   have HAT:=Lib.hid hat
   have hbl:blk.size<=32:=by omega
   have axN:32<=blk.size:=by omega
   clear hbz hat hck hcn hkd hnd hq hk hnn hj hq1 hq2 hck1 aqb hk1 hqq
   gi_wp2
   gi_loopw [17] (fun j wr=>∃q:Nat,j= .int .i64 q/\q<=blk.size/\Q wt wr/\Boxed wr bk 9 (.string key)/\Boxed wr bn 9 (.string bF)/\J (yZ key bF (32*k+q)) wr) (fun j _=>32-(intOf j).toNat)
   case atStart=>exact⟨0,rfl,Nat.zero_le _,hqz,hkz,hnz,hjz⟩
   case round=>
    obtain⟨q,rfl,hql,hq,hk,hnn,hj⟩:=hrel
    by_cases hlt2:q<blk.size
    ·obtain⟨fn,tmps,assign,body,hy,hR⟩:=hY _ blk[q] _ hj
     have hs:yZ key bF (32*k+q)++[blk[q]]=yZ key bF (32*k+(q+1)):=by rw[<-HAT.out q (by omega) hlt2,<-ap7];rfl
     have HS:=Lib.hid hs
     clear hs
     have q0:(0:Int)<=(q:Int):=by omega
     have q1:(q:Int)<(blk.size:Int):=by omega
     gi_wp2
     refine hR.mono ?_
     rintro e W3 (⟨rfl,hJ3,hk3⟩|⟨rfl,hJx3⟩)
     ·rw[HS.out]at hJ3
      have hq3:Q wt W3:=Below.trans hq hk3.1
      have hkk:Boxed W3 bk 9 (.string key):=hk3.2.1 _ _ _ hk
      have hnk:Boxed W3 bn 9 (.string bF):=hk3.2.2 _ _ _ hnn
      gi_wp2
      exact⟨⟨q+1,by go_num,by omega,hq3,hkk,hnk,hJ3⟩,by simp only[intOf];omega⟩
     ·rw[HS.out]at hJx3
      gi_wp2
      refine bodyPost_ret (results_none rfl _ _ _) rfl ?_
      exact⟨⟨_,rfl⟩,yZ key bF (32*k+(q+1)),by rw[ae6],hJx3⟩
    ·have MO:32*k+q=32*(k+1):=by omega
     rw[MO]at hj
     clear MO
     gi_wp2
     exact⟨⟨k+1,by go_num,hq,hk,hnn,hj⟩,by simp only[intOf];omega⟩
theorem aqc(n:Nat)(hn:2<=n)(bk bn:Nat)(key bF:ByteArray)(wt:World)(hT:Tab wt)(M:Nat)(FM:M<=140737488355328)(hz:key.size+bF.size<=140737488355000)(w:World)(hq:Q wt w)(hk:Boxed w bk 9 (.string key))(hnn:Boxed w bn 9 (.string bF)):
 ae5 Fence.wide n Tryz.prog 196 #[.pointer (some ⟨bk,0,none⟩), .pointer (some ⟨bn,0,none⟩)] (fun x:UInt8=> #[.int .u8 (x.toNat:Int)]) (BR wt.heap.size bk bn) (fun pre=>pre=yZ key bF pre.length) M w:=
 fun l J Jx W hW hJ hJx hM hY h0=>aqa n hn l bk bn key bF wt hT M FM hz J Jx W (Q.trans hq hW) (Hr hk hW) (Hr hnn hW) hJ hM hY h0
theorem aqd(key bF:ByteArray)(w:World):
 Calls Tryz.prog 149 #[.string key, .string bF] w fun e w'=>e= .returned (.func (.func 196) #[] #[.pointer (some ⟨w.heap.size,0,none⟩), .pointer (some ⟨w.heap.size+1,0,none⟩)])/\w'=(w.alloc (.cells #[.string key] 9)).alloc (.cells #[.string bF] 9):=by
 go_enter Tryz.func149,Tryz.ntmps149
 go_wp2
 go_ret
 exact⟨rfl,rfl⟩
end bV
end Go.Proofs.YtbemmjnjoabadaaGreatDoor
