/- part 3 -/
import Derived.Deep.RegionHeld3
import Derived.Test.YtbemmjnjoabadaaGreatDoorK02
set_option linter.unusedVariables false
set_option linter.unusedSimpArgs false
set_option maxHeartbeats 1000000
set_option maxRecDepth 100000
namespace Go.Proofs.YtbemmjnjoabadaaGreatDoor
namespace aY
open Go.RowKit aQ Mem
def wM:Nat->V8->ByteArray->V8×ByteArray
 |0,v,r=>(v,r)
 |f+1,v,r=>if 64<=r.size then wM f (mix v (r.extract 0 64)) (r.extract 64 r.size)else(v,r)
theorem ab4(f:Nat)(v:V8)(r:ByteArray)(h:r.size<64):wM f v r=(v,r):=by
 cases f with
 |zero=>rfl
 |succ f=>rw[wM,if_neg (by omega)]
theorem ab5(f:Nat)(v:V8)(r:ByteArray)(h:64<=r.size):wM (f+1) v r=wM f (mix v (r.extract 0 64)) (r.extract 64 r.size):=by rw[wM,if_pos h]
def S9(s:ByteArray):V8:=(wM 3 (wM s.size init s).1 (EM (wM s.size init s).2 s.size)).1
def Om(x:Int):List UInt8:=[UInt8.ofNat (x/16777216%256).toNat,UInt8.ofNat (x/65536%256).toNat,UInt8.ofNat (x/256%256).toNat,UInt8.ofNat (x%256).toNat]
def V8.list(v:V8):List Int:=[v.a,v.b,v.c,v.d,v.e,v.f,v.g,v.h]
def digest(v:V8):List UInt8:=v.list.flatMap Om
def su(s:ByteArray):ByteArray:=⟨(digest (S9 s)).toArray⟩
theorem yJ(s:ByteArray):(su s).size=32:=by simp[su,digest,V8.list,Om,ByteArray.size]
theorem ab6(s:ByteArray)(h:0<s.size):(!s.toList.isEmpty)=true:=by
 rw[ByteArray.toList_eq]
 have h1:s.data.toList.length=s.size:=by rw[Array.length_toList];rfl
 cases hl:s.data.toList with
 |nil=>rw[hl]at h1;simp at h1;omega
 |cons a l=>rfl
theorem alh(s:ByteArray)(h:s.size=0):(!s.toList.isEmpty)=false:=by
 rw[ByteArray.toList_eq]
 have h1:s.data.toList.length=s.size:=by rw[Array.length_toList];rfl
 have h2:s.data.toList=[]:=List.eq_nil_of_length_eq_zero (by omega)
 rw[h2]
 rfl
theorem ali(v:V8)(k:Nat)(h:k<8)(w:World):(Instr.index 208 (.agg v.arr) (.int .i64 (k:Int))).run Tryz.prog w= .ok (.int .u32 (v.list.getD k 0)) w:=by
 rcases(show k=0∨k=1∨k=2∨k=3∨k=4∨k=5∨k=6∨k=7 by omega)with rfl|rfl|rfl|rfl|rfl|rfl|rfl|rfl
 all_goals kernel_rfl
theorem alj{v:V8}(h:Bf v)(k:Nat)(hk:k<8):rZ (v.list.getD k 0):=by
 rcases(show k=0∨k=1∨k=2∨k=3∨k=4∨k=5∨k=6∨k=7 by omega)with rfl|rfl|rfl|rfl|rfl|rfl|rfl|rfl
 ·exact h.a
 ·exact h.b
 ·exact h.c
 ·exact h.d
 ·exact h.e
 ·exact h.f
 ·exact h.g
 ·exact h.h
def part(v:V8)(k:Nat):List UInt8:=(v.list.take k).flatMap Om
theorem Tc(x:Int)(h0:0<=x)(h1:x<256):Value.int .u8 ((UInt8.ofNat x.toNat).toNat:Int)=Value.int .u8 x:=by
 have:(UInt8.ofNat x.toNat).toNat=x.toNat:=ald _ (by omega)
 rw[this]
 congr 1
 omega
theorem alk(v:V8)(k:Nat)(hk:k<8):cellsOf (part v (k+1))=cellsOf (part v k)++[.int .u8 (v.list.getD k 0/16777216%256), .int .u8 (v.list.getD k 0/65536%256), .int .u8 (v.list.getD k 0/256%256), .int .u8 (v.list.getD k 0%256)]:=by
 have h1:v.list.take (k+1)=v.list.take k++[v.list.getD k 0]:=by
  have hl:k<v.list.length:=hk
  rw[List.take_succ_eq_append_getElem hl,List.getD_eq_getElem?_getD,List.getElem?_eq_getElem hl]
  rfl
 have h2:part v (k+1)=part v k++Om (v.list.getD k 0):=by simp[part,h1]
 rw[h2,Je]
 generalize v.list.getD k 0=x
 congr 1
 simp only[cellsOf,Om,List.map_cons,List.map_nil]
 rw[Tc _ (by omega) (by omega),Tc _ (by omega) (by omega),Tc _ (by omega) (by omega),Tc _ (by omega) (by omega)]
theorem ab7(w:World)(t:TypeId)(news:List Value)(j:Nat)(u:Value)(h:news[j]?=some u):(w.alloc (.cells news.toArray t)).cell? ((⟨w.heap.size,0,none⟩:Addr).add j)=some u:=by
 have hadd:(⟨w.heap.size,0,none⟩:Addr).add j=⟨w.heap.size,j,none⟩:=by unfold Addr.add;split<;>simp_all
 rw[hadd,(ah.new w t news.toArray).cell j]
 simpa using h
theorem Jf(s:ByteArray)(w:World)(hT:Tab w)(hs:s.size<=140737488355327):
 Calls Tryz.prog 93 #[.string s] w fun e w'=>e= .returned (.string (su s))/\Q w w':=by
 obtain⟨t0,fr0,ab8⟩:=hT.ini
 have HI:=Lib.hid ab8
 clear ab8
 go_enter Tryz.func93,Tryz.ntmps93
 go_wp2_with (first|(refine wpList_load_row rfl 208 _ rfl 0 rfl t0 init.arr fr0 _ HI.out Tryz.underlying208 rfl (by kernel_rfl) ?_)|(refine wpList_store_row rfl 208 _ _ rfl w.heap.size init.arr rfl rfl 208 _ (heap_alloc_new w _) (by kernel_rfl) (by kernel_rfl) (SY _) ?_))
 have hb0:=(ah.new w 208 #[.int .u32 0, .int .u32 0, .int .u32 0, .int .u32 0, .int .u32 0, .int .u32 0, .int .u32 0, .int .u32 0]).setRow init.arr
 have hq0:Q w ((w.alloc (.cells #[.int .u32 0, .int .u32 0, .int .u32 0, .int .u32 0, .int .u32 0, .int .u32 0, .int .u32 0, .int .u32 0] 208)).setRow w.heap.size init.arr):=below_setRow ((Below.refl _ _).alloc (Nat.le_refl _) _) (Nat.le_refl _) _
 generalize (w.alloc (.cells #[.int .u32 0, .int .u32 0, .int .u32 0, .int .u32 0, .int .u32 0, .int .u32 0, .int .u32 0, .int .u32 0] 208)).setRow w.heap.size init.arr=W1 at*
 go_loopw [4] (fun x wr=>∃(f:Nat) (v:V8) (r:ByteArray),x= .string r/\r.size<=f/\r.size<=s.size/\Bf v/\wM s.size init s=wM f v r/\ah wr w.heap.size 208 v.arr/\Q w wr) (fun x _=>(match x with| .string r=>r.size|_=>0))
 case atStart=>exact⟨s.size,init,s,rfl,Nat.le_refl _,Nat.le_refl _,ak0,rfl,hb0,hq0⟩
 case round=>
  obtain⟨f,v,r,rfl,hf,hr,hv,he,hb,hq⟩:=hrel
  have HE:=Lib.hid he
  clear he
  by_cases hlt:64<=r.size
  ·have hT1:=hT.q hq
   have hx:64<=(r.extract 0 64).size:=by simp;omega
   go_wp2_with fail
   go_still_tail 3,(by kernel_rfl)
   refine abE rfl 208 _ rfl w.heap.size rfl 208 v.arr (0,0) _ hb Tryz.underlying208 rfl (by kernel_rfl) ?_
   repeat still_step
   refine wpStill_nil ?_
   change wpList _ _ _ _ _ wr.drew
   go_wp2_with fail
   refine(abY v (r.extract 0 64) _ hv hx (hT1.q (Q.refl _).drew)).mono ?_
   rintro e w2 ⟨rfl,hq2⟩
   have hb2:=ah.q (w:=wr.drew) hb.drew hq2
   have hqq:=Q.trans hq.drew hq2
   go_wp2_with (refine wpList_store_row rfl 208 _ _ rfl w.heap.size (mix v (r.extract 0 64)).arr rfl rfl 208 _ hb2 (by kernel_rfl) (by kernel_rfl) (SY _) ?_)
   cases f with
   |zero=>omega
   |succ f=>
    exact⟨⟨f,mix v (r.extract 0 64),r.extract 64 r.size,rfl,by simp;omega,by simp;omega,abS _ _,by rw[HE.out,ab5 _ _ _ hlt],hb2.setRow _,below_setRow hqq (Nat.le_refl _) _⟩,by simp;omega⟩
  ·have he2:wM s.size init s=(v,r):=by rw[HE.out,ab4 _ _ _ (by omega)]
   have HE2:=Lib.hid he2
   clear he2 HE
   have hT1:=hT.q hq
   go_wp2_with fail
   refine(ale r s.size _ (by omega) hs).mono ?_
   rintro e w2 ⟨rfl,hq2⟩
   have hb2:=hb.q hq2
   have hqq:=Q.trans hq hq2
   have hsz:=alc r s.size (by omega)
   have hsz2:(EM r s.size).size<=128/\(EM r s.size).size%64=0:=by rw[hsz];split<;>omega
   obtain⟨hz1,hz2⟩:=hsz2
   clear hsz hb hq hq2
   go_wp2_with fail
   have hE:S9 s=(wM 3 v (EM r s.size)).1:=by unfold S9;rw[HE2.out]
   have HE3:=Lib.hid hE
   clear hE
   go_loopw [4] (fun x wr=>∃(f:Nat) (v':V8) (r':ByteArray),x= .string r'/\r'.size<=64*f/\r'.size%64=0/\Bf v'/\wM 3 v (EM r s.size)=wM f v' r'/\ah wr w.heap.size 208 v'.arr/\Q w wr) (fun x _=>(match x with| .string r=>r.size|_=>0))
   case atStart=>exact⟨3,v,_,rfl,by omega,hz2,hv,rfl,hb2,hqq⟩
   case round=>
    obtain⟨f,v',r',rfl,hf,hm,hv',he,hb,hq⟩:=hrel
    have HE:=Lib.hid he
    clear he
    by_cases hlt:64<=r'.size
    ·have hT1:=hT.q hq
     have hx:64<=(r'.extract 0 64).size:=by simp;omega
     have hb1:=ab6 r' (by omega)
     have axy:(64:Int)<=(r'.size:Int):=by omega
     go_wp2_with fail
     go_still_tail 3,(by kernel_rfl)
     refine abE rfl 208 _ rfl w.heap.size rfl 208 v'.arr (0,0) _ hb Tryz.underlying208 rfl (by kernel_rfl) ?_
     repeat still_step
     refine wpStill_nil ?_
     change wpList _ _ _ _ _ wr.drew
     go_wp2_with fail
     refine(abY v' (r'.extract 0 64) _ hv' hx (hT1.q (Q.refl _).drew)).mono ?_
     rintro e w3 ⟨rfl,hq3⟩
     have hb3:=ah.q (w:=wr.drew) hb.drew hq3
     have hqq:=Q.trans hq.drew hq3
     go_wp2_with (refine wpList_store_row rfl 208 _ _ rfl w.heap.size (mix v' (r'.extract 0 64)).arr rfl rfl 208 _ hb3 (by kernel_rfl) (by kernel_rfl) (SY _) ?_)
     cases f with
     |zero=>omega
     |succ f=>
      exact⟨⟨f,mix v' (r'.extract 0 64),r'.extract 64 r'.size,rfl,by simp;omega,by simp;omega,abS _ _,by rw[HE.out,ab5 _ _ _ hlt],hb3.setRow _,below_setRow hqq (Nat.le_refl _) _⟩,by simp;omega⟩
    ·have he2:S9 s=v':=by rw[HE3.out,HE.out,ab4 _ _ _ (by omega)]
     have HV:=Lib.hid he2
     clear he2 HE HE3 HE2
     have hb1:=alh r' (by omega)
     obtain⟨i0,hi,hz0,hz1',hz2'⟩:=info_parts Dt
     have hb':wr.heap[w.heap.size]?=some (.cells v'.arr 208 (0,0)):=hb
     have HB:=Lib.hid hb'
     clear hb'
     go_wp2_with (refine wpList_make_own _ rfl _ _ 126 rfl w.heap.size 5 i0 _ 1 Tryz.underlying126 hi hz0 hz1' .i64 .i64 32 32 rfl rfl rfl (by omega) (by simp only[maxLen];omega) hq.size ?_)
     intro w4 hown4 hg4
     have hq4:Q w w4:=Below.trans hq (below_grown hg4 hq.size (fun k hk=>by cases hk))
     have hb4:ah w4 w.heap.size 208 v'.arr:=(hg4.block _ hb.lt (fun h=>by cases h)).trans hb
     have hown4:=aV.of hown4
     clear hg4
     go_wp2_with (refine wpList_load_row rfl 208 _ rfl w.heap.size rfl 208 v'.arr (0,0) _ hb4 Tryz.underlying208 rfl (by kernel_rfl) ?_)
     go_loopw [5,33] (fun x i wr=>∃(A:Option Addr) (c k:Nat),x= .slice A (4*k) c/\i= .int .i64 k/\k<=8/\4*k<=c/\c<=maxLen/\aV wr w.heap.size 5 1 (.slice A (4*k) c) (4*k) (cellsOf (part v' k))/\Q w wr) (fun _ i _=>8-(intOf i).toNat)
     case atStart=>exact⟨_,32,0,rfl,rfl,by omega,by omega,by simp only[maxLen];omega,hown4,hq4⟩
     case round=>
      obtain⟨A,c,k,rfl,rfl,hk,hc,hcm,hown,hq⟩:=hrel
      by_cases hlt:k<8
      ·have hix:=ali v' k hlt
       have hp:=Lib.hid (alk v' k hlt)
       have x0:=(alj hv' k hlt).1
       generalize v'.list.getD k 0=x at*
       go_wp2_with (at_builtin;go_loud (refine Gv _ rfl (.tmp 36) (.tmp 48) 126 rfl w.heap.size 5 i0 _ 1 1 Tryz.underlying126 hi hz0 hz1' hz2' rfl (by decide) _ (4*k) _ rfl (hown.alloc _) ⟨wr.heap.size,0,none⟩ 4 4 [.int .u8 (x/16777216%256), .int .u8 (x/65536%256), .int .u8 (x/256%256), .int .u8 (x%256)] rfl rfl (ab7 _ _ _) ?_ (by simp only[maxLen];omega) (by omega) ?_ ?_))
       ·simp[Value.oneCell']
       ·have:=hq.size
        simp
        omega
       intro v2 w2' hown2 hg2
       have hq2:=Jd hq hown hg2
       rw[<-hp.out]at hown2
       obtain⟨A2,cap2,rfl,hn2,hm2⟩:=hown2.shape
       go_wp2
       exact⟨⟨_,_,k+1,rfl,by go_num,by omega,hn2,hm2,hown2,hq2⟩,by simp only[intOf];omega⟩
      ·obtain rfl:k=8:=by omega
       have hcv:=Lh (P:=Tryz.prog) wr w.heap.size 126 9 5 _ (part v' 8) Tryz.underlying126 Tryz.underlying5 Tryz.underlying9 hown
       go_wp2
       go_ret
       exact⟨by unfold su;rw[HV.out];rfl,hq⟩
end aY
namespace aY
open Go.RowKit aQ
def acc(s:ByteArray):Nat->Int
 |0=>0
 |k+1=>acc s k*256+byteAt s k
def numOf(s:ByteArray):Int:=acc s 8/8
theorem Xm(s:ByteArray):∀k,0<=acc s k/\acc s k<((256^k:Nat):Int):=by
 intro k
 induction k with
 |zero=>exact⟨Int.le_refl _,by rw[acc,Nat.pow_zero];decide⟩
 |succ k ih=>
  have hb:=Lj s k
  rw[acc,Nat.pow_succ]
  omega
theorem aln(s:ByteArray)(k:Nat)(h:k<=7):0<=acc s k/\acc s k<=72057594037927935:=by
 have h1:=Xm s k
 have h2:256^k<=256^7:=Nat.pow_le_pow_right (by decide) h
 have h3:256^7=72057594037927936:=by decide
 omega
theorem acd(s:ByteArray):0<=numOf s/\numOf s<2305843009213693952:=by
 have h1:=Xm s 8
 have h3:256^8=18446744073709551616:=by decide
 unfold numOf
 omega
theorem alo(s:ByteArray)(k:Nat)(h:k<s.size):byteAt s k=(s[k].toNat:Int):=by
 unfold byteAt
 rw[List.getD_eq_getElem?_getD]
 have h2:s.data.toList[k]?=some s[k]:=by
  rw[Array.getElem?_toList]
  exact Array.getElem?_eq_getElem (by have:s.data.size=s.size:=rfl;omega)
 rw[h2]
 rfl
theorem alp(s:ByteArray)(k:Nat)(h:¬k<s.size):byteAt s k=0:=by
 unfold byteAt
 rw[List.getD_eq_getElem?_getD,List.getElem?_eq_none (by rw[Array.length_toList];have:s.data.size=s.size:=rfl;omega)]
 rfl
theorem alq(a b:Int)(ha:0<=a)(ha':a<=72057594037927935)(hb:0<=b)(hb':b<256):bits .or .u64 (a*256) (IntKind.u64.wrap b)=a*256+b:=by
 rw[IntWalk.u64_in b ⟨hb,by omega⟩]
 obtain⟨x,rfl⟩:=Int.eq_ofNat_of_zero_le ha
 obtain⟨y,rfl⟩:=Int.eq_ofNat_of_zero_le hb
 have e1:((x:Int)*256)=((x*256:Nat):Int):=by omega
 rw[e1,bits_or_u64_nat _ _ (by omega) (by omega)]
 have e3:x*256|||y=x*256+y:=by
  have:=Nat.two_pow_add_eq_or_of_lt (i:=8) (b:=y) (by omega) x
  rw[Nat.mul_comm x 256]
  exact this.symm
 rw[e3]
 omega
theorem Xn(s:ByteArray)(w:World)(hs:s.size<=140737488355327):
 Calls Tryz.prog 107 #[.string s] w fun e w'=>e= .returned (.int .i64 (numOf s))/\w=w':=by
 go_enter Tryz.func107,Tryz.ntmps107
 go_wp2_with fail
 go_loop [3,5] (fun x i=>∃k:Nat,k<=8/\i= .int .i64 k/\x= .int .u64 (acc s k)) (fun _ i=>8-(intOf i).toNat)
 case atStart=>exact⟨0,by omega,rfl,rfl⟩
 case round=>
  obtain⟨k,hk,rfl,rfl⟩:=hrel
  by_cases hlt:k<8
  ·obtain⟨a0,a1⟩:=aln s k (by omega)
   have hs1:acc s (k+1)=acc s k*256+byteAt s k:=rfl
   have HS:=Lib.hid hs1
   clear hs1
   by_cases hin:k<s.size
   ·have hb:=alo s k hin
    have hbb:=Lj s k
    rw[hb]at hbb
    have ho:=alq (acc s k) (s[k].toNat:Int) a0 a1 hbb.1 hbb.2
    have HB:=Lib.hid hb
    have HO:=Lib.hid ho
    clear hb ho hbb
    generalize hx:acc s k=x at*
    clear hx
    go_wp2
    exact⟨⟨k+1,by omega,by go_num,by rw[HO.out,HS.out,HB.out]⟩,by simp only[intOf];omega⟩
   ·have hb:=alp s k hin
    have HB:=Lib.hid hb
    clear hb
    generalize hx:acc s k=x at*
    clear hx
    go_wp2
    exact⟨⟨k+1,by omega,by go_num,by rw[HS.out,HB.out,Int.add_zero]⟩,by simp only[intOf];omega⟩
  ·obtain rfl:k=8:=by omega
   have hb:=Xm s 8
   rw[show((256^8:Nat):Int)=18446744073709551616 from rfl]at hb
   have HB:=Lib.hid hb
   have h0:=hb.1
   clear hb
   have hn:numOf s=acc s 8/8:=rfl
   have hq0:0<=acc s 8/8:=by omega
   have hq1:acc s 8/8<=9223372036854775807:=by have:=HB.out;omega
   go_wp2
   go_ret
   exact⟨rfl,rfl⟩
end aY
namespace Sign
open Go.RowKit aQ Mem _root_.Go.Proofs.YtbemmjnjoabadaaGreatDoor.Code aY
theorem ace(ls:List (List UInt8)):Lib.join ls []=ls.flatten:=by
 induction ls with
 |nil=>rfl
 |cons x r ih=>
  cases r with
  |nil=>simp[Lib.join]
  |cons y r=>rw[List.flatten_cons,<-ih];simp[Lib.join]
def cat(l:List ByteArray):ByteArray:=⟨(l.map (·.data.toList)).flatten.toArray⟩
theorem Xo(l:List ByteArray):(cat l).size=(l.map (·.size)).sum:=by
 rw[cat,tK,List.length_flatten,List.map_map]
 congr 1
theorem acf:(ByteArray.mk #[]).data.toList=[]:=rfl
theorem alr(A:Option Addr)(l:List ByteArray)(c:Nat)(w:World)(hS:Strs w A l)(hc:l.length<=c)(hn:l.length<=140737488355328)(hs:(cat l).size<=140737488355328):
 Calls Tryz.prog 159 #[.slice A l.length c, .string ⟨#[]⟩] w fun e w'=>e= .returned (.string (cat l))/\Q w w':=by
 cases l with
 |nil=>exact(Tryz.strings_Join_none A c ⟨#[]⟩ w).mono fun e w' ⟨he,hw⟩=>⟨he,hw▸Q.refl _⟩
 |cons x r=>
  obtain⟨b,o,rfl,hb,hcell⟩:=hS (by simp)
  refine(Tryz.strings_Join b o c (x::r) ⟨#[]⟩ w ?_ hb hn hc ?_).mono ?_
  ·intro j y hj
   obtain⟨h1,h2⟩:=List.getElem?_eq_some_iff.mp hj
   rw[hcell j h1,h2]
  ·rw[acf,ace]
   unfold cat at hs
   rw[tK]at hs
   exact hs
  ·rintro e w' ⟨rfl,hq⟩
   rw[acf,ace]
   exact⟨rfl,hq⟩
def lU(s:ByteArray):Int:=numOf (su s)
theorem Oo(s:ByteArray):0<=lU s/\lU s<2305843009213693952:=acd _
theorem acg(A:Option Addr)(l:List ByteArray)(c:Nat)(w:World)(hT:Tab w)(hS:Strs w A l)(hc:l.length<=c)(hn:l.length<=140737488355328)(hs:(cat l).size<=140737488355327):
 Calls Tryz.prog 103 #[.slice A l.length c] w fun e w'=>e= .returned (.int .i64 (lU (cat l)))/\Q w w':=by
 go_enter Tryz.func103,Tryz.ntmps103
 go_wp2_with fail
 refine(alr _ l _ _ (by with_reducible assumption) hc hn (by omega)).mono ?_
 rintro e w1 ⟨rfl,hq1⟩
 have hT1:=hT.q hq1
 go_wp2_with fail
 refine(Jf _ _ hT1 hs).mono ?_
 rintro e w2 ⟨rfl,hq2⟩
 have hz:=yJ (cat l)
 go_wp2_with fail
 refine(Xn _ _ (by omega)).mono ?_
 rintro e w3 ⟨rfl,rfl⟩
 go_wp2
 go_ret
 exact⟨rfl,Q.trans hq1 hq2⟩
def EN(h:Int):Int:=1+h%2305843009213693949
theorem Oq(h:Int):1<=EN h/\EN h<=2305843009213693949:=by unfold EN;omega
theorem ach(h:Int)(w:World)(h0:0<=h)(h1:h<=9223372036854775807):
 Calls Tryz.prog 102 #[.int .i64 h] w fun e w'=>e= .returned (.int .i64 (EN h))/\Q w w':=by
 go_enter Tryz.func102,Tryz.ntmps102
 go_wp2
 go_ret
 exact⟨rfl,Q.refl _⟩
end Sign
end Go.Proofs.YtbemmjnjoabadaaGreatDoor
