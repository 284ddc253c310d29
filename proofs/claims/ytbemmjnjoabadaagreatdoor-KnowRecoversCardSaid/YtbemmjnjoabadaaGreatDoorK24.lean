/- part 24 -/
import Derived.Test.YtbemmjnjoabadaaGreatDoorK23
import Derived.Test.YtbemmjnjoabadaaGreatDoorK20
import Derived.Test.YtbemmjnjoabadaaGreatDoorK18
set_option linter.unusedVariables false
set_option linter.unusedSimpArgs false
set_option maxHeartbeats 8000000
set_option maxRecDepth 100000
namespace Go.Proofs.YtbemmjnjoabadaaGreatDoor
namespace bP
open Go.RowKit aQ Mem _root_.Go.Proofs.YtbemmjnjoabadaaGreatDoor.Code aY Sign _root_.Go.Proofs.YtbemmjnjoabadaaGreatDoor.Item _root_.Go.Proofs.YtbemmjnjoabadaaGreatDoor.Known
def hexT:ByteArray:=⟨#[48,49,50,51,52,53,54,55,56,57,97,98,99,100,101,102]⟩
def hexD(n:Nat):UInt8:=hexT.data.getD n 0
def Qd(b:UInt8):List UInt8:=[hexD (b.toNat/16),hexD (b.toNat%16)]
def hexL(l:List UInt8):List UInt8:=l.flatMap Qd
def Ic(s:ByteArray):ByteArray:=⟨(hexL s.data.toList).toArray⟩
def CB(b:UInt8):List Value:=[.int .u8 (b.toNat:Int)]
theorem aqY(b:UInt8):(CB b).length=1:=rfl
theorem aqZ(b:UInt8):∀v∈CB b,v.oneCell'=true:=by simp[CB,Value.oneCell']
theorem aq0(l:List UInt8):l.flatMap CB=cellsOf l:=by
 induction l with
 |nil=>rfl
 |cons a l ih=>rw[List.flatMap_cons,ih];rfl
theorem afH(l:List UInt8):(hexL l).length=2*l.length:=by
 unfold hexL
 induction l with
 |nil=>rfl
 |cons a l ih=>rw[List.flatMap_cons,List.length_append,ih,List.length_cons];simp[Qd];omega
theorem aq1(l:List UInt8)(j:Nat)(h:j<l.length):hexL (l.take (j+1))=hexL (l.take j)++Qd l[j]:=by
 unfold hexL
 rw[List.take_succ_eq_append_getElem h,List.flatMap_append]
 simp
theorem afI(n:Nat)(h:n<16):hexT[n]'(by exact h)=hexD n:=by
 unfold hexD
 show hexT.data[n]'(by exact h)=_
 rw[Array.getD_eq_getD_getElem?,Array.getElem?_eq_getElem (by exact h)]
 rfl
theorem aq2(b:UInt8):bits .and .u8 (b.toNat:Int) 15=((b.toNat%16:Nat):Int):=by
 have h:∀n:Fin 256,bits .and .u8 ((n.val:Nat):Int) 15=((n.val%16:Nat):Int):=by decide+kernel
 exact h ⟨b.toNat,b.toNat_lt⟩
theorem Va{ρ:Operand->Value}{o:Oper}{w:World}(t:TypeId)(x i:Operand)(s:ByteArray)(k:IntKind)(n:Nat)(hu:Tryz.prog.underlying t=some .string)(ho:o.op= .index t x i)(hx:ρ x= .string s)(hi:ρ i= .int k (n:Int))(hn:n<s.size):(execOp ρ o).run Tryz.prog w= .ok (.value (.int .u8 ((s[n]'hn).toNat:Int))) w:=by
 have hr:=run_index_string (P:=Tryz.prog) (w:=w) t s k (n:Int) hu
 rw[dif_pos ⟨by omega,by omega⟩]at hr
 unfold execOp
 simp only[ho,hx,hi,Sem.run_bind,hr,Result.andThen_ok,Sem.run_pure]
 rfl
theorem aq3{ρ:Operand->Value}{o:Oper}{w:World}(x:Operand)(b:UInt8)(t yt:TypeId)(ho:o.op= .binOp .shr t x (.const (.int .u64 4)) yt)(hx:ρ x= .int .u8 (b.toNat:Int))(hc:ρ (.const (.int .u64 4))= .int .u64 4):(execOp ρ o).run Tryz.prog w= .ok (.value (.int .u8 ((b.toNat/16:Nat):Int))) w:=by
 unfold execOp
 simp only[ho,hx,hc,eqGuard_shr,binOp_shr,shift_shr_any .u8 .u64 _ 4 (by decide),Sem.run_bind,Sem.run_pure,Result.andThen_ok]
 rfl
theorem aq4{ρ:Operand->Value}{o:Oper}{w:World}(x:Operand)(b:UInt8)(t yt:TypeId)(ho:o.op= .binOp .and t x (.const (.int .u8 15)) yt)(hx:ρ x= .int .u8 (b.toNat:Int))(hc:ρ (.const (.int .u8 15))= .int .u8 15):(execOp ρ o).run Tryz.prog w= .ok (.value (.int .u8 ((b.toNat%16:Nat):Int))) w:=by
 rw[<-aq2]
 unfold execOp
 simp only[ho,hx,hc]
 rfl
theorem aq5(x y:Int)(w:World):(Instr.buildSlice 126 2 #[(0, .int .u8 x),(1, .int .u8 y)]).run Tryz.prog w= .ok (.slice (some ⟨w.heap.size,0,none⟩) 2 2) (w.alloc (.cells #[.int .u8 x, .int .u8 y] 5)):=by kernel_rfl
theorem aq6(a b:UInt8)(w:World):dS (w.alloc (.cells #[.int .u8 (a.toNat:Int), .int .u8 (b.toNat:Int)] 5)) (some ⟨w.heap.size,0,none⟩) 1 CB [a,b]:=fun _=>
 ⟨w.heap.size,0,rfl,by simp,fun j hj=>by
   have hb:=ah.new w 5 #[.int .u8 (a.toNat:Int), .int .u8 (b.toNat:Int)]
   have h2:j<2:=hj
   rcases Nat.lt_or_ge j 1 with h|h
   ·have:j=0:=by omega
    subst this
    intro i v hv
    cases i with
    |zero=>
     have hv2:v= .int .u8 (a.toNat:Int):=by simpa[CB]using hv.symm
     subst hv2
     exact hb.cell 0
    |succ i=>simp[CB]at hv
   ·have:j=1:=by omega
    subst this
    intro i v hv
    cases i with
    |zero=>
     have hv2:v= .int .u8 (b.toNat:Int):=by simpa[CB]using hv.symm
     subst hv2
     exact hb.cell 1
    |succ i=>simp[CB]at hv⟩
theorem aq7(s:ByteArray)(w:World)(hs:s.size<=100000):Calls Tryz.prog 92 #[.string s] w fun e w'=>e= .returned (.string (Ic s))/\Q w w':=by
 have hmx:maxLen=9223372036854775807:=by decide
 obtain⟨i0,hi,jq,hz1,hz2⟩:=info_parts Code.Dt
 have hHB:Ic s=⟨(hexL s.data.toList).toArray⟩:=rfl
 obtain⟨w1,hmk,hown0,hg0⟩:=run_make_own (P:=Tryz.prog) w w.heap.size 126 5 i0 _ 1 Tryz.underlying126 hi jq hz1 .i64 .i64 (2*s.size) (by rw[hz2];omega) (by omega) (Nat.le_refl _)
 have hq1:Q w w1:=Below.grown (Below.refl _ w) hg0 (Nat.le_refl _) (by simp)
 have hnl:s.data.toList.length=s.size:=Array.length_toList
 have hby:∀(j:Nat) (h:j<s.size),s[j]=s.data.toList[j]'(by rw[hnl];exact h):=fun j h=>rfl
 rw[Int.natCast_mul]at hmk
 have hmk:(Instr.makeSlice 126 (.int .i64 0) (.int .i64 (2*(s.size:Int)))).run Tryz.prog w= .ok (.slice (some ⟨w.heap.size,0,none⟩) 0 (2*s.size)) w1:=hmk
 have aq8:=aV.of hown0
 generalize Ic s=R at*
 go_enter Tryz.func92,Tryz.ntmps92
 go_wp2_with fail
 go_loopw [3,11] (fun a i wr=>∃(j:Nat) (A:Option Addr) (c:Nat),a= .slice A (2*j) c/\i= .int .i64 j/\j<=s.size/\aV wr w.heap.size 5 1 (.slice A (2*j) c) (2*j) ((hexL (s.data.toList.take j)).flatMap CB)/\Q w wr) (fun _ i _=>s.size-(intOf i).toNat)
 case atStart=>exact⟨0,_,_,rfl,rfl,Nat.zero_le _,aq8,hq1⟩
 case round=>
  obtain⟨j,A,c,rfl,rfl,hj,hown,hqr⟩:=hrel
  by_cases hlt:j<s.size
  ·have pX:(j:Int)<(s.size:Int):=by omega
   have hpos:(0:Int)<=(j:Int):=by omega
   have hst:=aq1 s.data.toList j (by omega)
   have hb:=hby j hlt
   obtain⟨b,Y5⟩:∃b,s[j]=b:=⟨_,rfl⟩
   rw[Y5]at hb
   rw[<-hb]at hst
   clear hb hby
   go_upto_region 5 with(fail)
   refine uT (fun z=>Q w z) (by kernel_rfl) ?_
   have hz0:Q w wr.drew:=hqr.drew
   have hb16:b.toNat/16<16:=by have:=b.toNat_lt;omega
   have afJ:b.toNat%16<16:=by omega
   refine aS 0 (.slice A (2*j) c) hz0 ?_
   try simp only[aax]
   refine aS 1 (.string s) hz0 ?_
   try simp only[aax]
   refine aS 2 (.int .i64 (j:Int)) hz0 ?_
   try simp only[aax]
   refine V7 3 (.int .u8 (b.toNat:Int)) rfl hz0 (fun z hz=>by rw[show(b.toNat:Int)=((s[j]'hlt).toNat:Int) by rw[Y5]];exact Va 9 (.tmp 15) (.tmp 16) s .i64 j Tryz.underlying9 rfl rfl rfl hlt) ?_
   try simp only[aax]
   refine V7 4 (.int .u8 ((b.toNat/16:Nat):Int)) rfl hz0 (fun z hz=>aq3 (.tmp 17) b _ _ rfl rfl rfl) ?_
   try simp only[aax]
   refine V7 5 (.int .u8 ((hexD (b.toNat/16)).toNat:Int)) rfl hz0 (fun z hz=>by rw[<-afI _ hb16];exact Va 9 (.const (.string ⟨#[48,49,50,51,52,53,54,55,56,57,97,98,99,100,101,102]⟩)) (.tmp 18) hexT .u8 _ Tryz.underlying9 rfl rfl rfl hb16) ?_
   try simp only[aax]
   refine aS 6 (.string s) hz0 ?_
   try simp only[aax]
   refine aS 7 (.int .i64 (j:Int)) hz0 ?_
   try simp only[aax]
   refine V7 8 (.int .u8 (b.toNat:Int)) rfl hz0 (fun z hz=>by rw[show(b.toNat:Int)=((s[j]'hlt).toNat:Int) by rw[Y5]];exact Va 9 (.tmp 20) (.tmp 21) s .i64 j Tryz.underlying9 rfl rfl rfl hlt) ?_
   try simp only[aax]
   refine V7 9 (.int .u8 ((b.toNat%16:Nat):Int)) rfl hz0 (fun z hz=>aq4 (.tmp 22) b _ _ rfl rfl rfl) ?_
   try simp only[aax]
   refine V7 10 (.int .u8 ((hexD (b.toNat%16)).toNat:Int)) rfl hz0 (fun z hz=>by rw[<-afI _ afJ];exact Va 9 (.const (.string ⟨#[48,49,50,51,52,53,54,55,56,57,97,98,99,100,101,102]⟩)) (.tmp 23) hexT .u8 _ Tryz.underlying9 rfl rfl rfl afJ) ?_
   try simp only[aax]
   refine aW 11 fun K' hK'=> ?_
   refine dY (fQ 126 2 _ #[(0, .int .u8 ((hexD (b.toNat/16)).toNat:Int)),(1, .int .u8 ((hexD (b.toNat%16)).toNat:Int))] _ rfl (by simp only[List.map_toArray,List.map_cons,List.map_nil];rfl) (aq5 _ _ _)) ?_
   have hq1:=Q.trans hz0 (aO wr.drew #[.int .u8 ((hexD (b.toNat/16)).toNat:Int), .int .u8 ((hexD (b.toNat%16)).toNat:Int)] 5)
   refine hK' _ _ hq1 ?_
   clear hK' K'
   try simp only[aax]
   refine aW 12 fun K' hK'=> ?_
   have hrow:dS (wr.drew.alloc (.cells #[.int .u8 ((hexD (b.toNat/16)).toNat:Int), .int .u8 ((hexD (b.toNat%16)).toNat:Int)] 5)) (some ⟨wr.drew.heap.size,0,none⟩) 1 CB (Qd b):=aq6 _ _ _
   refine jB aqY aqZ (.tmp 14) (.tmp 25) 126 5 i0 _ 1 rfl Tryz.underlying126 hi jq hz1 hz2 rfl (by decide) (by decide) w.heap.size (.slice A (2*j) c) (2*j) (hexL (s.data.toList.take j)) rfl ((hown.drew).alloc _) (some ⟨wr.drew.heap.size,0,none⟩) 2 2 (Qd b) rfl hrow rfl (by omega) (by have:=hqr.size;simp;omega) ?_
   intro A9 c9 w9 kU jd eX bW
   have bD:Q w w9:=fB hq1 (Nat.le_refl _) ((hown.drew).alloc _) bW
   refine hK' _ _ bD ?_
   clear hK' K'
   try simp only[aax]
   refine aS 13 (.slice A9 (2*j+2) c9) bD ?_
   try simp only[aax]
   refine wpAnyH_done (by kernel_rfl) ?_ _
   have hlen:2*(j+1)=2*j+2:=by omega
   rw[<-hst,<-hlen]at eX
   have HO:=Lib.hid eX
   rw[hlen]at HO
   clear eX bW hown hst
   go_wp2_with fail
   exact⟨⟨j+1,A9,c9,rfl,by go_num,by omega,HO.out,bD⟩,by simp only[intOf];omega⟩
  ·obtain rfl:j=s.size:=by omega
   have uO:¬((s.size:Int)<(s.size:Int)):=by omega
   have hcv:=Lh (P:=Tryz.prog) w.heap.size 126 9 5 (.slice A (2*s.size) c) (hexL s.data.toList) Tryz.underlying126 Tryz.underlying5 Tryz.underlying9 (w:=wr) (by rw[afH,hnl,<-aq0];rw[<-hnl,List.take_length,hnl]at hown;exact hown)
   rw[<-hHB]at hcv
   clear hown hHB
   go_wp2_with fail
   go_ret
   exact⟨rfl,hqr⟩
def lI:ByteArray:=⟨#[97,99,116,111,114]⟩
def Nz(p:Int):ByteArray:=(Ic (su (aZ lI++aU p))).extract 0 16
theorem aq9(s:ByteArray):(Ic s).size=2*s.size:=by
 show(hexL s.data.toList).toArray.size=_
 rw[List.size_toArray,afH]
 rfl
theorem ara(p:Int)(w:World)(hT:Tab w)(hp:p<=9223372036854775807):Calls Tryz.prog 41 #[.int .i64 p] w fun e w'=>e= .returned (.string (Nz p))/\Q w w':=by
 have hT1:=fun y:Wd w=>kY lI y.w (by decide)
 have hN1:=fun y:Wd w=>kM p y.w hp
 have z1:(aZ lI).size<=15:=by have:=Cj lI;have h:lI.size=5:=rfl;omega
 have z2:=iI p
 have f1:(aZ lI).size+(aU p).size<=9223372036854775807:=by omega
 have hSh:=fun y:Wd w=>Jf (aZ lI++aU p) y.w (hT.q y.q) (by rw[jG];omega)
 have hz:(su (aZ lI++aU p)).size=32:=yJ _
 have hHx:=fun y:Wd w=>aq7 (su (aZ lI++aU p)) y.w (by omega)
 have hHz:(Ic (su (aZ lI++aU p))).size=64:=by rw[aq9,hz]
 have HR:=Lib.hid (show Nz p=(Ic (su (aZ lI++aU p))).extract 0 16 from rfl)
 clear hT z1 z2 hz
 unfold lI at hT1
 generalize hte:aZ lI=te at*
 rw[show aZ ⟨#[97,99,116,111,114]⟩=te from hte]at hT1
 generalize Nz p=R at*
 generalize aU p=n1 at*
 generalize su (te++n1)=h1 at*
 generalize Ic h1=h2 at*
 have hle:(16:Int)<=(h2.size:Int):=by omega
 obtain⟨v,hv⟩:=Wd.first w
 refine(show Calls Tryz.prog 41 #[.int .i64 p] v.w _->_ from fun h=>by rwa[<-hv]at h) ?_
 clear hv
 go_enter Tryz.func41,Tryz.ntmps41
 go_wp2_with (first|(go_at_call 59;refine(hT1 _).mono ?_;rintro e w' ⟨rfl,hq⟩;obtain⟨y1,rfl⟩:=Wd.next _ hq;clear hq)|(go_at_call 60;refine(hN1 _).mono ?_;rintro e w' ⟨rfl,hq⟩;obtain⟨y2,rfl⟩:=Wd.next _ hq;clear hq)|(go_at_call 93;refine(hSh _).mono ?_;rintro e w' ⟨rfl,hq⟩;obtain⟨y3,rfl⟩:=Wd.next _ hq;clear hq)|(go_at_call 92;refine(hHx _).mono ?_;rintro e w' ⟨rfl,hq⟩;obtain⟨y4,rfl⟩:=Wd.next _ hq;clear hq))
 go_ret
 exact⟨by rw[HR.out];rfl,y4.q⟩
theorem NC(n:Nat)(v a b:Int)(w:World)(hn:(n=0/\v=a)∨(n=1/\v=b)):(Instr.field 66 (.agg #[.int .i64 a, .int .i64 b]) n).run Tryz.prog w= .ok (.int .i64 v) w:=by
 rcases hn with⟨rfl,rfl⟩|⟨rfl,rfl⟩
 ·kernel_rfl
 ·kernel_rfl
def dn(i:Nat):ByteArray:=Nz (aG i).2
theorem Vb(i:Nat)(w:World)(hT:Tab w)(hi:i<256):Calls Tryz.prog 11 #[.int .i64 i] w fun e w'=>e= .returned (.string (dn i))/\Q w w':=by
 have hK:=fun y:Wd w=>Ib i y.w (hT.q y.q) hi
 have hkp:(aG i).2<=9223372036854775807:=Qc i
 have hO:=fun y:Wd w=>ara (aG i).2 y.w (hT.q y.q) hkp
 have HR:=Lib.hid (show dn i=Nz (aG i).2 from rfl)
 have hfl:=fun w=>NC 1 (aG i).2 (aG i).1 (aG i).2 w (.inr ⟨rfl,rfl⟩)
 unfold bH at hK
 generalize dn i=R at*
 generalize aG i=kk at*
 generalize Nz kk.2=o at*
 obtain⟨v,hv⟩:=Wd.first w
 refine(show Calls Tryz.prog 11 #[.int .i64 i] v.w _->_ from fun h=>by rwa[<-hv]at h) ?_
 clear hv hT
 go_enter Tryz.func11,Tryz.ntmps11
 go_wp2_with (first|(go_at_call 23;refine(hK _).mono ?_;rintro e w' ⟨rfl,hq⟩;obtain⟨y1,rfl⟩:=Wd.next _ hq;clear hq)|(go_at_call 41;refine(hO _).mono ?_;rintro e w' ⟨rfl,hq⟩;obtain⟨y2,rfl⟩:=Wd.next _ hq;clear hq))
 go_ret
 exact⟨by rw[HR.out];rfl,y2.q⟩
end bP
namespace Rel
open Go.RowKit aQ Mem _root_.Go.Proofs.YtbemmjnjoabadaaGreatDoor.Code aY Sign _root_.Go.Proofs.YtbemmjnjoabadaaGreatDoor.Item _root_.Go.Proofs.YtbemmjnjoabadaaGreatDoor.Known _root_.Go.Proofs.YtbemmjnjoabadaaGreatDoor.bP
def isS(s x:ByteArray):Bool:=x.toList==s.toList
def PG(l:List ByteArray)(s:ByteArray):Bool:=l.any (isS s)
def MG(l:List ByteArray)(s:ByteArray):Int:=match l.findIdx? (isS s)with
 |some j=>(j:Int)
 |none=> -1
theorem apK(l:List ByteArray)(s:ByteArray):PG l s=decide (0<=MG l s):=by
 unfold PG MG
 cases h:l.findIdx? (isS s)with
 |none=>
  rw[List.findIdx?_eq_none_iff]at h
  have:l.any (isS s)=false:=by rw[List.any_eq_false];intro x hx;simp[h x hx]
  rw[this]
  simp
 |some j=>
  have h2:l.any (isS s)=true:=by
   rw[List.findIdx?_eq_some_iff_getElem]at h
   obtain⟨h1,h3,_⟩:=h
   exact List.any_eq_true.2 ⟨l[j],List.getElem_mem h1,h3⟩
  rw[h2]
  simp
theorem Uz(A:Option Addr)(c:Nat)(l:List ByteArray)(s:ByteArray)(w:World)(hS:Strs w A l)(hlm:l.length<=maxLen):Calls Tryz.prog 89 #[.slice A l.length c, .string s] w fun e w'=>e= .returned (.int .i64 (MG l s))/\Q w w':=by
 have hmx:maxLen=9223372036854775807:=by decide
 have HR:=Lib.hid (show MG l s=match l.findIdx? (isS s)with
  |some j=>(j:Int)
  |none=> -1 from rfl)
 obtain⟨nl,hnl⟩:∃nl,l.length=nl:=⟨_,rfl⟩
 rw[hnl]at hlm⊢
 obtain⟨v0,hv0⟩:=Wd.first w
 refine(show Calls Tryz.prog 89 #[.slice A nl c, .string s] v0.w _->_ from fun h=>by rwa[<-hv0]at h) ?_
 clear hv0
 generalize MG l s=R at*
 go_enter Tryz.func89,Tryz.ntmps89
 go_wp2_with fail
 go_loopw [8] (fun i wr=>∃(j:Nat) (z:Wd w),i= .int .i64 j/\wr=z.w/\j<=nl/\Hid (∀x∈l.take j,isS s x=false)) (fun i _=>nl-(intOf i).toNat)
 case atStart=>exact⟨0,v0,rfl,rfl,Nat.zero_le _,Lib.hid (by simp)⟩
 case round=>
  obtain⟨j,z,rfl,rfl,hj,hno⟩:=hrel
  by_cases hlt:j<nl
  ·have dM:j<l.length:=by omega
   have pX:(j:Int)<(nl:Int):=by omega
   have hpos:(0:Int)<=(j:Int):=by omega
   obtain⟨b,o,rfl,hb0,hcs⟩:=hS (by omega)
   have cx:z.w.cell? ⟨b,o+j,none⟩=some (.string l[j]):=(z.q.cell (p:=⟨b,o+j,none⟩) hb0).trans (hcs j dM)
   have hat:=aev (isS s) l j dM hno.out
   have hst:isS s l[j]=false->∀x∈l.take (j+1),isS s x=false:=fun h x hx=>by
    rw[List.take_succ_eq_append_getElem dM]at hx
    rcases List.mem_append.1 hx with hx|hx
    ·exact hno.out x hx
    ·rw[List.mem_singleton]at hx
     rw[hx]
     exact h
   clear hcs hS
   generalize l[j]=x5 at*
   have hbq:(s.toList==x5.toList)=isS s x5:=by unfold isS;exact Bool.beq_comm
   cases o8:isS s x5
   ·rw[o8]at hbq
    have HS:=Lib.hid (hst o8)
    clear hst hat hno
    go_wp2_with fail
    exact⟨⟨j+1,z,by go_num,rfl,by omega,HS⟩,by simp only[intOf];omega⟩
   ·rw[o8]at hbq
    have HT:Hid (R=(j:Int)):=Lib.hid (by rw[HR.out,hat o8])
    clear hst hat hno
    go_wp2_with fail
    go_ret
    exact⟨by rw[HT.out];rfl,z.q⟩
  ·obtain rfl:j=nl:=by omega
   have uO:¬((j:Int)<(j:Int)):=by omega
   have HT:Hid (R= -1):=Lib.hid (by
    rw[HR.out,aeu _ _ (fun x hx=>hno.out x (by rw[<-hnl,List.take_length];exact hx))])
   clear hno
   go_wp2_with fail
   go_ret
   exact⟨by rw[HT.out];rfl,z.q⟩
theorem apL(A:Option Addr)(c:Nat)(l:List ByteArray)(s:ByteArray)(w:World)(hS:Strs w A l)(hlm:l.length<=maxLen):Calls Tryz.prog 38 #[.slice A l.length c, .string s] w fun e w'=>e= .returned (.bool (PG l s))/\Q w w':=by
 have hIx:=Uz A c l s w hS hlm
 have HR:=Lib.hid (apK l s)
 generalize MG l s=R at*
 go_enter Tryz.func38,Tryz.ntmps38
 go_wp2_with (go_at_call 89;refine hIx.mono ?_;rintro e w' ⟨rfl,hq⟩)
 go_ret
 exact⟨by rw[HR.out];rfl,hq⟩
end Rel
namespace bP
open Go.RowKit aQ Mem _root_.Go.Proofs.YtbemmjnjoabadaaGreatDoor.Code aY Sign _root_.Go.Proofs.YtbemmjnjoabadaaGreatDoor.Item _root_.Go.Proofs.YtbemmjnjoabadaaGreatDoor.Known
def Ap(x:Int):List Value:=[.int .i64 x]
theorem Vd:(Tryz.prog.info? 3).map (fun i=>(i.zero,i.size,i.bytes))=some (some (.int .i64 0),1,8):=by kernel_rfl
theorem Y6(x:Int):(Ap x).length=1:=rfl
theorem ard(x:Int):∀v∈Ap x,v.oneCell'=true:=by simp[Ap,Value.oneCell']
def Ve(l:List Int)(w:World)(e:Ending)(w':World):Prop:=∃(A:Option Addr) (c:Nat),e= .returned (.slice A l.length c)/\l.length<=c/\c<=maxLen/\dI w.heap.size w' A 1 Ap l/\Q w w'
theorem yQ{w:World}{A:Option Addr}{l:List Int}(h:dS w A 1 Ap l):Ints w A l:=fun h0=>by
 obtain⟨b,o,e,hb,hc⟩:=h h0
 refine⟨b,o,e,hb,fun j hj=> ?_⟩
 have:=(hc j hj) 0 (.int .i64 l[j]) rfl
 rw[Nat.mul_one,Nat.add_zero]at this
 exact this
def isId(id:ByteArray)(k:Nat):Bool:=(dn k).toList==id.toList
def Aq(id:ByteArray)(k:Nat):List Int:=((List.range k).filter (isId id)).map fun k=>(aG k).2
def dZ(ids:List ByteArray):List Int:=ids.flatMap fun id=>Aq id 4
theorem afK(id:ByteArray)(k:Nat):Aq id (k+1)=Aq id k++if isId id k then[(aG k).2]else[]:=by
 unfold Aq
 rw[List.range_succ,List.filter_append,List.map_append]
 congr 1
 cases h:isId id k<;>simp[h]
theorem arf(ids:List ByteArray)(j:Nat)(h:j<ids.length):dZ (ids.take (j+1))=dZ (ids.take j)++Aq ids[j] 4:=by
 unfold dZ
 rw[List.take_succ_eq_append_getElem h,List.flatMap_append]
 simp
theorem afL(A:Option Addr)(c:Nat)(ids:List ByteArray)(w:World)(hT:Tab w)(hS:Strs w A ids)(hn:ids.length<=10000):Calls Tryz.prog 24 #[.slice A ids.length c] w (Ve (dZ ids) w):=by
 have hmx:maxLen=9223372036854775807:=by decide
 obtain⟨i0,hi,hz0,hz1,hz2⟩:=info_parts Vd
 have hId:=fun(k:Nat) (hk:k<4) (y:Wd w)=>Vb k y.w (hT.q y.q) (by omega)
 have gq:=fun(k:Nat) (hk:k<4) (y:Wd w)=>Ib k y.w (hT.q y.q) (by omega)
 have hfl:=fun(k:Nat) w=>NC 1 (aG k).2 (aG k).1 (aG k).2 w (.inr ⟨rfl,rfl⟩)
 unfold bH at gq
 obtain⟨v0,hv0⟩:=Wd.first w
 obtain⟨nl,hnl⟩:∃nl,ids.length=nl:=⟨_,rfl⟩
 rw[hnl]at hn⊢
 refine(show Calls Tryz.prog 24 #[.slice A nl c] v0.w _->_ from fun h=>by rwa[<-hv0]at h) ?_
 clear hv0 hT
 go_enter Tryz.func24,Tryz.ntmps24
 go_wp2_with fail
 go_loopw [3,4] (fun a i wr=>∃(j:Nat) (D:Option Addr) (cd:Nat) (ss:List Int) (z:Wd w),a= .slice D ss.length cd/\i= .int .i64 j/\wr=z.w/\j<=nl/\ss.length<=4*j/\ss.length<=cd/\cd<=maxLen/\Hid (ss=dZ (ids.take j))/\aV z.w w.heap.size 3 1 (.slice D ss.length cd) ss.length (ss.flatMap Ap)) (fun _ i _=>nl-(intOf i).toNat)
 case atStart=>exact⟨0,none,0,[],v0,rfl,rfl,rfl,Nat.zero_le _,Nat.zero_le _,Nat.zero_le _,Nat.zero_le _,Lib.hid rfl,aV.nil_ _ _ _ _⟩
 case round=>
  obtain⟨j,D,cd,ss,z,rfl,rfl,rfl,hj,hsj,hsc,hcm,hss,hown⟩:=hrel
  by_cases hlt:j<nl
  ·have dM:j<ids.length:=by omega
   have pX:(j:Int)<(nl:Int):=by omega
   have hpos:(0:Int)<=(j:Int):=by omega
   obtain⟨b,o,rfl,hb0,hcs⟩:=hS (by omega)
   have hcx:∀y:Wd w,y.w.cell? ⟨b,o+j,none⟩=some (.string ids[j]):=fun y=>(y.q.cell (p:=⟨b,o+j,none⟩) hb0).trans (hcs j dM)
   have hst:=arf ids j dM
   rw[<-hss.out]at hst
   have HST:=Lib.hid hst
   clear hcs hS hst
   generalize ids[j]=id at*
   obtain⟨wo,hwo⟩:∃wo:Wd w,wo=z:=⟨z,rfl⟩
   go_wp2_with fail
   go_loopw [3,5] (fun a i wr=>∃(k:Nat) (D:Option Addr) (cd:Nat) (s2:List Int) (z:Wd w),a= .slice D s2.length cd/\i= .int .i64 k/\wr=z.w/\k<=4/\s2.length<=4*j+k/\s2.length<=cd/\cd<=maxLen/\Hid (s2=ss++Aq id k)/\aV z.w w.heap.size 3 1 (.slice D s2.length cd) s2.length (s2.flatMap Ap)) (fun _ i _=>4-(intOf i).toNat)
   case atStart=>exact⟨0,D,cd,ss,z,rfl,rfl,rfl,Nat.zero_le _,hsj,hsc,hcm,Lib.hid (by simp[Aq]),hown⟩
   case round=>
    clear hown hsc hcm hsj
    obtain⟨k,D2,xu,s2,z2,rfl,rfl,rfl,hk,hsk,hsc2,hcm2,hs2,hown2⟩:=hrel
    by_cases hkl:k<4
    ·have Vf:(k:Int)<4:=by omega
     have hps:=afK id k
     have mZ:=hId k hkl
     have hK5:=gq k hkl
     have hf5:=hfl k
     have hbq:((dn k).toList==id.toList)=isId id k:=rfl
     generalize dn k=idk at*
     generalize aG k=kk at*
     have HOW:=Lib.hid hown2
     clear hown2 hId gq hfl
     go_upto_region 8 with(fail)
     have Fv:∀y:Wd z2.w,Calls Tryz.prog 11 #[.int .i64 k] y.w fun e w'=>e= .returned (.string idk)/\Q y.w w':=fun y=>mZ ⟨y.w,Q.trans z2.q y.q⟩
     have hcz:∀y:Wd z2.w,y.w.cell? ⟨b,o+j,none⟩=some (.string id):=fun y=>hcx ⟨y.w,Q.trans z2.q y.q⟩
     obtain⟨x2,hx2⟩:=Wd.first z2.w
     rw[hx2]
     clear hx2
     refine kJ x2 (by kernel_rfl) (by kernel_rfl) ?_
     repeat(go_big_quiet_step (first|(go_at_call 11;exact Wd.call _ (Fv _))))
     refine wpQuiet_nil ?_
     rintro w'' ⟨y,rfl⟩
     have Y7:=Q.trans z2.q y.q
     cases hc:isId id k
     ·rw[hc]at hbq hps
      rw[if_neg (by simp),List.append_nil]at hps
      have HS2:Hid (s2=ss++Aq id (k+1)):=Lib.hid (by rw[hps];exact hs2.out)
      have D8:=Lib.hid (HOW.out.q y.q)
      clear hs2 HOW hps hc hK5 hf5
      go_wp2_with fail
      exact⟨⟨k+1,D2,xu,s2,⟨y.w,Y7⟩,rfl,by go_num,rfl,by omega,by omega,hsc2,hcm2,HS2,D8.out⟩,by simp only[intOf];omega⟩
     ·rw[hc]at hbq hps
      rw[if_pos rfl]at hps
      have HS2:Hid (s2++[kk.2]=ss++Aq id (k+1)):=Lib.hid (by rw[hps,<-List.append_assoc,<-hs2.out])
      have D8:=Lib.hid (HOW.out.q y.q)
      clear hs2 HOW hps hc
      go_wp2_with fail
      refine(hK5 ⟨y.w,Y7⟩).mono ?_
      rintro e w5 ⟨rfl,q5⟩
      have hown5:=D8.out.q q5
      have JM:=Q.trans Y7 q5
      have hs5:=JM.size
      clear D8 hK5
      go_wp2_with (at_builtin;refine Jw Y6 ard rfl (.tmp 23) (.tmp 27) 49 3 i0 _ 8 rfl Tryz.underlying49 hi hz0 hz1 hz2 rfl (by decide) (by decide) w.heap.size (.slice D2 s2.length xu) s2.length _ rfl (hown5.alloc (.cells #[.int .i64 kk.2] 3)) (some ⟨w5.heap.size,0,none⟩) 1 1 [kk.2] rfl (dS.one w5 3 kk.2 _ rfl) rfl (by omega) (by simp;omega) ?_)
      intro A9 c9 w9 kU jd eX bW
      have bD:Q w w9:=fB (Q.trans JM (aO _ _ _)) (Nat.le_refl _) (hown5.alloc _) bW
      have hlen:(s2++[kk.2]).length=s2.length+1:=by simp
      have eF:s2.flatMap Ap++Ap kk.2=(s2++[kk.2]).flatMap Ap:=by simp
      rw[eF,<-hlen]at eX
      have FD:=Lib.hid eX
      clear eX bW hown5
      go_wp2_with fail
      exact⟨⟨k+1,A9,c9,s2++[kk.2],⟨w9,bD⟩,by rw[hlen],by go_num,rfl,by omega,by rw[hlen];omega,by rw[hlen];omega,jd,HS2,FD.out⟩,by simp only[intOf];omega⟩
    ·obtain rfl:k=4:=by omega
     have HS2:Hid (s2=dZ (ids.take (j+1))):=Lib.hid (by rw[HST.out];exact hs2.out)
     have D8:=Lib.hid hown2
     clear hs2 hown2 hId gq hfl
     go_wp2_with fail
     exact⟨⟨j+1,D2,xu,s2,z2,rfl,by go_num,rfl,by omega,by omega,hsc2,hcm2,HS2,D8.out⟩,by simp only[intOf];omega⟩
  ·obtain rfl:j=nl:=by omega
   have uO:¬((j:Int)<(j:Int)):=by omega
   have hse:ss=dZ ids:=by rw[hss.out,<-hnl,List.take_length]
   have HF:Hid (Ve (dZ ids) w (.returned (.slice D ss.length cd)) z.w):=Lib.hid (hse▸⟨D,cd,rfl,hsc,hcm,xU Y6 hown rfl,z.q⟩)
   clear hown hss hse hId gq hfl
   go_wp2_with fail
   go_ret
   exact HF.out
end bP
end Go.Proofs.YtbemmjnjoabadaaGreatDoor
