/- part 26 -/
import Derived.Deep.RegionWith
import Derived.Maps.Own
import Derived.Maps.Views
import Derived.Test.YtbemmjnjoabadaaGreatDoorK05
set_option linter.unusedVariables false
set_option linter.unusedSimpArgs false
set_option maxHeartbeats 4000000
set_option maxRecDepth 100000
namespace Go.Proofs.YtbemmjnjoabadaaGreatDoor
namespace oG
open aQ
def zJ(a b:Int):Prop:=∃k:Int,a=b+2305843009213693951*k
theorem zJ.refl(a:Int):zJ a a:=⟨0,by omega⟩
theorem zJ.symm{a b:Int}(h:zJ a b):zJ b a:=by obtain⟨k,h⟩:=h;exact⟨-k,by omega⟩
theorem zJ.trans{a b c:Int}(h:zJ a b)(k:zJ b c):zJ a c:=by obtain⟨i,h⟩:=h;obtain⟨j,k⟩:=k;exact⟨i+j,by omega⟩
theorem zJ.add{a b c d:Int}(h:zJ a b)(k:zJ c d):zJ (a+c) (b+d):=by obtain⟨i,h⟩:=h;obtain⟨j,k⟩:=k;exact⟨i+j,by omega⟩
end oG
namespace oG
open Go.RowKit aQ Mem
def RX(w:World)(A:Option Addr)(l:List (Int×Int)):Prop:=0<l.length->∃b o,A=some ⟨b,o,none⟩/\b<w.heap.size/\∀j (h:j<l.length),w.cell? ⟨b,o+j*2,none⟩=some (.int .i64 l[j].1)/\w.cell? ⟨b,o+j*2+1,none⟩=some (.int .i64 l[j].2)
theorem RX.q{w w':World}{A:Option Addr}{l:List (Int×Int)}(h:RX w A l)(hq:Q w w'):RX w' A l:=fun h0=>by
 obtain⟨b,o,e,hb,hc⟩:=h h0
 exact⟨b,o,e,Nat.lt_of_lt_of_le hb hq.size,fun j hj=>⟨(hq.cell (p:=⟨b,o+j*2,none⟩) hb).trans (hc j hj).1,(hq.cell (p:=⟨b,o+j*2+1,none⟩) hb).trans (hc j hj).2⟩⟩
def Pr(w0 w:World)(b i j:Nat)(u v:Int):Prop:=b<w.heap.size/\Q w0 w/\w.cell? ⟨b,i,none⟩=some (.int .i64 u)/\w.cell? ⟨b,j,none⟩=some (.int .i64 v)
theorem Pr.q{w0 w w':World}{b i j:Nat}{u v:Int}(h:Pr w0 w b i j u v)(hq:Q w w'):Pr w0 w' b i j u v:=⟨Nat.lt_of_lt_of_le h.1 hq.size,Q.trans h.2.1 hq,(hq.cell (p:=⟨b,i,none⟩) h.1).trans h.2.2.1,(hq.cell (p:=⟨b,j,none⟩) h.1).trans h.2.2.2⟩
end oG
namespace oG
open Go.RowKit aQ Mem _root_.Go.Proofs.YtbemmjnjoabadaaGreatDoor.Code aY
open Sign (lU Oo pK)
theorem Vd:(Tryz.prog.info? 3).map (fun i=>(i.zero,i.size,i.bytes))=some (some (.int .i64 0),1,8):=by kernel_rfl
def RY(s:Int)(seed:ByteArray)(i:Nat):Int:=if i=0 then s else Jh (lU (aZ seed++aU (i:Int))) 0
def wK(s:Int)(seed:ByteArray)(n:Nat):List Int:=(List.range n).map (RY s seed)
def Gt(l:List Int):List Value:=l.map fun x=>Value.int .i64 x
theorem avw(s:Int)(seed:ByteArray)(n:Nat):(wK s seed n).length=n:=by simp[wK]
theorem avx(s:Int)(seed:ByteArray)(n:Nat):Gt (wK s seed (n+1))=Gt (wK s seed n)++[.int .i64 (RY s seed n)]:=by simp[Gt,wK,List.range_succ]
theorem avy(s t:Int)(seed:ByteArray)(w:World)(hT:Tab w)(h0:1<=t)(h1:t<=1000000)(hs:seed.size<=140737488355000):
 Calls Tryz.prog 104 #[.int .i64 s, .int .i64 t, .string seed] w fun e w'=>∃A c,e= .returned (.slice A t.toNat c)/\aV w' w.heap.size 3 1 (.slice A t.toNat c) t.toNat (Gt (wK s seed t.toNat))/\Q w w':=by
 obtain⟨i0,hi,hz0,hz1,hz2⟩:=info_parts Vd
 have hown0:aV (w.alloc (.cells #[.int .i64 s] 3)) w.heap.size 3 1 (.slice (some ⟨w.heap.size,0,none⟩) 1 1) 1 (Gt (wK s seed 1)):=by
  refine⟨rfl, .inr ⟨w.heap.size,1,#[.int .i64 s],(0,0),rfl,Nat.le_refl _,heap_alloc_new w _, .inl rfl,Nat.le_refl _,by simp[maxLen],rfl,?_⟩⟩
  simp[Gt,wK,RY]
 have hq0:Q w (w.alloc (.cells #[.int .i64 s] 3)):=Below.alloc (Q.refl w) (Nat.le_refl _) _
 go_enter Tryz.func104,Tryz.ntmps104
 go_wp2_with fail
 go_loopw [7,8] (fun x i wr=>∃(A:Option Addr) (c k:Nat),x= .slice A k c/\i= .int .i64 k/\1<=k/\(k:Int)<=t/\k<=c/\c<=maxLen/\aV wr w.heap.size 3 1 (.slice A k c) k (Gt (wK s seed k))/\Q w wr) (fun _ i _=>t.toNat-(intOf i).toNat)
 case atStart=>exact⟨_,1,1,rfl,rfl,by omega,by omega,by omega,by simp[maxLen],hown0,hq0⟩
 case round=>
  obtain⟨A,c,k,rfl,rfl,hk1,hk,hc,hcm,hown,hq⟩:=hrel
  by_cases hlt:(k:Int)<t
  ·have hco:RY s seed k=Jh (lU (aZ seed++aU (k:Int))) 0:=by unfold RY;rw[if_neg (by omega)]
   have hsu:=avx s seed k
   rw[hco]at hsu
   have HSU:=Lib.hid hsu
   have h2:=pK seed
   have h3:=iI (k:Int)
   have s1:(aZ seed).size+(aU (k:Int)).size<=9223372036854775807:=by omega
   have hz:(aZ seed++aU (k:Int)).size<=140737488355327:=by rw[ByteArray.size_append];omega
   have HZ:=Lib.hid hz
   have hhb:=Oo (aZ seed++aU (k:Int))
   have hsz:=yJ (aZ seed++aU (k:Int))
   clear hco hsu h2 h3 hz
   go_wp2_with fail
   refine(kY _ _ (by omega)).mono ?_
   rintro e w1 ⟨rfl,hq1⟩
   go_wp2_with fail
   refine(kM _ _ (by omega)).mono ?_
   rintro e w2 ⟨rfl,hq2⟩
   go_wp2_with fail
   refine(Jf _ _ ((hT.q hq).q (Q.trans hq1 hq2)) HZ.out).mono ?_
   rintro e w3 ⟨rfl,hq3⟩
   go_wp2_with fail
   refine(Xn _ _ (by omega)).mono ?_
   rintro e w4 ⟨rfl,rfl⟩
   go_wp2_with fail
   refine(aco _ _ _).mono ?_
   rintro e w4 ⟨rfl,rfl⟩
   have hqa:=Q.trans hq1 (Q.trans hq2 hq3)
   have hown:=hown.q hqa
   have hq:=Q.trans hq hqa
   clear hq1 hq2 hqa
   go_wp2_with (at_builtin;go_loud (refine Gv _ rfl (.tmp 24) (.tmp 27) 49 rfl w.heap.size 3 i0 _ 1 8 Tryz.underlying49 hi hz0 hz1 hz2 rfl (by decide) _ k _ rfl (hown.alloc _) ⟨w3.heap.size,0,none⟩ 1 1 [.int .i64 (Jh (lU (aZ seed++aU (k:Int))) 0)] rfl rfl (cell_one_new _ _ _) (by simp[Value.oneCell']) (by simp only[maxLen];omega) (by omega) ?_ ?_))
   ·have:=hq.size
    simp
    omega
   intro v5 w5 hown5 hg5
   have hq5:=Jd hq hown hg5
   rw[<-HSU.out]at hown5
   obtain⟨A2,cap2,rfl,hn2,hm2⟩:=hown5.shape
   go_wp2
   exact⟨⟨_,_,k+1,rfl,by go_num,by omega,by omega,hn2,hm2,hown5,hq5⟩,by simp only[intOf];omega⟩
  ·have hkt:t.toNat=k:=by omega
   have HKT:=Lib.hid hkt
   clear hkt
   go_wp2
   go_ret
   exact⟨A,c,by rw[HKT.out];rfl,by rw[HKT.out];exact hown,hq⟩
end oG
namespace oG
open Go.RowKit aQ Mem
def cells2:List (Int×Int)->List Value
 |[]=>[]
 |s::r=> .int .i64 s.1:: .int .i64 s.2::cells2 r
theorem avA:∀(l:List (Int×Int)) (j:Nat) (h:j<l.length),(cells2 l)[j*2]?=some (.int .i64 l[j].1):=by
 intro l
 induction l with
 |nil=>intro j h;simp at h
 |cons s r ih=>
  intro j h
  cases j with
  |zero=>rfl
  |succ j=>
   rw[show(j+1)*2=j*2+1+1 by omega,cells2,List.getElem?_cons_succ,List.getElem?_cons_succ]
   exact ih j (by simpa using h)
theorem avC:∀(l:List (Int×Int)) (j:Nat) (h:j<l.length),(cells2 l)[j*2+1]?=some (.int .i64 l[j].2):=by
 intro l
 induction l with
 |nil=>intro j h;simp at h
 |cons s r ih=>
  intro j h
  cases j with
  |zero=>rfl
  |succ j=>
   rw[show(j+1)*2+1=j*2+1+1+1 by omega,cells2,List.getElem?_cons_succ,List.getElem?_cons_succ]
   exact ih j (by simpa using h)
theorem RX.of{w:World}{g:Nat}{t:TypeId}{l m:List (Int×Int)}(h:ah w g t (cells2 (l++m)).toArray):RX w (some ⟨g,0,none⟩) l:=fun h0=>
 ⟨g,0,rfl,h.lt,fun j hj=>by
   have hj':j<(l++m).length:=by rw[List.length_append];omega
   have e0:=avA (l++m) j hj'
   have e1:=avC (l++m) j hj'
   rw[List.getElem_append_left hj]at e0 e1
   rw[Nat.zero_add,h.cell,h.cell,List.getElem?_toArray,List.getElem?_toArray]
   exact⟨e0,e1⟩⟩
end oG
namespace oG
open Go.RowKit aQ Mem
open Sign (aO)
theorem avD:(Tryz.prog.info? 72).map (fun i=>(i.zero,i.size,i.bytes))=some (some (.agg #[.int .i64 0, .int .i64 0]),2,16):=by kernel_rfl
def Frm(w0 w:World)(g gs:Nat)(cs:Array Value)(X Y:Int):Prop:=Q w0 w/\ah w g 72 cs/\ah w gs 72 #[.int .i64 X, .int .i64 Y]
theorem Frm.q{w0 w w':World}{g gs:Nat}{cs:Array Value}{X Y:Int}(h:Frm w0 w g gs cs X Y)(hq:Q w w'):Frm w0 w' g gs cs X Y:=⟨Q.trans h.1 hq,h.2.1.q hq,h.2.2.q hq⟩
end oG
namespace oG
open Go.RowKit aQ Mem _root_.Go.Proofs.YtbemmjnjoabadaaGreatDoor.Code aY
def hor:List Int->Int->Int
 |[],_=>0
 |c::r,x=>Jh (Dx (hor r x) x) c
theorem avE(l:List Int)(j:Nat)(h:j<l.length)(x:Int):hor (l.drop j) x=Jh (Dx (hor (l.drop (j+1)) x) x) (l.getD j 0):=by
 rw[List.drop_eq_getElem_cons h,hor,List.getD_eq_getElem?_getD,List.getElem?_eq_getElem h]
 rfl
def yH(s:Int)(seed:ByteArray)(t n:Nat):List (Int×Int):=(List.range n).map fun j=>(((j+1:Nat):Int),hor (wK s seed t) ((j+1:Nat):Int))
theorem avF(s:Int)(seed:ByteArray)(t n:Nat):(yH s seed t n).length=n:=by simp[yH]
theorem avG:∀l m:List (Int×Int),cells2 (l++m)=cells2 l++cells2 m:=by
 intro l m
 induction l with
 |nil=>rfl
 |cons s r ih=>simp[cells2,ih]
theorem avH(s:Int)(seed:ByteArray)(t n:Nat):cells2 (yH s seed t (n+1))=cells2 (yH s seed t n)++[.int .i64 ((n+1:Nat):Int), .int .i64 (hor (wK s seed t) ((n+1:Nat):Int))]:=by
 have h:yH s seed t (n+1)=yH s seed t n++[(((n+1:Nat):Int),hor (wK s seed t) ((n+1:Nat):Int))]:=by simp[yH,List.range_succ]
 rw[h,avG]
 rfl
theorem ai7(l:List Int)(j:Nat)(h:j<l.length):(Gt l)[j]?=some (.int .i64 (l.getD j 0)):=by
 simp[Gt,List.getD_eq_getElem?_getD,List.getElem?_eq_getElem h]
theorem one_step{w0 w w':World}{g i:Nat}{v:Value}(h:w.cell? ⟨g,i,none⟩=some v/\g<w.heap.size/\Q w0 w)(hq:Q w w'):w'.cell? ⟨g,i,none⟩=some v/\g<w'.heap.size/\Q w0 w':=
 ⟨(hq.cell (p:=⟨g,i,none⟩) h.2.1).trans h.1,Nat.lt_of_lt_of_le h.2.1 hq.size,Q.trans h.2.2 hq⟩
theorem avI(s t n:Int)(seed:ByteArray)(w:World)(hT:Tab w)(ht:1<=t)(htn:t<=n)(hn:n<=64)(hs0:0<=s)(hs1:s<2305843009213693951)(hsd:seed.size<=140737488355000):
 Calls Tryz.prog 62 #[.int .i64 s, .int .i64 t, .int .i64 n, .string seed] w fun e w'=>∃A c,e= .returned (.tuple #[.slice A n.toNat c, .bool true])/\aV w' w.heap.size 72 2 (.slice A n.toNat c) n.toNat (cells2 (yH s seed t.toNat n.toNat))/\Q w w':=by
 obtain⟨i0,hi,hz0,hz1,hz2⟩:=info_parts avD
 have e1:decide (t<1)=false:=by simp;omega
 have e2:decide (n<t)=false:=by simp;omega
 have e3:decide (64<n)=false:=by simp;omega
 have e4:decide (s<0)=false:=by simp;omega
 have e5:decide (2305843009213693951<=s)=false:=by simp;omega
 have hcl:=avw s seed t.toNat
 go_enter Tryz.func62,Tryz.ntmps62
 go_wp2_with fail
 refine(avy s t seed _ hT ht (by omega) hsd).mono ?_
 rintro e w1 ⟨Ac,cc,rfl,aa2,hq1⟩
 have ai8:=avH s seed t.toNat
 have ai9:=Lib.hid ai8
 clear ai8
 obtain⟨gc,rfl,-,hgc,-,-⟩:=aa2.cellAt 0 _ (ai7 _ 0 (by omega))
 have hcell:∀j,j<t.toNat->∀W,Q w1 W->W.cell? ⟨gc,j,none⟩=some (.int .i64 ((wK s seed t.toNat).getD j 0)):=fun j hj W hW=>by
  obtain⟨g',he,-,-,hc,-⟩:=(aa2.q hW).cellAt j _ (ai7 _ j (by omega))
  obtain rfl:gc=g':=by injection he with h;injection h
  exact hc
 have aja:=Lib.hid hcell
 clear hcell aa2
 obtain⟨tn,avJ⟩:∃tn,t.toNat=tn:=⟨_,rfl⟩
 rw[avJ]at aja ai9 hcl⊢
 generalize wK s seed tn=cs at*
 go_wp2_with fail
 have hw1:w.heap.size<=w1.heap.size:=hq1.size
 go_loopw [11,12] (fun sl i wr=>∃(A:Option Addr) (c k:Nat),sl= .slice A k c/\i= .int .i64 ((k:Int)+1)/\(k:Int)<=n/\k<=c/\c<=maxLen/\aV wr w1.heap.size 72 2 (.slice A k c) k (cells2 (yH s seed tn k))/\Q w1 wr) (fun _ i _=>n.toNat+1-(intOf i).toNat)
 case atStart=>exact⟨none,0,0,rfl,rfl,by omega,by omega,by simp[maxLen],aV.nil_ _ _ _ _,Q.refl _⟩
 case round=>
  obtain⟨A,c,k,rfl,rfl,hk,hc,hcm,hown,hq⟩:=hrel
  by_cases hlt:(k:Int)+1<=n
  ·have hsp:=ai9.out k
   rw[show((k+1:Nat):Int)=(k:Int)+1 from rfl]at hsp
   have HSP:=Lib.hid hsp
   clear hsp
   have hw2:w1.heap.size<=wr.heap.size:=hq.size
   go_wp2_with fail
   go_loopw [13,14] (fun y i wr2=>∃q:Int,i= .int .i64 q/\ -1<=q/\q<t/\y= .int .i64 (hor (cs.drop (q+1).toNat) ((k:Int)+1))/\Q wr wr2) (fun _ i _=>(intOf i+1).toNat)
   case atStart=>
    refine⟨t-1,rfl,by omega,by omega,?_,Q.refl _⟩
    rw[show(t-1+1).toNat=cs.length by omega,List.drop_length]
    rfl
   case round=>
    obtain⟨q,rfl,hq0,hqt,rfl,hqq⟩:=hrel
    by_cases h0:0<=q
    ·have hcell:=aja.out q.toNat (by omega) _ (Q.trans hq hqq)
     have hst:=avE cs q.toNat (by omega) ((k:Int)+1)
     have e6:(q+1).toNat=q.toNat+1:=by omega
     have e7:(q-1+1).toNat=q.toNat:=by omega
     have hst':hor (cs.drop (q-1+1).toNat) ((k:Int)+1)=Jh (Dx (hor (cs.drop (q+1).toNat) ((k:Int)+1)) ((k:Int)+1)) (cs.getD q.toNat 0):=by rw[e6,e7];exact hst
     have HST:=Lib.hid hst'
     have ayV:=hgc
     have Ob:q<(tn:Int):=by omega
     clear hst hst' e6 e7
     generalize hor (cs.drop (q+1).toNat) ((k:Int)+1)=V at*
     generalize cs.getD q.toNat 0=U at*
     go_wp2_with fail
     go_region_held3 (fun w'=>w'.cell? ⟨gc,q.toNat,none⟩=some (.int .i64 U)/\gc<w'.heap.size/\Q wr w')
      (first|exact⟨hcell,Nat.lt_of_lt_of_le hgc (Q.trans hq hqq).size,(Q.refl _).drew⟩|(with_reducible assumption)|exact one_step (by assumption) hqz)
      (first
        |(go_at_call 75;refine(Xt _ _ _).mono ?_;rintro e w' ⟨rfl,hqz⟩)
        |(go_at_call 105;refine(aco _ _ _).mono ?_;rintro e w' ⟨rfl,rfl⟩))
     all_goals
      go_wp2
      exact⟨⟨q-1,rfl,by omega,by omega,by rw[HST.out],by rename_i hh;exact Q.trans hqq hh.2.2⟩,by simp only[intOf];omega⟩
    ·obtain rfl:q= -1:=by omega
     have hown:=hown.q hqq
     have hq:=Q.trans hq hqq
     have hd0:hor (cs.drop (-1+1:Int).toNat) ((k:Int)+1)=hor cs ((k:Int)+1):=rfl
     rw[hd0]
     clear hd0
     generalize hV:hor cs ((k:Int)+1)=V at*
     clear hV
     have hlen2:([.int .i64 ((k:Int)+1), .int .i64 V]:List Value).length=1*2:=rfl
     go_wp2_with (at_builtin;go_loud (refine Gv _ rfl (.tmp 57) (.tmp 61) 70 rfl w1.heap.size 72 i0 _ 2 16 Tryz.underlying70 hi hz0 hz1 hz2 rfl (by decide) _ k _ rfl (hown.alloc _) ⟨wr.heap.size,0,none⟩ 1 1 [.int .i64 ((k:Int)+1), .int .i64 V] rfl rfl (ab7 _ _ _) ?_ (by simp only[maxLen];omega) (by omega) ?_ ?_))
     ·simp[Value.oneCell']
     ·have:=hq.size
      simp
      omega
     intro v5 w5 hown5 hg5
     have hq5:=Jd hq hown hg5
     rw[<-HSP.out]at hown5
     obtain⟨A2,cap2,rfl,hn2,hm2⟩:=hown5.shape
     go_wp2
     exact⟨⟨_,_,k+1,rfl,by go_num,by omega,hn2,hm2,hown5,hq5⟩,by simp only[intOf];omega⟩
  ·have hkn:n.toNat=k:=by omega
   have HKN:=Lib.hid hkn
   clear hkn
   go_wp2
   go_ret2
   exact⟨A,c,by rw[HKN.out];rfl,by rw[HKN.out];exact hown.low hw1,Q.trans hq1 hq⟩
end oG
namespace oG
open Go.RowKit aQ Mem
def Seen(w:World)(b n:Nat)(seen:List Int):Prop:=
 ∃D:DataW Unit,w.ownsMap Tryz.prog 3 (plainElem Tryz.prog 4) b n D/\Maps.IsMap D/\∀x,D.atKey (.int .i64 x) (.lit (.bool false))= .lit (.bool (decide (x∈seen)))
theorem Seen.drew{w:World}{b n:Nat}{seen:List Int}(h:Seen w b n seen):Seen w.drew b n seen:=by
 obtain⟨D,h1,h2⟩:=h;exact⟨D,h1.drew,h2⟩
theorem Seen.alloc{w:World}{b n:Nat}{seen:List Int}(h:Seen w b n seen)(o:Obj):Seen (w.alloc o) b n seen:=by
 obtain⟨D,h1,h2⟩:=h;exact⟨D,h1.alloc o,h2⟩
end oG
namespace oG
open aQ
def pt(l:List (Int×Int))(i:Nat):Int×Int:=l.getD i (0,0)
theorem avL(cs:List Int)(x:Int):0<=hor cs x/\hor cs x<2305843009213693951:=by
 cases cs with
 |nil=>exact⟨Int.le_refl _,show(0:Int)<2305843009213693951 by decide⟩
 |cons c r=>exact zN _ (by decide)
theorem avM(s:Int)(seed:ByteArray)(t n:Nat)(p:Int×Int)(h:p∈yH s seed t n):(1<=p.1/\p.1<=n)/\p.2=hor (wK s seed t) p.1:=by
 unfold yH at h
 obtain⟨j,hj,rfl⟩:=List.mem_map.1 h
 rw[List.mem_range]at hj
 exact⟨by dsimp only;omega,rfl⟩
theorem avN(s:Int)(seed:ByteArray)(t n:Nat)(hn:n<=64)(p:Int×Int)(h:p∈yH s seed t n):1<=p.1/\p.1<2305843009213693951/\0<=p.2/\p.2<2305843009213693951:=by
 obtain⟨h1,h2⟩:=avM s seed t n p h
 have:=avL (wK s seed t) p.1
 rw[h2]
 omega
end oG
end Go.Proofs.YtbemmjnjoabadaaGreatDoor
