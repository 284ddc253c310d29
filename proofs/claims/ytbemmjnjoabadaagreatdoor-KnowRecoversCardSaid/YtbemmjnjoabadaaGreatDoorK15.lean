/- part 15 -/
import Derived.Test.YtbemmjnjoabadaaGreatDoorK11
set_option linter.unusedVariables false
set_option linter.unusedSimpArgs false
set_option maxHeartbeats 16000000
set_option maxRecDepth 100000
namespace Go.Proofs.YtbemmjnjoabadaaGreatDoor
namespace Item
open Go.RowKit aQ Mem _root_.Go.Proofs.YtbemmjnjoabadaaGreatDoor.Code aY Sign
theorem adu{α:Type}(l m:List α)(k:Nat)(h1:k<l.length)(h2:k<m.length)(h:l.take k=m.take k)(he:l[k]=m[k]):l.take (k+1)=m.take (k+1):=by
 rw[List.take_succ_eq_append_getElem h1,List.take_succ_eq_append_getElem h2,h,he]
theorem adv{α:Type}(l m:List α)(k:Nat)(h1:k<l.length)(h2:k<m.length)(he:l[k]≠m[k]):l≠m:=fun e=>by
 subst e
 exact he rfl
theorem XV(A B:Option Addr)(c d:Nat)(l m:List ByteArray)(w:World)(hS:Strs w A l)(hT:Strs w B m)(hl:l.length<=9223372036854775807)(hm:m.length<=9223372036854775807):
 Calls Tryz.prog 122 #[.slice A l.length c, .slice B m.length d] w fun e w'=>e= .returned (.bool (decide (l=m)))/\Q w w':=by
 by_cases hlen:l.length=m.length
 ·have hn:((l.length:Int) !=(m.length:Int))=false:=by simp[hlen]
  go_enter Tryz.func122,Tryz.ntmps122
  go_wp2
  clear hn
  have HL:=Lib.hid hlen
  clear hlen
  go_loopw [5,13] (fun _ i wr=>∃(k:Nat),i= .int .i64 k/\k<=l.length/\Hid (l.take k=m.take k)/\Q w wr) (fun _ i _=>l.length-(intOf i).toNat)
  case atStart=>exact⟨0,rfl,Nat.zero_le _,Lib.hid rfl,Q.refl _⟩
  case round=>
   obtain⟨k,rfl,hk,hto,hq⟩:=hrel
   obtain⟨w1,x,rfl,hq1⟩:=Wd.enter hq
   by_cases hlt:k<l.length
   ·have hlt2:k<m.length:=by rw[<-HL.out];exact hlt
    obtain⟨b,o,rfl,hb,hcell⟩:=(hS.q hq1) (by omega)
    obtain⟨b2,o2,rfl,hb2,hcell2⟩:=(hT.q hq1) (by omega)
    have c1:∀y:Wd w1,y.w.cell? ⟨b,o+k,none⟩=some (.string l[k]):=fun y=>(y.cell hb).trans (hcell k hlt)
    have c2:∀y:Wd w1,y.w.cell? ⟨b2,o2+k,none⟩=some (.string m[k]):=fun y=>(y.cell hb2).trans (hcell2 k hlt2)
    have hk0:(0:Int)<=(k:Int):=by omega
    have hk1:(k:Int)<(l.length:Int):=by omega
    have hk2:(k:Int)<(m.length:Int):=by omega
    have HST:=Lib.hid (adu l m k hlt hlt2 hto.out)
    have Um:=Lib.hid (adv l m k hlt hlt2)
    clear hcell hcell2 hto
    generalize l[k]=u at*
    generalize m[k]=v at*
    by_cases huv:u=v
    ·subst huv
     go_wp2
     refine kJ x (by kernel_rfl) (by kernel_rfl) ?_
     repeat(go_big_quiet_step (fail))
     refine wpQuiet_nil ?_
     rintro w'' ⟨y,rfl⟩
     go_wp2
     exact⟨⟨k+1,by go_num,by omega,Lib.hid (HST.out trivial),Q.trans hq1 y.q⟩,by simp only[intOf];omega⟩
    ·have hne:(u.toList==v.toList)=false:=by
      rw[beq_eq_false_iff_ne]
      exact OO huv
     have hne2:(u.toList !=v.toList)=true:=by rw[bne,hne];rfl
     have HU:=Lib.hid huv
     clear huv
     go_wp2
     refine kJ x (by kernel_rfl) (by kernel_rfl) ?_
     repeat(go_big_quiet_step (fail))
     refine wpQuiet_nil ?_
     rintro w'' ⟨y,rfl⟩
     go_wp2
     go_ret
     exact⟨by rw[show decide (l=m)=false from decide_eq_false (Um.out HU.out)];rfl,Q.trans hq1 y.q⟩
   ·have hks:k=l.length:=by omega
    have HF:Hid (decide (l=m)=true):=Lib.hid (by
     have:=hto.out
     rw[hks,List.take_length,HL.out,List.take_length]at this
     exact decide_eq_true this)
    have hlt3:¬k<m.length:=by rw[<-HL.out];exact hlt
    clear hks
    go_wp2
    go_ret
    exact⟨by rw[HF.out];rfl,Q.trans hq1 x.q⟩
 ·have hn:((l.length:Int) !=(m.length:Int))=true:=by simp;omega
  have HF:Hid (decide (l=m)=false):=Lib.hid (decide_eq_false fun e=>hlen (by rw[e]))
  clear hlen
  go_enter Tryz.func122,Tryz.ntmps122
  go_wp2
  go_ret
  exact⟨by rw[HF.out];rfl,Q.refl _⟩
open Go.Op Go.Instr in
theorem adw(a b a' b':Int)(x y z x' y' z':ByteArray)(w:World):(binOp .neq 115 (.agg #[.int .i64 a, .int .i64 b, .string x, .string y, .string z]) (.agg #[.int .i64 a', .int .i64 b', .string x', .string y', .string z'])).run Tryz.prog w= .ok (.bool (!(decide (a=a')&&(decide (b=b')&&(decide (x=x')&&(decide (y=y')&&decide (z=z'))))))) w:=by
 have u3:=Tryz.underlying9
 have a3:=Tryz.isAgg9
 have z3:=Tryz.sizeOf9
 have u4:=Tryz.underlying3
 have a4:=Tryz.isAgg3
 have z4:=Tryz.sizeOf3
 have a5:=Tryz.isAgg32
 have z5:=Tryz.sizeOf32
 have hS:Tryz.prog.underlying 115=some (.struct (Tryz.prog.fieldsOf 115)):=by kernel_rfl
 have hp:Tryz.prog.stoodInHeld 115=false:=by kernel_rfl
 rw[run_neq_struct,show(10000:Nat)=9999+1 from rfl,run_equalIn_agg w 9999 115 _ _ hS hp]
 simp only[Program.fieldsOf,Tryz.underlying115]
 go_simp
 simp only[Jr]
 by_cases h1:a=a'<;>by_cases h2:b=b'<;>by_cases h3:x=x'<;>by_cases h4:y=y'<;>by_cases h5:z=z'<;>simp[h1,h2,h3,h4,h5]
theorem adx(op:BinOp)(a b:Operand)(xs ys:Array Value)(w:World):(eqGuard op 115 a b (.agg xs) (.agg ys)).run Tryz.prog w= .ok () w:=run_eqGuard_agg w op _ _ _ _ _ (by kernel_rfl)
open Go.Op Go.Instr in
theorem anQ{u v:bQ}(h:u.kH=v.kH):∀w:World,(binOp .neq 115 (.agg #[.int .i64 u.to, .int .i64 u.lV, .string u.n, .string u.d, .string u.t]) (.agg #[.int .i64 v.to, .int .i64 v.lV, .string v.n, .string v.d, .string v.t])).run Tryz.prog w= .ok (.bool false) w:=by
 intro w
 rw[adw]
 simp only[bQ.kH,Prod.mk.injEq]at h
 obtain⟨h1,h2,h3,h4,h5⟩:=h
 simp[h1,h2,h3,h4,h5]
open Go.Op Go.Instr in
theorem anR{u v:bQ}(h:¬u.kH=v.kH):∀w:World,(binOp .neq 115 (.agg #[.int .i64 u.to, .int .i64 u.lV, .string u.n, .string u.d, .string u.t]) (.agg #[.int .i64 v.to, .int .i64 v.lV, .string v.n, .string v.d, .string v.t])).run Tryz.prog w= .ok (.bool true) w:=by
 intro w
 rw[adw]
 simp only[bQ.kH,Prod.mk.injEq]at h
 by_cases h1:u.to=v.to<;>by_cases h2:u.lV=v.lV<;>by_cases h3:u.n=v.n<;>by_cases h4:u.d=v.d<;>by_cases h5:u.t=v.t<;>simp_all
theorem anS(A B:Option Addr)(c d:Nat)(l m:List bQ)(w:World)(hS:tX w A l)(hT:tX w B m)(hl:l.length<=9223372036854775807)(hm:m.length<=9223372036854775807):
 Calls Tryz.prog 234 #[.slice A l.length c, .slice B m.length d] w fun e w'=>e= .returned (.bool (decide (l.map bQ.kH=m.map bQ.kH)))/\Q w w':=by
 by_cases hlen:l.length=m.length
 ·have hn:((l.length:Int) !=(m.length:Int))=false:=by simp[hlen]
  go_enter Tryz.func234,Tryz.ntmps234
  go_wp2
  clear hn
  have HL:=Lib.hid hlen
  clear hlen
  go_loopw [5,13] (fun _ i wr=>∃(k:Nat),i= .int .i64 k/\k<=l.length/\Hid ((l.map bQ.kH).take k=(m.map bQ.kH).take k)/\Q w wr) (fun _ i _=>l.length-(intOf i).toNat)
  case atStart=>exact⟨0,rfl,Nat.zero_le _,Lib.hid rfl,Q.refl _⟩
  case round=>
   obtain⟨k,rfl,hk,hto,hq⟩:=hrel
   obtain⟨w1,x,rfl,hq1⟩:=Wd.enter hq
   by_cases hlt:k<l.length
   ·have hlt2:k<m.length:=by rw[<-HL.out];exact hlt
    obtain⟨b,o,rfl,hb,hcell⟩:=(hS.q hq1) (by omega)
    obtain⟨b2,o2,rfl,hb2,hcell2⟩:=(hT.q hq1) (by omega)
    have c0:=Wd.get (w0:=w1) hb (hcell k hlt) 0 rfl
    have c1:=Wd.get (w0:=w1) hb (hcell k hlt) 1 rfl
    have c2:=Wd.get (w0:=w1) hb (hcell k hlt) 2 rfl
    have c3:=Wd.get (w0:=w1) hb (hcell k hlt) 3 rfl
    have c4:=Wd.get (w0:=w1) hb (hcell k hlt) 4 rfl
    have d0:=Wd.get (w0:=w1) hb2 (hcell2 k hlt2) 0 rfl
    have d1:=Wd.get (w0:=w1) hb2 (hcell2 k hlt2) 1 rfl
    have d2:=Wd.get (w0:=w1) hb2 (hcell2 k hlt2) 2 rfl
    have d3:=Wd.get (w0:=w1) hb2 (hcell2 k hlt2) 3 rfl
    have d4:=Wd.get (w0:=w1) hb2 (hcell2 k hlt2) 4 rfl
    simp only[Nat.add_zero]at c0 d0
    have hk0:(0:Int)<=(k:Int):=by omega
    have hk1:(k:Int)<(l.length:Int):=by omega
    have hk2:(k:Int)<(m.length:Int):=by omega
    have HST:=Lib.hid (adu (l.map bQ.kH) (m.map bQ.kH) k (by simpa using hlt) (by simpa using hlt2) hto.out)
    simp only[List.getElem_map]at HST
    have Um:=Lib.hid (adv (l.map bQ.kH) (m.map bQ.kH) k (by simpa using hlt) (by simpa using hlt2))
    simp only[List.getElem_map]at Um
    clear hcell hcell2 hto
    generalize l[k]=u at*
    generalize m[k]=v at*
    by_cases huv:u.kH=v.kH
    ·have hcmp:=anQ huv
     have hcg:=adx
     have HU:=Lib.hid huv
     clear huv
     go_wp2
     refine kJ x (by kernel_rfl) (by kernel_rfl) ?_
     repeat(go_big_quiet_step (fail))
     refine wpQuiet_nil ?_
     rintro w'' ⟨y,rfl⟩
     go_wp2
     exact⟨⟨k+1,by go_num,by omega,Lib.hid (HST.out HU.out),Q.trans hq1 y.q⟩,by simp only[intOf];omega⟩
    ·have hcmp:=anR huv
     have hcg:=adx
     have HU:=Lib.hid huv
     clear huv
     go_wp2
     refine kJ x (by kernel_rfl) (by kernel_rfl) ?_
     repeat(go_big_quiet_step (fail))
     refine wpQuiet_nil ?_
     rintro w'' ⟨y,rfl⟩
     go_wp2
     go_ret
     exact⟨by rw[show decide (l.map bQ.kH=m.map bQ.kH)=false from decide_eq_false (Um.out HU.out)];rfl,Q.trans hq1 y.q⟩
   ·have hks:k=l.length:=by omega
    have HF:Hid (decide (l.map bQ.kH=m.map bQ.kH)=true):=Lib.hid (by
     have:=hto.out
     rw[List.take_of_length_le (by rw[List.length_map];omega),List.take_of_length_le (by rw[List.length_map];have:=HL.out;omega)]at this
     exact decide_eq_true this)
    have hlt3:¬k<m.length:=by rw[<-HL.out];exact hlt
    clear hks
    go_wp2
    go_ret
    exact⟨by rw[HF.out];rfl,Q.trans hq1 x.q⟩
 ·have hn:((l.length:Int) !=(m.length:Int))=true:=by simp;omega
  have HF:Hid (decide (l.map bQ.kH=m.map bQ.kH)=false):=Lib.hid (decide_eq_false fun e=>hlen (by have:=congrArg List.length e;rwa[List.length_map,List.length_map]at this))
  clear hlen
  go_enter Tryz.func234,Tryz.ntmps234
  go_wp2
  go_ret
  exact⟨by rw[HF.out];rfl,Q.refl _⟩
open Go.Op Go.Instr in
theorem ady(a b a' b':Int)(w:World):(binOp .eql 35 (.agg #[.int .i64 a, .int .i64 b]) (.agg #[.int .i64 a', .int .i64 b'])).run Tryz.prog w= .ok (.bool (decide (a=a')&&decide (b=b'))) w:=by
 have u4:=Tryz.underlying3
 have a4:=Tryz.isAgg3
 have z4:=Tryz.sizeOf3
 have hS:Tryz.prog.underlying 35=some (.struct (Tryz.prog.fieldsOf 35)):=by kernel_rfl
 have hp:Tryz.prog.stoodInHeld 35=false:=by kernel_rfl
 rw[run_eql_struct,show(10000:Nat)=9999+1 from rfl,run_equalIn_agg w 9999 35 _ _ hS hp]
 simp only[Program.fieldsOf,Tryz.underlying35]
 go_simp
 by_cases h1:a=a'<;>by_cases h2:b=b'<;>simp[h1,h2]
theorem jm.two(w:World)(a b:ak)(t:TypeId):∃(w1:World) (x:Wd w1),(w.alloc (.cells (au a) t)).alloc (.cells (au b) t)=x.w/\Q w w1/\jm w1 w.heap.size a/\jm w1 (w.heap.size+1) b:=by
 have h1:=jm.new w a t
 have h2:=jm.new (w.alloc (.cells (au a) t)) b t
 have hq:=aO (w.alloc (.cells (au a) t)) (au b) t
 refine⟨(w.alloc (.cells (au a) t)).alloc (.cells (au b) t),⟨_,Q.refl _⟩,rfl,Q.trans (aO w _ t) hq,⟨Nat.lt_of_lt_of_le h1.lt hq.size,yP h1.range hq h1.lt⟩,?_⟩
 rw[show w.heap.size+1=(w.alloc (.cells (au a) t)).heap.size by simp]
 exact h2
theorem anT(a b:ak)(w:World)(hI:bU w a)(hJ:bU w b):Calls Tryz.prog 229 #[.agg (au a), .agg (au b)] w fun e w'=>e= .returned (.bool (a.same b))/\Q w w':=by
 obtain⟨w1,x,hx,hq1,hA,hB⟩:=jm.two w a b 37
 have c0:=hA.get 0 rfl
 have d0:=hB.get 0 rfl
 have c1:=hA.get 1 rfl
 have d1:=hB.get 1 rfl
 have c2:=hA.get 2 rfl
 have d2:=hB.get 2 rfl
 have c3:=hA.get 3 rfl
 have d3:=hB.get 3 rfl
 have c4:=hA.get 4 rfl
 have d4:=hB.get 4 rfl
 have c5:=hA.get 5 rfl
 have d5:=hB.get 5 rfl
 have c6:=hA.get 6 rfl
 have d6:=hB.get 6 rfl
 have c7:=hA.get 7 rfl
 have d7:=hB.get 7 rfl
 have c8:=hA.get 8 rfl
 have d8:=hB.get 8 rfl
 have c9:=hA.get 9 rfl
 have d9:=hB.get 9 rfl
 have c10:=hA.get 10 rfl
 have d10:=hB.get 10 rfl
 have c11:=hA.get 11 rfl
 have d11:=hB.get 11 rfl
 have c12:=hA.get 12 rfl
 have d12:=hB.get 12 rfl
 have c13:=hA.get 13 rfl
 have d13:=hB.get 13 rfl
 have c14:=hA.get 14 rfl
 have d14:=hB.get 14 rfl
 have c15:=hA.get 15 rfl
 have Ol:=hB.get 15 rfl
 have c16:=hA.get 16 rfl
 have d16:=hB.get 16 rfl
 have c17:=hA.get 17 rfl
 have d17:=hB.get 17 rfl
 have c18:=hA.get 18 rfl
 have d18:=hB.get 18 rfl
 have c19:=hA.get 19 rfl
 have d19:=hB.get 19 rfl
 have anZ:=ac6
 have XW:=ady
 have hS:∀y:Wd w1,Strs y.w a.toA a.to:=fun y=>(hI.q (Q.trans hq1 y.q)).to
 have hT:∀y:Wd w1,Strs y.w b.toA b.to:=fun y=>(hJ.q (Q.trans hq1 y.q)).to
 have hU:∀y:Wd w1,tX y.w a.gy a.wraps:=fun y=>(hI.q (Q.trans hq1 y.q)).wraps
 have hV:∀y:Wd w1,tX y.w b.gy b.wraps:=fun y=>(hJ.q (Q.trans hq1 y.q)).wraps
 have l1:=hI.Bl
 have l2:=hJ.Bl
 have l3:=hI.TV
 have l4:=hJ.TV
 clear hA hB
 go_enter Tryz.func229,Tryz.ntmps229
 go_wp2_with (first|(go_at_call 122;refine(XV _ _ _ _ _ _ _ (hS _) (hT _) l1 l2).mono ?_;rintro e w' ⟨rfl,hq2⟩;obtain⟨y,rfl⟩:=Wd.next _ hq2;clear hq2)|(go_at_call 234;refine(anS _ _ _ _ _ _ _ (hU _) (hV _) l3 l4).mono ?_;rintro e w' ⟨rfl,hq2⟩;obtain⟨y,rfl⟩:=Wd.next _ hq2;clear hq2))
 all_goals
  go_ret
  refine⟨?_,Q.trans hq1 (Wd.q _)⟩
  clear c0 d0 c1 d1 c2 d2 c3 d3 c4 d4 c5 d5 c6 d6 c7 d7 c8 d8 c9 d9 c10 d10 c11 d11 c12 d12 c13 d13 c14 d14 c15 Ol c16 d16 c17 d17 c18 d18 c19 d19 hx anZ XW hS hT hU hV
  simp only[Jr]at*
  simp[ak.same,conj, *]
 all_goals exact fun e1 e2 e3=>absurd ⟨e1,e2,e3⟩ ‹¬(a.bn=b.bn/\a.bd=b.bd/\a.bt=b.bt)›
theorem adz(w:World)(t:TypeId)(cs ds:List Value):∃(w1:World) (x:Wd w1),(w.alloc (.cells cs.toArray t)).alloc (.cells ds.toArray t)=x.w/\Q w w1/\(w.heap.size<w1.heap.size/\w1.rangeAt w.heap.size 0 cs)/\w.heap.size+1<w1.heap.size/\w1.rangeAt (w.heap.size+1) 0 ds:=by
 have h1:=ah.new w t cs.toArray
 have h2:=ah.new (w.alloc (.cells cs.toArray t)) t ds.toArray
 have hq:=aO (w.alloc (.cells cs.toArray t)) ds.toArray t
 have hs:w.heap.size+1=(w.alloc (.cells cs.toArray t)).heap.size:=by simp
 refine⟨(w.alloc (.cells cs.toArray t)).alloc (.cells ds.toArray t),⟨_,Q.refl _⟩,rfl,Q.trans (aO w _ t) hq,⟨(h1.q hq).lt,ah.range (h1.q hq)⟩,?_,?_⟩
 ·rw[hs];exact h2.lt
 ·rw[hs];exact ah.range h2
theorem an0(a b:oU)(w:World)(hI:ET w a)(hJ:ET w b):Calls Tryz.prog 230 #[.agg (OQ a), .agg (OQ b)] w fun e w'=>e= .returned (.bool (a.same b))/\Q w w':=by
 obtain⟨w1,x,hx,hq1,⟨hA1,hA2⟩,hB1,hB2⟩:=adz w 148 a.cells b.cells
 have hx:(w.alloc (.cells (OQ a) 148)).alloc (.cells (OQ b) 148)=x.w:=hx
 have c0:=Wd.at0 hA1 hA2 0 rfl
 have d0:=Wd.at0 hB1 hB2 0 rfl
 have c1:=Wd.at0 hA1 hA2 1 rfl
 have d1:=Wd.at0 hB1 hB2 1 rfl
 have c2:=Wd.at0 hA1 hA2 2 rfl
 have d2:=Wd.at0 hB1 hB2 2 rfl
 have c3:=Wd.at0 hA1 hA2 3 rfl
 have d3:=Wd.at0 hB1 hB2 3 rfl
 have c4:=Wd.at0 hA1 hA2 4 rfl
 have d4:=Wd.at0 hB1 hB2 4 rfl
 have c5:=Wd.at0 hA1 hA2 5 rfl
 have d5:=Wd.at0 hB1 hB2 5 rfl
 have c6:=Wd.at0 hA1 hA2 6 rfl
 have d6:=Wd.at0 hB1 hB2 6 rfl
 have c7:=Wd.at0 hA1 hA2 7 rfl
 have d7:=Wd.at0 hB1 hB2 7 rfl
 have c8:=Wd.at0 hA1 hA2 8 rfl
 have d8:=Wd.at0 hB1 hB2 8 rfl
 have c9:=Wd.at0 hA1 hA2 9 rfl
 have d9:=Wd.at0 hB1 hB2 9 rfl
 have c10:=Wd.at0 hA1 hA2 10 rfl
 have d10:=Wd.at0 hB1 hB2 10 rfl
 have c11:=Wd.at0 hA1 hA2 11 rfl
 have d11:=Wd.at0 hB1 hB2 11 rfl
 have XW:=ady
 have hS:∀y:Wd w1,Strs y.w a.toA a.to:=fun y=>(hI.q (Q.trans hq1 y.q)).to
 have hT:∀y:Wd w1,Strs y.w b.toA b.to:=fun y=>(hJ.q (Q.trans hq1 y.q)).to
 have l1:=hI.Bl
 have l2:=hJ.Bl
 clear hA1 hA2 hB1 hB2
 go_enter Tryz.func230,Tryz.ntmps230
 go_wp2_with (go_at_call 122;refine(XV _ _ _ _ _ _ _ (hS _) (hT _) l1 l2).mono ?_;rintro e w' ⟨rfl,hq2⟩;obtain⟨y,rfl⟩:=Wd.next _ hq2;clear hq2)
 all_goals
  go_ret
  refine⟨?_,Q.trans hq1 (Wd.q _)⟩
  clear c0 d0 c1 d1 c2 d2 c3 d3 c4 d4 c5 d5 c6 d6 c7 d7 c8 d8 c9 d9 c10 d10 c11 d11 hx XW hS hT
  simp only[Jr]at*
  simp[oU.same,conj, *]
theorem an1(a b:Int):(a==b)=decide (a=b):=by
 by_cases h:a=b<;>simp[h]
open Go.Op Go.Instr in
theorem an2(c d:xM)(w:World):(binOp .eql 144 (.agg (TW c)) (.agg (TW d))).run Tryz.prog w= .ok (.bool (c.same d)) w:=by
 have u3:=Tryz.underlying9
 have a3:=Tryz.isAgg9
 have z3:=Tryz.sizeOf9
 have u4:=Tryz.underlying3
 have a4:=Tryz.isAgg3
 have z4:=Tryz.sizeOf3
 have a5:=Tryz.isAgg35
 have z5:=Tryz.sizeOf35
 have hS:Tryz.prog.underlying 144=some (.struct (Tryz.prog.fieldsOf 144)):=by kernel_rfl
 have hp:Tryz.prog.stoodInHeld 144=false:=by kernel_rfl
 rw[run_eql_struct,show(10000:Nat)=9999+1 from rfl,run_equalIn_agg w 9999 144 _ _ hS hp]
 simp only[Program.fieldsOf,Tryz.underlying144,TW,xM.cells]
 go_simp
 simp only[Jr]
 repeat' split
 all_goals simp[xM.same,conj, *]
open Go.Op Go.Instr in
theorem an3(c d:wO)(w:World):(binOp .eql 146 (.agg (TY c)) (.agg (TY d))).run Tryz.prog w= .ok (.bool (c.same d)) w:=by
 have u3:=Tryz.underlying9
 have a3:=Tryz.isAgg9
 have z3:=Tryz.sizeOf9
 have u4:=Tryz.underlying3
 have a4:=Tryz.isAgg3
 have z4:=Tryz.sizeOf3
 have a5:=Tryz.isAgg35
 have z5:=Tryz.sizeOf35
 have hS:Tryz.prog.underlying 146=some (.struct (Tryz.prog.fieldsOf 146)):=by kernel_rfl
 have hp:Tryz.prog.stoodInHeld 146=false:=by kernel_rfl
 rw[run_eql_struct,show(10000:Nat)=9999+1 from rfl,run_equalIn_agg w 9999 146 _ _ hS hp]
 simp only[Program.fieldsOf,Tryz.underlying146,TY,wO.cells]
 go_simp
 simp only[Jr]
 repeat' split
 all_goals simp[wO.same,conj, *]
theorem an4(a b:dO)(w:World)(hI:mQ w a)(hJ:mQ w b):Calls Tryz.prog 212 #[.agg (jT a), .agg (jT b)] w fun e w'=>e= .returned (.bool (a.same b))/\Q w w':=by
 obtain⟨w1,x,hx,hq1,⟨hA1,hA2⟩,hB1,hB2⟩:=adz w 150 a.cells b.cells
 have hx:(w.alloc (.cells (jT a) 150)).alloc (.cells (jT b) 150)=x.w:=hx
 have c0:=Wd.at0 hA1 hA2 0 rfl
 have d0:=Wd.at0 hB1 hB2 0 rfl
 have an5:=Uj hA1 hA2
 have an6:=Uj hB1 hB2
 have an7:=adp hA1 hA2
 have an8:=adp hB1 hB2
 have an9:=adq hA1 hA2
 have aoa:=adq hB1 hB2
 have aob:=adr hA1 hA2
 have aoc:=adr hB1 hB2
 have hI':∀y:Wd w1,mQ y.w a:=fun y=>hI.q (Q.trans hq1 y.q)
 have hJ':∀y:Wd w1,mQ y.w b:=fun y=>hJ.q (Q.trans hq1 y.q)
 have hc:=an2
 have hd:=an3
 clear hA1 hA2 hB1 hB2
 rcases ano (a.kind==b.kind) (a.act.same b.act) (a.claim.same b.claim) (a.pO.same b.pO) (a.dec.same b.dec)with g1|⟨g1,g2⟩|⟨g1,g2,g3⟩|⟨g1,g2,g3,g4⟩|⟨g1,g2,g3,g4,g5⟩|⟨g1,g2,g3,g4,g5⟩
 all_goals
  have HR:=Lib.hid (show a.same b=conj [(a.kind==b.kind),a.act.same b.act,a.claim.same b.claim,a.pO.same b.pO,a.dec.same b.dec] by rw[an1];rfl)
  simp[conj, *]at HR
  go_enter Tryz.func212,Tryz.ntmps212
  go_wp2_with (first|(refine aI (.tmp 11) (an5 _) ?_)|(refine aI (.tmp 13) (an6 _) ?_)|(refine aI (.tmp 18) (an7 _) ?_)|(refine aI (.tmp 20) (an8 _) ?_)|(refine aI (.tmp 25) (an9 _) ?_)|(refine aI (.tmp 27) (aoa _) ?_)|(refine aI (.tmp 32) (aob _) ?_)|(refine aI (.tmp 34) (aoc _) ?_)|(go_at_call 229;refine(anT _ _ _ (hI' _).act (hJ' _).act).mono ?_;rintro e w' ⟨rfl,hq2⟩;obtain⟨y,rfl⟩:=Wd.next _ hq2;clear hq2)|(go_at_call 230;refine(an0 _ _ _ (hI' _).dec (hJ' _).dec).mono ?_;rintro e w' ⟨rfl,hq2⟩;obtain⟨y,rfl⟩:=Wd.next _ hq2;clear hq2))
  go_ret
  exact⟨by rw[HR.out];rfl,Q.trans hq1 (Wd.q _)⟩
theorem adA(A:Option Addr)(n c:Nat)(l:List ByteArray)(w:World)(hS:Strs w A l)(hc:l.length<=9223372036854775807)(hn:n=l.length):Calls Tryz.prog 56 #[.slice A n c] w fun e w'=>e= .returned (.bool (kG l))/\Q w w':=hn▸LH A c l w hS hc
theorem adB{p q:Prop}(h:Hid p)(f:p->q):Hid q:=Lib.hid (f h.out)
theorem adC{i:dO}(h:tV i=true)(hk:i.kind=0):bT i.act=true:=by
 unfold tV at h
 rw[if_pos hk,Bool.and_eq_true]at h
 exact h.1
theorem adD{a:ak}(h:bT a=true):(xP a).size<=70000:=by
 unfold xP
 rw[if_pos h,tK,List.length_append,List.length_append]
 have h1:=XT a h
 have h2:=Ad a.e
 have h3:=Ad a.s
 omega
theorem abv(n:Nat):0<(varint n).length:=by
 unfold varint
 generalize (9:Nat)=f
 cases f with
 |zero=>simp[Ba]
 |succ f=>unfold Ba;split<;>simp
theorem XY(w:World):mQ w vS:=⟨⟨fun h=>by simp[vS,aH]at h,fun h=>by simp[vS,aH]at h,⟨Nat.le_refl _,Nat.zero_le _⟩,Nat.le_refl _,Nat.zero_le _⟩,⟨fun h=>by simp[vS,Jk]at h,Nat.le_refl _,Nat.zero_le _⟩⟩
theorem adE(w:World):bU w aH:=(XY w).act
theorem XZ(w:World):ET w Jk:=(XY w).dec
theorem aod:aH.same aH=true:=by decide
def Jy(i:dO):dO:={i with kind:=0,act:=aH}
theorem aoe(i:dO)(h:i.kind=0):(bT i.act&&(Jy i).same vS)=tV i:=by
 unfold tV
 rw[if_pos h]
 simp only[Jy,vS,dO.same,conj,List.foldr,aod,decide_true,Bool.true_and,Bool.and_true]
theorem aof{w:World}{i:dO}(h:mQ w i):mQ w (Jy i):=⟨adE w,h.dec⟩
theorem aog(i:dO):splice (i.cells.set 0 (.int .i64 0)) 1 aH.cells=(Jy i).cells:=rfl
theorem adF(i:dO)(w:World)(hI:mQ w i)(hk:i.kind=0):Calls Tryz.prog 183 #[.agg (jT i)] w fun e w'=>e= .returned (.bool (tV i))/\Q w w':=by
 obtain⟨w1,x,hx,hq1,hbk⟩:=boxedB w 150 i.cells
 have hl:=hbk.lt
 have hr:=ah.range hbk
 have hx:w.alloc (.cells (jT i) 150)=x.w:=hx
 have EZ:∀y:Wd w1,(Instr.loadAt 150 (.pointer (some ⟨w.heap.size,0,none⟩))).run Tryz.prog y.w= .ok (.agg (jT i)) y.w:=Wd.load hl hr Tryz.underlying150 rfl (by kernel_rfl)
 have hHR:=Lib.hid (aoe i hk)
 have hHK:=Lib.hid hk
 have hsx:w.heap.size<x.w.heap.size:=Nat.lt_of_lt_of_le hl x.q.size
 clear hk
 go_enter Tryz.func183,Tryz.ntmps183
 go_wp2_with (first|(refine aI (.tmp 1) (EZ _) ?_)|(refine fM (ah.new x.w 150 vS.cells.toArray) rfl 150 (.tmp 4) (.tmp 5) i.cells rfl rfl rfl (by kernel_rfl) (ads i) (Nat.le_refl 49) ?_))
 intro W hW hbel
 rw[bC _ _ (by rfl)]at hW
 have aJ:Q w1 W:=hbel _ _ x.q.size (Q.trans x.q (aO _ _ _))
 have hb2:=hW.Dq 0 (.int .i64 0)
 have z0:W.cell? ⟨x.w.heap.size,0,none⟩=some (.int .i64 i.kind):=hW.cell 0
 have z1:=hW.frozen 0
 have hq2:Q w1 (W.setCell ⟨x.w.heap.size,0,none⟩ (.int .i64 0)):=Below.setCell aJ (Nat.le_trans x.q.size (Nat.le_refl _)) _
 generalize hW2:W.setCell ⟨x.w.heap.size,0,none⟩ (.int .i64 0)=W2 at*
 have hb2:ah W2 x.w.heap.size 150 (i.cells.set 0 (.int .i64 0)).toArray:=by simpa using hb2
 have hIW:mQ W2 i:=(hI.q hq1).q hq2
 have hI':∀y:Wd W2,mQ y.w i:=fun y=>hIW.q y.q
 have hQW:=Lib.hid (Q.trans hq1 hq2)
 have c0:∀y:Wd W2,y.w.cell? ⟨w.heap.size,0,none⟩=some (.int .i64 0):=by
  rw[<-hHK.out]
  exact Wd.at0 (Nat.lt_of_lt_of_le hl hq2.size) (yP hr hq2 hl) 0 rfl
 have hA:=Uj (Nat.lt_of_lt_of_le hl hq2.size) (yP hr hq2 hl)
 obtain⟨y2,hy2⟩:=Wd.first W2
 rw[hy2]at hW2
 have hbk2:∀y:Wd W2,ah y.w x.w.heap.size 150 (i.cells.set 0 (.int .i64 0)).toArray:=fun y=>hb2.q y.q
 have aoj:=Lib.hid hq2
 have HQ1:=Lib.hid hq1
 clear hx EZ hy2 hW hbel aJ hq1 hbk hr hq2 hb2
 go_wp2_with (first|(refine aI (.tmp 11) (hA _) ?_)|(go_at_call 66;refine(EY _ _ (hI' _).act).mono ?_;rintro e w' ⟨rfl,hq3⟩;obtain⟨y3,rfl⟩:=Wd.next _ hq3;clear hq3)|(refine fM (hbk2 _) rfl 37 (.tmp 15) (.tmp 14) aH.cells rfl rfl rfl (by kernel_rfl) (dL aH) (by simp[dO.cells,ak.cells,xM.cells,wO.cells,oU.cells]) ?_))
 intro W3 hW3 kQ
 rw[aog]at hW3
 have hq3:Q w1 W3:=kQ _ _ x.q.size (Q.trans aoj.out y3.q)
 have hR:=dX (P:=Tryz.prog) (jT (Jy i)) hW3 Tryz.underlying150
 have hIR:∀y:Wd W3,mQ y.w (Jy i):=fun y=>aof ((hI.q HQ1.out).q (Q.trans hq3 y.q))
 have E8:=Lib.hid (Q.trans HQ1.out hq3)
 obtain⟨z3,hz3⟩:=Wd.first W3
 rw[hz3]
 clear hW3 kQ hq3 hz3 hbk2 hA c0 hI' hIW
 cases hr:bT i.act
 all_goals
  have HR2:=Lib.hid hr
  clear hr
  go_wp2_with (first|(refine aI (.tmp 4) (hR _) ?_)|(go_at_call 212;refine(an4 (Jy i) vS _ (hIR _) (XY _)).mono ?_;rintro e w' ⟨rfl,hq5⟩;obtain⟨z,rfl⟩:=Wd.next _ hq5;clear hq5))
  go_ret
  exact⟨by rw[<-hHR.out,HR2.out];rfl,Q.trans E8.out (Wd.q _)⟩
def Ints(w:World)(A:Option Addr)(l:List Int):Prop:=0<l.length->∃b o,A=some ⟨b,o,none⟩/\b<w.heap.size/\∀j (h:j<l.length),w.cell? ⟨b,o+j,none⟩=some (.int .i64 l[j])
theorem Ints.q{w w':World}{A:Option Addr}{l:List Int}(h:Ints w A l)(hq:Q w w'):Ints w' A l:=fun h0=>by
 obtain⟨b,o,e,hb,hc⟩:=h h0
 exact⟨b,o,e,Nat.lt_of_lt_of_le hb hq.size,fun j hj=>(hq.cell (p:=⟨b,o+j,none⟩) hb).trans (hc j hj)⟩
theorem yQ{w:World}{A:Option Addr}{l:List Int}(h:dS w A 1 (fun n:Int=>[.int .i64 n]) l):Ints w A l:=fun h0=>by
 obtain⟨b,o,e,hb,hc⟩:=h h0
 exact⟨b,o,e,hb,fun j hj=>by have:=hc j hj 0 _ rfl;simpa using this⟩
end Item
end Go.Proofs.YtbemmjnjoabadaaGreatDoor
