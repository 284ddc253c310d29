/- part 10 -/
import Derived.Test.YtbemmjnjoabadaaGreatDoorK09
set_option linter.unusedVariables false
set_option linter.unusedSimpArgs false
set_option maxHeartbeats 8000000
set_option maxRecDepth 100000
namespace Go.Proofs.YtbemmjnjoabadaaGreatDoor
namespace Item
open Go.RowKit aQ Mem _root_.Go.Proofs.YtbemmjnjoabadaaGreatDoor.Code aY Sign
def xR(k:Nat):FuncId:=
 match k with
 |0=>168
 |1=>164
 |2=>162
 |3=>162
 |4=>163
 |5=>163
 |6=>163
 |7=>165
 |8=>165
 |9=>165
 |10=>165
 |11=>165
 |12=>166
 |13=>163
 |14=>162
 |15=>171
 |16=>172
 |17=>173
 |18=>170
 |19=>174
 |20=>163
 |21=>166
 |22=>175
 |23=>176
 |_=>0
theorem XJ(a:ak)(w:World)(hI:bU w a):∀k,k<24->Calls Tryz.prog (xR k) #[.agg (au a)] w fun e w'=>e= .returned (.bool (kP k a))/\Q w w':=by
 intro k hk
 match k,hk with
 |0,_=>exact anj a w
 |1,_=>exact adf a w hI
 |2,_=>exact XH a w hI
 |3,_=>exact XH a w hI
 |4,_=>exact EX a w
 |5,_=>exact EX a w
 |6,_=>exact EX a w
 |7,_=>exact Js a w
 |8,_=>exact Js a w
 |9,_=>exact Js a w
 |10,_=>exact Js a w
 |11,_=>exact Js a w
 |12,_=>exact adg a w
 |13,_=>exact EX a w
 |14,_=>exact XH a w hI
 |15,_=>exact ank a w hI
 |16,_=>exact Jt a w hI
 |17,_=>exact ani a w
 |18,_=>exact ac8 a w
 |19,_=>exact XG a w hI
 |20,_=>exact EX a w
 |21,_=>exact adg a w
 |22,_=>exact anl a w
 |23,_=>exact anm a w
 |k+24,hk=>exact absurd hk (by omega)
theorem ant:∀k,k<24->assoc (kI (k:Nat)) DL=some (lX (nP k) (xR k)):=by
 intro k hk
 match k,hk with
 |0,_=>rfl
 |1,_=>rfl
 |2,_=>rfl
 |3,_=>rfl
 |4,_=>rfl
 |5,_=>rfl
 |6,_=>rfl
 |7,_=>rfl
 |8,_=>rfl
 |9,_=>rfl
 |10,_=>rfl
 |11,_=>rfl
 |12,_=>rfl
 |13,_=>rfl
 |14,_=>rfl
 |15,_=>rfl
 |16,_=>rfl
 |17,_=>rfl
 |18,_=>rfl
 |19,_=>rfl
 |20,_=>rfl
 |21,_=>rfl
 |22,_=>rfl
 |23,_=>rfl
 |k+24,hk=>exact absurd hk (by omega)
theorem nC{P:Program}{f:FuncId}{fn:Func}{c:Code}(hf:P.funcs[f]?=some fn)(hname:(fn.name== "runtime.NumGoroutine")=false)(hb:fn.body=some c)(args:Array Value)(w:World):(callFunc f args).run P w= .ok (.enter f args) w:=by
 have h1:fn.name≠ "runtime.NumGoroutine" :=by simpa using hname
 simp[callFunc,hf,h1,hb]
theorem XK:∀k,k<24->∀(args:Array Value) (w:World),(callFunc (xR k) args).run Tryz.prog w= .ok (.enter (xR k) args) w:=by
 intro k hk args w
 match k,hk with
 |0,_=>exact nC (fn:=Tryz.f168) Tryz.func168 (by kernel_rfl) rfl args w
 |1,_=>exact nC (fn:=Tryz.f164) Tryz.func164 (by kernel_rfl) rfl args w
 |2,_=>exact nC (fn:=Tryz.f162) Tryz.func162 (by kernel_rfl) rfl args w
 |3,_=>exact nC (fn:=Tryz.f162) Tryz.func162 (by kernel_rfl) rfl args w
 |4,_=>exact nC (fn:=Tryz.f163) Tryz.func163 (by kernel_rfl) rfl args w
 |5,_=>exact nC (fn:=Tryz.f163) Tryz.func163 (by kernel_rfl) rfl args w
 |6,_=>exact nC (fn:=Tryz.f163) Tryz.func163 (by kernel_rfl) rfl args w
 |7,_=>exact nC (fn:=Tryz.f165) Tryz.func165 (by kernel_rfl) rfl args w
 |8,_=>exact nC (fn:=Tryz.f165) Tryz.func165 (by kernel_rfl) rfl args w
 |9,_=>exact nC (fn:=Tryz.f165) Tryz.func165 (by kernel_rfl) rfl args w
 |10,_=>exact nC (fn:=Tryz.f165) Tryz.func165 (by kernel_rfl) rfl args w
 |11,_=>exact nC (fn:=Tryz.f165) Tryz.func165 (by kernel_rfl) rfl args w
 |12,_=>exact nC (fn:=Tryz.f166) Tryz.func166 (by kernel_rfl) rfl args w
 |13,_=>exact nC (fn:=Tryz.f163) Tryz.func163 (by kernel_rfl) rfl args w
 |14,_=>exact nC (fn:=Tryz.f162) Tryz.func162 (by kernel_rfl) rfl args w
 |15,_=>exact nC (fn:=Tryz.f171) Tryz.func171 (by kernel_rfl) rfl args w
 |16,_=>exact nC (fn:=Tryz.f172) Tryz.func172 (by kernel_rfl) rfl args w
 |17,_=>exact nC (fn:=Tryz.f173) Tryz.func173 (by kernel_rfl) rfl args w
 |18,_=>exact nC (fn:=Tryz.f170) Tryz.func170 (by kernel_rfl) rfl args w
 |19,_=>exact nC (fn:=Tryz.f174) Tryz.func174 (by kernel_rfl) rfl args w
 |20,_=>exact nC (fn:=Tryz.f163) Tryz.func163 (by kernel_rfl) rfl args w
 |21,_=>exact nC (fn:=Tryz.f166) Tryz.func166 (by kernel_rfl) rfl args w
 |22,_=>exact nC (fn:=Tryz.f175) Tryz.func175 (by kernel_rfl) rfl args w
 |23,_=>exact nC (fn:=Tryz.f176) Tryz.func176 (by kernel_rfl) rfl args w
 |k+24,hk=>exact absurd hk (by omega)
theorem anu(n:Int)(h:n<0∨24<=n):assoc (kI n) DL=none:=by
 unfold assoc
 rw[Option.map_eq_none_iff,List.find?_eq_none]
 intro p hp
 simp only[DL,List.mem_cons,List.not_mem_nil,or_false]at hp
 rcases hp with rfl|rfl|rfl|rfl|rfl|rfl|rfl|rfl|rfl|rfl|rfl|rfl|rfl|rfl|rfl|rfl|rfl|rfl|rfl|rfl|rfl|rfl|rfl|rfl
 all_goals
  simp[Mem.yL]
  omega
theorem anv:∀w,(zeroValue 175).run Tryz.prog w= .ok (.agg #[.int .i64 0, .nilFunc]) w:=fun w=>by kernel_rfl
def looked(k:Int):Value:= .tuple (if 0<=k/\k<24 then#[lX (nP k.toNat) (xR k.toNat), .bool true]else#[.agg #[.int .i64 0, .nilFunc], .bool false])
theorem looks{w:World}{b:Nat}(h:nS (.int .i64) w b DL)(k:Int):(Instr.lookup 177 (.map (some b)) (.int .i64 k) true).run Tryz.prog w= .ok (looked k) w:=by
 unfold looked
 by_cases hk:0<=k/\k<24
 ·have ha:=ant k.toNat (by omega)
  rw[show((k.toNat:Nat):Int)=k by omega]at ha
  rw[if_pos hk]
  exact h.lookup (P:=Tryz.prog) Tryz.underlying177 Tryz.underlying3 (.inl ⟨rfl,k,rfl⟩) ha true
 ·rw[if_neg hk]
  exact h.miss (P:=Tryz.prog) Tryz.underlying177 Tryz.underlying3 (.inl ⟨rfl,k,rfl⟩) (anu k (by omega)) anv true
theorem OW(a:ak)(w:World)(h:jO a.author=false∨(jO a.author=true/\yN a=false)∨(jO a.author=true/\yN a=true/\eU a.time 0 1099511627776=false)∨(jO a.author=true/\yN a=true/\eU a.time 0 1099511627776=true/\lW a.e=false)∨
 (jO a.author=true/\yN a=true/\eU a.time 0 1099511627776=true/\lW a.e=true/\lW a.s=false)):
 Calls Tryz.prog 66 #[.agg (au a)] w fun e w'=>e= .returned (.bool false)/\Q w w':=by
 obtain⟨w1,x,hx,hq1,hA⟩:=jm.box w a 37
 have c0:=hA.get 0 rfl
 have c4:=hA.get 4 rfl
 have c18:=hA.get 18 rfl
 have c19:=hA.get 19 rfl
 have hL:=hA.load
 clear hA
 unfold lW at h
 rcases h with g1|⟨g1,g2⟩|⟨g1,g2,g3⟩|⟨g1,g2,g3,g4⟩|⟨g1,g2,g3,g4,g5⟩
 all_goals
  go_enter Tryz.func66,Tryz.ntmps66
  go_wp2_with (first
   |(refine aI (.tmp 1) (hL _) ?_)
   |(go_at_call 101;refine(LD _ _).mono ?_;rintro e w' ⟨rfl,hq2⟩;obtain⟨y,rfl⟩:=Wd.next _ hq2;clear hq2)
   |(go_at_call 111;refine(XF _ _).mono ?_;rintro e w' ⟨rfl,hq2⟩;obtain⟨y,rfl⟩:=Wd.next _ hq2;clear hq2)
   |(go_at_call 112;refine(DK _ _ _ _ _ rfl).mono ?_;rintro e w' ⟨rfl,rfl⟩))
  go_ret
  exact⟨rfl,Q.trans hq1 (Wd.q _)⟩
theorem wV{w0 w:World}(hq:Q w0 w)(o:Obj):Q w0 (w.alloc o):=Below.alloc hq hq.size o
theorem adh{w1:World}{y:Wd w1}{g:Nat}{v:Value}(c:∀x:Wd w1,x.w.cell? ⟨g,3,none⟩=some v){w:World}(h:Q y.w w):w.cell? ⟨g,3,none⟩=some v/\Q y.w w:=⟨c ⟨w,Q.trans y.q h⟩,h⟩
theorem Ub{w0 w:World}(hq:Q w0 w)(u v:Value):Q w0 ((w.setCell ⟨w0.heap.size,0,none⟩ u).setCell ⟨w0.heap.size,1,none⟩ v):=Below.setCell (Below.setCell hq (Nat.le_refl _) _) (Nat.le_refl _) _
theorem XL(a:ak)(hk:0<=a.kind/\a.kind<24)(b:Bool)(hu:(bits .andNot .i64 (wQ a) (nP a.kind.toNat)==0)=b):sF a=(b&&kP a.kind.toNat a):=by
 unfold sF
 have h1:decide (bits .andNot .i64 (wQ a) (nP a.kind.toNat)=0)=b:=by
  rw[<-hu]
  by_cases h:bits .andNot .i64 (wQ a) (nP a.kind.toNat)=0<;>simp[h]
 rw[h1,decide_eq_true hk.1,decide_eq_true hk.2]
 rfl
theorem LP{w w1 W:World}{y:Wd w1}{a:ak}{g gA:Nat}{u v:Value}(hL:∀x:Wd w1,(Instr.loadAt 37 (.pointer (some ⟨gA,0,none⟩))).run Tryz.prog x.w= .ok (.agg (au a)) x.w)(hI:bU w a)(hq1:Q w w1)(hQ:Q y.w W)(hb:ah W g 175 #[u,v]):
 (∀z:Wd W,(Instr.loadAt 37 (.pointer (some ⟨gA,0,none⟩))).run Tryz.prog z.w= .ok (.agg (au a)) z.w)/\(∀z:Wd W,z.w.cell? ⟨g,0,none⟩=some u)/\(∀z:Wd W,z.w.cell? ⟨g,1,none⟩=some v)/\(∀z:Wd W,bU z.w a)/\∀z:Wd W,Q w z.w:=
 ⟨fun z=>hL ⟨z.w,Q.trans y.q (Q.trans hQ z.q)⟩,fun z=>(z.blk hb).cell 0,fun z=>(z.blk hb).cell 1,fun z=>hI.q (Q.trans hq1 (Q.trans y.q (Q.trans hQ z.q))),fun z=>Q.trans hq1 (Q.trans y.q (Q.trans hQ z.q))⟩
theorem anw(a:ak)(w:World)(hI:bU w a)(g1:jO a.author=true)(g2:yN a=true)(g3:eU a.time 0 1099511627776=true)(g4:lW a.e=true)(g5:lW a.s=true)(hk:0<=a.kind/\a.kind<24):
 Calls Tryz.prog 66 #[.agg (au a)] w fun e w'=>e= .returned (.bool (sF a))/\Q w w':=by
 obtain⟨w1,x,hx,hq1,hA⟩:=jm.box w a 37
 have c0:=hA.get 0 rfl
 have c3:=hA.get 3 rfl
 have c4:=hA.get 4 rfl
 have c18:=hA.get 18 rfl
 have c19:=hA.get 19 rfl
 have hL:=hA.load
 unfold lW at g4 g5
 go_enter Tryz.func66,Tryz.ntmps66
 go_wp2_with (first
  |(refine aI (.tmp 1) (hL _) ?_)
  |(go_at_call 101;refine(LD _ _).mono ?_;rintro e w' ⟨rfl,hq2⟩;obtain⟨y,rfl⟩:=Wd.next _ hq2;clear hq2)
  |(go_at_call 111;refine(XF _ _).mono ?_;rintro e w' ⟨rfl,hq2⟩;obtain⟨y,rfl⟩:=Wd.next _ hq2;clear hq2)
  |(go_at_call 112;refine(DK _ _ _ _ _ rfl).mono ?_;rintro e w' ⟨rfl,rfl⟩))
 have hkd:looked a.kind= .tuple #[.agg #[.int .i64 (nP a.kind.toNat), .func (.func (xR a.kind.toNat)) #[] #[]], .bool true]:=by
  unfold looked
  rw[if_pos hk]
 clear c0 c4 c18 c19 hx
 go_region_held3 (fun w'=>w'.cell? ⟨w.heap.size,3,none⟩=some (.int .i64 a.kind)/\Q y.w w')
  ((refine adh c3 ?_;first|exact wW|exact(Q.refl _).drew|exact wV wW _|exact wV (Q.refl _).drew _|exact Ub wW _ _))
  (first
    |(go_at_call 113;refine(Ua (y.w.drew.alloc (.cells #[.int .i64 0, .nilFunc] 175))).mono ?_;rintro e w' ⟨b,rfl,hM,hq3⟩;have wW:=Q.trans (wV (Q.refl y.w).drew _) hq3;have hl1:=looks hM a.kind;rw[hkd]at hl1;have hb3:ah w' y.w.heap.size 175 #[.int .i64 0, .nilFunc]:=(ah.new y.w.drew _ _).q hq3;have k0:=hb3.cell 0;have k1:=hb3.cell 1;have z0:=hb3.frozen 0;have z1:=hb3.frozen 1;simp only[List.getElem?_toArray,List.getElem?_cons_zero,List.getElem?_cons_succ]at k0 k1)
    |(go_at_call 113;refine(Ua y.w.drew).mono ?_;rintro e w' ⟨b,rfl,hM,hq3⟩;have wW:=Q.trans (Q.refl y.w).drew hq3;have hl1:=looks hM a.kind;have hl2:=fun o=>looks (hM.q (wV (Q.refl _) o)) a.kind;rw[hkd]at hl1;simp only[hkd]at hl2))
 all_goals go_wp2
 ·have hF:=LP hL hI hq1 (wV wW (.cells #[.int .i64 (nP a.kind.toNat), .func (.func (xR a.kind.toNat)) #[] #[]] 175)) (ah.new w' 175 #[.int .i64 (nP a.kind.toNat), .func (.func (xR a.kind.toNat)) #[] #[]])
  obtain⟨f1,f2,f3,f4,f5⟩:=hF
  refine kJ (⟨_,Q.refl _⟩:Wd _) (by kernel_rfl) (by kernel_rfl) ?_
  clear hkd hl1 hM c3 hA hL
  have hce:=XK a.kind.toNat (by omega)
  cases hu:(bits .andNot .i64 (wQ a) (nP a.kind.toNat)==0)
  all_goals
   repeat(first|(refine OD 37 (.tmp 1) (.pointer (some ⟨w.heap.size,0,none⟩)) (.agg (au a)) ?_ ?_ ?_ ?_ ?_;rfl;rfl;rfl;exact f1;dsimp only[Act.put];simp only[List.setIfInBounds_toArray,List.set_cons_succ,List.set_cons_zero])|go_big_quiet_step (first|exact Wd.call _ (XI _ _)|exact Wd.call _ (XJ a _ (f4 _) _ (by omega))))
   refine wpQuiet_nil ?_
   rintro w'' ⟨z,rfl⟩
   go_wp2
   go_ret
   exact⟨by rw[XL a hk _ hu];rfl,f5 z⟩
 ·have hF:=LP hL hI hq1 (wV wW (.cells #[.int .i64 (nP a.kind.toNat), .func (.func (xR a.kind.toNat)) #[] #[]] 175)) (ah.new w' 175 #[.int .i64 (nP a.kind.toNat), .func (.func (xR a.kind.toNat)) #[] #[]])
  obtain⟨f1,f2,f3,f4,f5⟩:=hF
  refine kJ (⟨_,Q.refl _⟩:Wd _) (by kernel_rfl) (by kernel_rfl) ?_
  clear hkd hl1 hM c3 hA hL
  have hce:=XK a.kind.toNat (by omega)
  cases hu:(bits .andNot .i64 (wQ a) (nP a.kind.toNat)==0)
  all_goals
   repeat(first|(refine OD 37 (.tmp 1) (.pointer (some ⟨w.heap.size,0,none⟩)) (.agg (au a)) ?_ ?_ ?_ ?_ ?_;rfl;rfl;rfl;exact f1;dsimp only[Act.put];simp only[List.setIfInBounds_toArray,List.set_cons_succ,List.set_cons_zero])|go_big_quiet_step (first|exact Wd.call _ (XI _ _)|exact Wd.call _ (XJ a _ (f4 _) _ (by omega))))
   refine wpQuiet_nil ?_
   rintro w'' ⟨z,rfl⟩
   go_wp2
   go_ret
   exact⟨by rw[XL a hk _ hu];rfl,f5 z⟩
 ·have hF:=LP hL hI hq1 (Ub wW (.int .i64 (nP a.kind.toNat)) (.func (.func (xR a.kind.toNat)) #[] #[])) (show ah ((w'.setCell ⟨y.w.heap.size,0,none⟩ (.int .i64 (nP a.kind.toNat))).setCell ⟨y.w.heap.size,1,none⟩ (.func (.func (xR a.kind.toNat)) #[] #[])) y.w.heap.size 175 #[.int .i64 (nP a.kind.toNat), .func (.func (xR a.kind.toNat)) #[] #[]]from(hb3.Dq 0 _).Dq 1 _)
  clear hb3 k0 k1 z0 z1
  generalize ((w'.setCell ⟨y.w.heap.size,0,none⟩ (.int .i64 (nP a.kind.toNat))).setCell ⟨y.w.heap.size,1,none⟩ (.func (.func (xR a.kind.toNat)) #[] #[]))=W at hF⊢
  obtain⟨f1,f2,f3,f4,f5⟩:=hF
  refine kJ (⟨_,Q.refl _⟩:Wd _) (by kernel_rfl) (by kernel_rfl) ?_
  clear hkd hl1 hM c3 hA hL
  have hce:=XK a.kind.toNat (by omega)
  cases hu:(bits .andNot .i64 (wQ a) (nP a.kind.toNat)==0)
  all_goals
   repeat(first|(refine OD 37 (.tmp 1) (.pointer (some ⟨w.heap.size,0,none⟩)) (.agg (au a)) ?_ ?_ ?_ ?_ ?_;rfl;rfl;rfl;exact f1;dsimp only[Act.put];simp only[List.setIfInBounds_toArray,List.set_cons_succ,List.set_cons_zero])|go_big_quiet_step (first|exact Wd.call _ (XI _ _)|exact Wd.call _ (XJ a _ (f4 _) _ (by omega))))
   refine wpQuiet_nil ?_
   rintro w'' ⟨z,rfl⟩
   go_wp2
   go_ret
   exact⟨by rw[XL a hk _ hu];rfl,f5 z⟩
theorem XM(a:ak)(hk:¬(0<=a.kind/\a.kind<24)):sF a=false:=by
 unfold sF
 by_cases h1:0<=a.kind
 ·have h2:¬a.kind<24:=fun h=>hk ⟨h1,h⟩
  rw[decide_eq_false h2]
  simp
 ·rw[decide_eq_false h1]
  rfl
theorem anx(a:ak)(w:World)(hI:bU w a)(g1:jO a.author=true)(g2:yN a=true)(g3:eU a.time 0 1099511627776=true)(g4:lW a.e=true)(g5:lW a.s=true)(hk:¬(0<=a.kind/\a.kind<24)):
 Calls Tryz.prog 66 #[.agg (au a)] w fun e w'=>e= .returned (.bool (sF a))/\Q w w':=by
 obtain⟨w1,x,hx,hq1,hA⟩:=jm.box w a 37
 have c0:=hA.get 0 rfl
 have c3:=hA.get 3 rfl
 have c4:=hA.get 4 rfl
 have c18:=hA.get 18 rfl
 have c19:=hA.get 19 rfl
 have hL:=hA.load
 unfold lW at g4 g5
 go_enter Tryz.func66,Tryz.ntmps66
 go_wp2_with (first
  |(refine aI (.tmp 1) (hL _) ?_)
  |(go_at_call 101;refine(LD _ _).mono ?_;rintro e w' ⟨rfl,hq2⟩;obtain⟨y,rfl⟩:=Wd.next _ hq2;clear hq2)
  |(go_at_call 111;refine(XF _ _).mono ?_;rintro e w' ⟨rfl,hq2⟩;obtain⟨y,rfl⟩:=Wd.next _ hq2;clear hq2)
  |(go_at_call 112;refine(DK _ _ _ _ _ rfl).mono ?_;rintro e w' ⟨rfl,rfl⟩))
 have hkd:looked a.kind= .tuple #[.agg #[.int .i64 0, .nilFunc], .bool false]:=by
  unfold looked
  rw[if_neg hk]
 clear c0 c4 c18 c19 hx
 go_region_held3 (fun w'=>w'.cell? ⟨w.heap.size,3,none⟩=some (.int .i64 a.kind)/\Q y.w w')
  ((refine adh c3 ?_;first|exact wW|exact(Q.refl _).drew|exact wV wW _|exact wV (Q.refl _).drew _|exact Ub wW _ _))
  (first
    |(go_at_call 113;refine(Ua (y.w.drew.alloc (.cells #[.int .i64 0, .nilFunc] 175))).mono ?_;rintro e w' ⟨b,rfl,hM,hq3⟩;have wW:=Q.trans (wV (Q.refl y.w).drew _) hq3;have hl1:=looks hM a.kind;rw[hkd]at hl1;have hb3:ah w' y.w.heap.size 175 #[.int .i64 0, .nilFunc]:=(ah.new y.w.drew _ _).q hq3;have k0:=hb3.cell 0;have k1:=hb3.cell 1;have z0:=hb3.frozen 0;have z1:=hb3.frozen 1;simp only[List.getElem?_toArray,List.getElem?_cons_zero,List.getElem?_cons_succ]at k0 k1)
    |(go_at_call 113;refine(Ua y.w.drew).mono ?_;rintro e w' ⟨b,rfl,hM,hq3⟩;have wW:=Q.trans (Q.refl y.w).drew hq3;have hl1:=looks hM a.kind;have hl2:=fun o=>looks (hM.q (wV (Q.refl _) o)) a.kind;rw[hkd]at hl1;simp only[hkd]at hl2))
 all_goals go_wp2
 ·have hF:=LP hL hI hq1 (wV wW (.cells #[.int .i64 0, .nilFunc] 175)) (ah.new w' 175 #[.int .i64 0, .nilFunc])
  obtain⟨f1,f2,f3,f4,f5⟩:=hF
  refine kJ (⟨_,Q.refl _⟩:Wd _) (by kernel_rfl) (by kernel_rfl) ?_
  clear hkd hl1 hM c3 hA hL
  all_goals
   repeat(go_big_quiet_step (fail))
   refine wpQuiet_nil ?_
   rintro w'' ⟨z,rfl⟩
   go_wp2
   go_ret
   exact⟨by rw[XM a hk];rfl,f5 z⟩
 ·have hF:=LP hL hI hq1 (wV wW (.cells #[.int .i64 0, .nilFunc] 175)) (ah.new w' 175 #[.int .i64 0, .nilFunc])
  obtain⟨f1,f2,f3,f4,f5⟩:=hF
  refine kJ (⟨_,Q.refl _⟩:Wd _) (by kernel_rfl) (by kernel_rfl) ?_
  clear hkd hl1 hM c3 hA hL
  all_goals
   repeat(go_big_quiet_step (fail))
   refine wpQuiet_nil ?_
   rintro w'' ⟨z,rfl⟩
   go_wp2
   go_ret
   exact⟨by rw[XM a hk];rfl,f5 z⟩
 ·have hF:=LP hL hI hq1 (Ub wW (.int .i64 0) .nilFunc) (show ah ((w'.setCell ⟨y.w.heap.size,0,none⟩ (.int .i64 0)).setCell ⟨y.w.heap.size,1,none⟩ .nilFunc) y.w.heap.size 175 #[.int .i64 0, .nilFunc]from(hb3.Dq 0 _).Dq 1 _)
  clear hb3 k0 k1 z0 z1
  generalize ((w'.setCell ⟨y.w.heap.size,0,none⟩ (.int .i64 0)).setCell ⟨y.w.heap.size,1,none⟩ .nilFunc)=W at hF⊢
  obtain⟨f1,f2,f3,f4,f5⟩:=hF
  refine kJ (⟨_,Q.refl _⟩:Wd _) (by kernel_rfl) (by kernel_rfl) ?_
  clear hkd hl1 hM c3 hA hL
  all_goals
   repeat(go_big_quiet_step (fail))
   refine wpQuiet_nil ?_
   rintro w'' ⟨z,rfl⟩
   go_wp2
   go_ret
   exact⟨by rw[XM a hk];rfl,f5 z⟩
theorem EY(a:ak)(w:World)(hI:bU w a):Calls Tryz.prog 66 #[.agg (au a)] w fun e w'=>e= .returned (.bool (bT a))/\Q w w':=by
 unfold bT
 cases g1:jO a.author
 ·exact OW a w (.inl g1)
 cases g2:yN a
 ·exact OW a w (.inr (.inl ⟨g1,g2⟩))
 cases g3:eU a.time 0 1099511627776
 ·exact OW a w (.inr (.inr (.inl ⟨g1,g2,g3⟩)))
 cases g4:lW a.e
 ·exact OW a w (.inr (.inr (.inr (.inl ⟨g1,g2,g3,g4⟩))))
 cases g5:lW a.s
 ·exact OW a w (.inr (.inr (.inr (.inr ⟨g1,g2,g3,g4,g5⟩))))
 by_cases hk:0<=a.kind/\a.kind<24
 ·exact anw a w hI g1 g2 g3 g4 g5 hk
 ·exact anx a w hI g1 g2 g3 g4 g5 hk
def adi(b0 b1 b2 b3 b4 b5 b6 b7 b8 b9 b10:Bool):Int:=
 dQ (dQ (dQ (dQ (dQ (dQ (dQ (dQ (dQ (dQ (dQ 0 1 b0) 2 b1) 4 b2) 8 b3) 16 b4) 32 b5) 64 b6) 128 b7) 256 b8) 512 b9) 1024 b10
def oI(m:Int)(i:Nat):Bool:=decide (m.toNat/2^i%2=1)
def OX(m:Int)(b0 b1 b2 b3 b4 b5 b6 b7 b8 b9 b10:Bool):Bool:=
 conj [b0||oI m 0,b1||oI m 1,b2||oI m 2,b3||oI m 3,b4||oI m 4,b5||oI m 5,b6||oI m 6,b7||oI m 7,b8||oI m 8,b9||oI m 9,b10||oI m 10]
theorem anz:∀(k:Fin 24) (b0 b1 b2 b3 b4 b5 b6 b7 b8 b9 b10:Bool),decide (bits .andNot .i64 (adi b0 b1 b2 b3 b4 b5 b6 b7 b8 b9 b10) (nP k)=0)=OX (nP k) b0 b1 b2 b3 b4 b5 b6 b7 b8 b9 b10:=by decide+kernel
theorem anA(a:ak):wQ a=adi (fG a.object) (fG a.target) (decide (a.scope=0)) (fG a.group) (decide (a.to.length=0)) (fG a.text) (EP a) (decide (a.epoch=0)) (decide (a.wraps.length=0)) (decide (a.n=0)) (decide (a.m=0)):=rfl
theorem anB(a:ak)(k:Nat)(hk:k<24):decide (bits .andNot .i64 (wQ a) (nP k)=0)=OX (nP k) (fG a.object) (fG a.target) (decide (a.scope=0)) (fG a.group) (decide (a.to.length=0)) (fG a.text) (EP a) (decide (a.epoch=0)) (decide (a.wraps.length=0)) (decide (a.n=0)) (decide (a.m=0)):=by
 rw[anA]
 exact anz ⟨k,hk⟩ _ _ _ _ _ _ _ _ _ _ _
structure anC(a:ak):Prop where
 author:a.author.size<=16
 prev:a.prev.size<=32
 object:a.object.size<=32
 target:a.target.size<=16
 group:a.group.size<=24
 text:a.text.size<=500
 body:a.bn.size<=32/\a.bd.size<=500/\a.bt.size<=16
 to:a.to.length<=64
 ids:∀s∈a.to,s.size<=16
 wraps:a.wraps.length<=64
 each:∀v∈a.wraps,oH v=true
 seq:0<=a.seq/\a.seq<=1073741824
 kind:0<=a.kind/\a.kind<24
 time:0<=a.time/\a.time<=1099511627776
 scope:0<=a.scope/\a.scope<=3
 epoch:0<=a.epoch/\a.epoch<=1073741824
 n:0<=a.n/\a.n<=2305843009213693950
 m:0<=a.m/\a.m<=2305843009213693950
 e:0<=a.e/\a.e<=2305843009213693949
 s:0<=a.s/\a.s<=2305843009213693949
theorem Uc{s:ByteArray}(h:jO s=true):s.size=16:=by
 simp[jO]at h
 exact h.1
theorem Ud{s:ByteArray}(h:nameB s=true):s.size<=24:=by
 simp[nameB]at h
 exact h.1
theorem Ju{l:List ByteArray}(h:kG l=true):l.length<=64/\∀s∈l,s.size<=16:=by
 simp[kG]at h
 exact⟨h.1.1,fun s hs=>by rw[Uc (h.1.2 s hs)];exact Nat.le_refl _⟩
theorem GZ{s:ByteArray}(h:fG s=true):s.size=0:=by simpa[fG]using h
theorem XO{n d t:ByteArray}(h:Bj n d t=true):n.size<=32/\d.size<=500/\t.size<=16:=by
 simp[Bj,tN]at h
 omega
theorem oW{a:ak}(h:EP a=true):a.bn.size<=32/\a.bd.size<=500/\a.bt.size<=16:=by
 simp only[EP,Bool.and_eq_true]at h
 have h1:=GZ h.1
 have h2:=GZ h.2.1
 have h3:=GZ h.2.2
 omega
theorem Ue{n:Int}{s:ByteArray}(h:Dz n s=true):0<=n/\n<=3/\s.size<=24:=by
 unfold Dz at h
 split at h
 ·have:=Ud h
  omega
 ·split at h
  ·have:=GZ h
   omega
  ·cases h
theorem nD{a:ak}(h:ER a=true):(a.to.length<=64/\∀s∈a.to,s.size<=16)/\a.group.size<=24/\(0<=a.epoch/\a.epoch<=1073741824)/\a.text.size<=500/\(a.bn.size<=32/\a.bd.size<=500/\a.bt.size<=16)/\0<=a.scope/\a.scope<=3:=by
 unfold ER at h
 rw[Bool.and_eq_true]at h
 refine⟨Ju h.1,?_⟩
 have h2:=h.2
 split at h2
 ·simp only[Bool.and_eq_true,decide_eq_true_eq]at h2
  obtain⟨h3,h4,h5,h6⟩:=h2
  have:=GZ h3
  have:=oW h6
  simp[tN]at h5
  omega
 ·simp only[Bool.and_eq_true,decide_eq_true_eq]at h2
  obtain⟨-,h3,h4,h5,h6⟩:=h2
  have:=Ue h3
  have:=GZ h5
  have:=XO h6
  simp[eU]at h4
  omega
theorem Uf{a:ak}(h:EO a=true):(∀v∈a.wraps,oH v=true)/\a.wraps.length=a.to.length:=by
 simp[EO]at h
 exact⟨h.1,h.2⟩
theorem iQ{α:Type}{l:List α}(h:l.length=0)(p:α->Prop):∀v∈l,p v:=by
 intro v hv
 rw[List.eq_nil_of_length_eq_zero h]at hv
 cases hv
theorem anD{m:Int}{b0 b1 b2 b3 b4 b5 b6 b7 b8 b9 b10:Bool}(h:OX m b0 b1 b2 b3 b4 b5 b6 b7 b8 b9 b10=true):(oI m 0=false->b0=true)/\(oI m 1=false->b1=true)/\(oI m 2=false->b2=true)/\(oI m 3=false->b3=true)/\(oI m 4=false->b4=true)/\(oI m 5=false->b5=true)/\(oI m 6=false->b6=true)/\(oI m 7=false->b7=true)/\(oI m 8=false->b8=true)/\(oI m 9=false->b9=true)/\(oI m 10=false->b10=true):=by
 simp only[OX,conj,List.foldr,Bool.and_eq_true,Bool.or_eq_true]at h
 obtain⟨h0,h1,h2,h3,h4,h5,h6,h7,h8,h9,h10,-⟩:=h
 refine⟨?_,?_,?_,?_,?_,?_,?_,?_,?_,?_,?_⟩<;>(intro hm;simp_all)
structure anE(a:ak):Prop where
 object:a.object.size<=32
 target:a.target.size<=16
 scope:0<=a.scope/\a.scope<=3
 group:a.group.size<=24
 to:a.to.length<=64/\∀s∈a.to,s.size<=16
 text:a.text.size<=500
 body:a.bn.size<=32/\a.bd.size<=500/\a.bt.size<=16
 epoch:0<=a.epoch/\a.epoch<=1073741824
 wraps:a.wraps.length<=64/\∀v∈a.wraps,oH v=true
 n:0<=a.n/\a.n<=2305843009213693950
 m:0<=a.m/\a.m<=2305843009213693950
theorem Aa{a:ak}(h:pR a=true):a.object.size<=32:=by
 simp[pR,zX]at h
 omega
theorem Jv{a:ak}(h:DF a=true):a.target.size<=16:=by
 have:=Uc h
 omega
theorem XP{s:ByteArray}(h:tN s=true):s.size<=500:=by simpa[tN]using h
theorem OY{n:Int}(h:wP n=true):0<=n/\n<=2305843009213693950:=by
 simp[wP,eU]at h
 omega
theorem Bq{n lo hi:Int}(h:eU n lo hi=true):lo<=n/\n<=hi:=by simpa[eU]using h
theorem none_le{s:ByteArray}(k:Nat)(h:fG s=true):s.size<=k:=by
 have:=GZ h
 omega
theorem zero_le(k:Int)(hk:0<=k){n:Int}(h:decide (n=0)=true):0<=n/\n<=k:=by
 simp at h
 omega
theorem dB{α:Type}{l:List α}(h:decide (l.length=0)=true):l.length=0:=by simpa using h
theorem anF(a:ak):∀k,k<24->OX (nP k) (fG a.object) (fG a.target) (decide (a.scope=0)) (fG a.group) (decide (a.to.length=0)) (fG a.text) (EP a) (decide (a.epoch=0)) (decide (a.wraps.length=0)) (decide (a.n=0)) (decide (a.m=0))=true->kP k a=true->anE a:=by
 intro k hk hm hr
 obtain⟨z0,z1,z2,z3,z4,z5,z6,z7,z8,z9,z10⟩:=anD hm
 clear hm
 match k,hk with
 |0,_=>
  simp only[kP,Jl,Bool.and_eq_true]at hr
  have hh:=hr.2
  exact⟨none_le _ (z0 rfl),none_le _ (z1 rfl),zero_le _ (by decide) (z2 rfl),none_le _ (z3 rfl),⟨by rw[dB (z4 rfl)];decide,iQ (dB (z4 rfl)) _⟩,by have:=Ud hr.1;omega,oW (z6 rfl),zero_le _ (by decide) (z7 rfl),⟨by rw[dB (z8 rfl)];decide,iQ (dB (z8 rfl)) _⟩,OY hh.1,⟨(Bq hh.2).1,by have:=(Bq hh.2).2;omega⟩⟩
 |1,_=>
  simp only[kP]at hr
  exact⟨none_le _ (z0 rfl),none_le _ (z1 rfl),(nD hr).2.2.2.2.2,(nD hr).2.1,(nD hr).1,(nD hr).2.2.2.1,(nD hr).2.2.2.2.1,(nD hr).2.2.1,⟨by rw[dB (z8 rfl)];decide,iQ (dB (z8 rfl)) _⟩,zero_le _ (by decide) (z9 rfl),zero_le _ (by decide) (z10 rfl)⟩
 |2,_=>
  simp only[kP,Bool.and_eq_true]at hr
  exact⟨Aa hr.1,none_le _ (z1 rfl),(nD hr.2).2.2.2.2.2,(nD hr.2).2.1,(nD hr.2).1,(nD hr.2).2.2.2.1,(nD hr.2).2.2.2.2.1,(nD hr.2).2.2.1,⟨by rw[dB (z8 rfl)];decide,iQ (dB (z8 rfl)) _⟩,zero_le _ (by decide) (z9 rfl),zero_le _ (by decide) (z10 rfl)⟩
 |3,_=>
  simp only[kP,Bool.and_eq_true]at hr
  exact⟨Aa hr.1,none_le _ (z1 rfl),(nD hr.2).2.2.2.2.2,(nD hr.2).2.1,(nD hr.2).1,(nD hr.2).2.2.2.1,(nD hr.2).2.2.2.2.1,(nD hr.2).2.2.1,⟨by rw[dB (z8 rfl)];decide,iQ (dB (z8 rfl)) _⟩,zero_le _ (by decide) (z9 rfl),zero_le _ (by decide) (z10 rfl)⟩
 |4,_=>
  simp only[kP]at hr
  exact⟨Aa hr,none_le _ (z1 rfl),zero_le _ (by decide) (z2 rfl),none_le _ (z3 rfl),⟨by rw[dB (z4 rfl)];decide,iQ (dB (z4 rfl)) _⟩,none_le _ (z5 rfl),oW (z6 rfl),zero_le _ (by decide) (z7 rfl),⟨by rw[dB (z8 rfl)];decide,iQ (dB (z8 rfl)) _⟩,zero_le _ (by decide) (z9 rfl),zero_le _ (by decide) (z10 rfl)⟩
 |5,_=>
  simp only[kP]at hr
  exact⟨Aa hr,none_le _ (z1 rfl),zero_le _ (by decide) (z2 rfl),none_le _ (z3 rfl),⟨by rw[dB (z4 rfl)];decide,iQ (dB (z4 rfl)) _⟩,none_le _ (z5 rfl),oW (z6 rfl),zero_le _ (by decide) (z7 rfl),⟨by rw[dB (z8 rfl)];decide,iQ (dB (z8 rfl)) _⟩,zero_le _ (by decide) (z9 rfl),zero_le _ (by decide) (z10 rfl)⟩
 |6,_=>
  simp only[kP]at hr
  exact⟨Aa hr,none_le _ (z1 rfl),zero_le _ (by decide) (z2 rfl),none_le _ (z3 rfl),⟨by rw[dB (z4 rfl)];decide,iQ (dB (z4 rfl)) _⟩,none_le _ (z5 rfl),oW (z6 rfl),zero_le _ (by decide) (z7 rfl),⟨by rw[dB (z8 rfl)];decide,iQ (dB (z8 rfl)) _⟩,zero_le _ (by decide) (z9 rfl),zero_le _ (by decide) (z10 rfl)⟩
 |7,_=>
  simp only[kP]at hr
  exact⟨none_le _ (z0 rfl),Jv hr,zero_le _ (by decide) (z2 rfl),none_le _ (z3 rfl),⟨by rw[dB (z4 rfl)];decide,iQ (dB (z4 rfl)) _⟩,none_le _ (z5 rfl),oW (z6 rfl),zero_le _ (by decide) (z7 rfl),⟨by rw[dB (z8 rfl)];decide,iQ (dB (z8 rfl)) _⟩,zero_le _ (by decide) (z9 rfl),zero_le _ (by decide) (z10 rfl)⟩
 |8,_=>
  simp only[kP]at hr
  exact⟨none_le _ (z0 rfl),Jv hr,zero_le _ (by decide) (z2 rfl),none_le _ (z3 rfl),⟨by rw[dB (z4 rfl)];decide,iQ (dB (z4 rfl)) _⟩,none_le _ (z5 rfl),oW (z6 rfl),zero_le _ (by decide) (z7 rfl),⟨by rw[dB (z8 rfl)];decide,iQ (dB (z8 rfl)) _⟩,zero_le _ (by decide) (z9 rfl),zero_le _ (by decide) (z10 rfl)⟩
 |9,_=>
  simp only[kP]at hr
  exact⟨none_le _ (z0 rfl),Jv hr,zero_le _ (by decide) (z2 rfl),none_le _ (z3 rfl),⟨by rw[dB (z4 rfl)];decide,iQ (dB (z4 rfl)) _⟩,none_le _ (z5 rfl),oW (z6 rfl),zero_le _ (by decide) (z7 rfl),⟨by rw[dB (z8 rfl)];decide,iQ (dB (z8 rfl)) _⟩,zero_le _ (by decide) (z9 rfl),zero_le _ (by decide) (z10 rfl)⟩
 |10,_=>
  simp only[kP]at hr
  exact⟨none_le _ (z0 rfl),Jv hr,zero_le _ (by decide) (z2 rfl),none_le _ (z3 rfl),⟨by rw[dB (z4 rfl)];decide,iQ (dB (z4 rfl)) _⟩,none_le _ (z5 rfl),oW (z6 rfl),zero_le _ (by decide) (z7 rfl),⟨by rw[dB (z8 rfl)];decide,iQ (dB (z8 rfl)) _⟩,zero_le _ (by decide) (z9 rfl),zero_le _ (by decide) (z10 rfl)⟩
 |11,_=>
  simp only[kP]at hr
  exact⟨none_le _ (z0 rfl),Jv hr,zero_le _ (by decide) (z2 rfl),none_le _ (z3 rfl),⟨by rw[dB (z4 rfl)];decide,iQ (dB (z4 rfl)) _⟩,none_le _ (z5 rfl),oW (z6 rfl),zero_le _ (by decide) (z7 rfl),⟨by rw[dB (z8 rfl)];decide,iQ (dB (z8 rfl)) _⟩,zero_le _ (by decide) (z9 rfl),zero_le _ (by decide) (z10 rfl)⟩
 |12,_=>
  simp only[kP,Bool.and_eq_true]at hr
  exact⟨Aa hr.1,none_le _ (z1 rfl),zero_le _ (by decide) (z2 rfl),none_le _ (z3 rfl),⟨by rw[dB (z4 rfl)];decide,iQ (dB (z4 rfl)) _⟩,XP hr.2,oW (z6 rfl),zero_le _ (by decide) (z7 rfl),⟨by rw[dB (z8 rfl)];decide,iQ (dB (z8 rfl)) _⟩,zero_le _ (by decide) (z9 rfl),zero_le _ (by decide) (z10 rfl)⟩
 |13,_=>
  simp only[kP]at hr
  exact⟨Aa hr,none_le _ (z1 rfl),zero_le _ (by decide) (z2 rfl),none_le _ (z3 rfl),⟨by rw[dB (z4 rfl)];decide,iQ (dB (z4 rfl)) _⟩,none_le _ (z5 rfl),oW (z6 rfl),zero_le _ (by decide) (z7 rfl),⟨by rw[dB (z8 rfl)];decide,iQ (dB (z8 rfl)) _⟩,zero_le _ (by decide) (z9 rfl),zero_le _ (by decide) (z10 rfl)⟩
 |14,_=>
  simp only[kP,Bool.and_eq_true]at hr
  exact⟨Aa hr.1,none_le _ (z1 rfl),(nD hr.2).2.2.2.2.2,(nD hr.2).2.1,(nD hr.2).1,(nD hr.2).2.2.2.1,(nD hr.2).2.2.2.2.1,(nD hr.2).2.2.1,⟨by rw[dB (z8 rfl)];decide,iQ (dB (z8 rfl)) _⟩,zero_le _ (by decide) (z9 rfl),zero_le _ (by decide) (z10 rfl)⟩
 |15,_=>
  simp only[kP,Bool.and_eq_true]at hr
  exact⟨none_le _ (z0 rfl),none_le _ (z1 rfl),zero_le _ (by decide) (z2 rfl),Ud hr.1,Ju hr.2,none_le _ (z5 rfl),oW (z6 rfl),zero_le _ (by decide) (z7 rfl),⟨by rw[dB (z8 rfl)];decide,iQ (dB (z8 rfl)) _⟩,zero_le _ (by decide) (z9 rfl),zero_le _ (by decide) (z10 rfl)⟩
 |16,_=>
  simp only[kP,Ls,Bool.and_eq_true]at hr
  obtain⟨r1,r2,r3,r4⟩:=hr
  exact⟨none_le _ (z0 rfl),none_le _ (z1 rfl),⟨(Ue r1).1,(Ue r1).2.1⟩,(Ue r1).2.2,Ju r3,none_le _ (z5 rfl),oW (z6 rfl),Bq r2,⟨by rw[(Uf r4).2];exact(Ju r3).1,(Uf r4).1⟩,zero_le _ (by decide) (z9 rfl),zero_le _ (by decide) (z10 rfl)⟩
 |17,_=>
  simp only[kP,TG,Bool.and_eq_true,Bool.or_eq_true]at hr
  exact⟨by rcases hr.2 with h|h;exact Aa h.1;exact none_le _ h.2,by rcases hr.2 with h|h;exact none_le _ h.2;exact Jv h.1,zero_le _ (by decide) (z2 rfl),none_le _ (z3 rfl),⟨by rw[dB (z4 rfl)];decide,iQ (dB (z4 rfl)) _⟩,by have:=Ud hr.1;omega,oW (z6 rfl),zero_le _ (by decide) (z7 rfl),⟨by rw[dB (z8 rfl)];decide,iQ (dB (z8 rfl)) _⟩,zero_le _ (by decide) (z9 rfl),zero_le _ (by decide) (z10 rfl)⟩
 |18,_=>
  simp only[kP,Jl,Bool.and_eq_true]at hr
  have hh:=hr
  exact⟨none_le _ (z0 rfl),none_le _ (z1 rfl),zero_le _ (by decide) (z2 rfl),none_le _ (z3 rfl),⟨by rw[dB (z4 rfl)];decide,iQ (dB (z4 rfl)) _⟩,none_le _ (z5 rfl),oW (z6 rfl),zero_le _ (by decide) (z7 rfl),⟨by rw[dB (z8 rfl)];decide,iQ (dB (z8 rfl)) _⟩,OY hh.1,⟨(Bq hh.2).1,by have:=(Bq hh.2).2;omega⟩⟩
 |19,_=>
  simp only[kP,TI,Bool.and_eq_true,decide_eq_true_eq]at hr
  obtain⟨r1,r2,r3,r4,r5⟩:=hr
  exact⟨none_le _ (z0 rfl),none_le _ (z1 rfl),zero_le _ (by decide) (z2 rfl),none_le _ (z3 rfl),Ju r2,none_le _ (z5 rfl),oW (z6 rfl),zero_le _ (by decide) (z7 rfl),⟨by rw[(Uf r3).2];exact(Ju r2).1,(Uf r3).1⟩,by have h1:=Bq r4;have h2:=(Ju r2).1;omega,OY r5⟩
 |20,_=>
  simp only[kP]at hr
  exact⟨Aa hr,none_le _ (z1 rfl),zero_le _ (by decide) (z2 rfl),none_le _ (z3 rfl),⟨by rw[dB (z4 rfl)];decide,iQ (dB (z4 rfl)) _⟩,none_le _ (z5 rfl),oW (z6 rfl),zero_le _ (by decide) (z7 rfl),⟨by rw[dB (z8 rfl)];decide,iQ (dB (z8 rfl)) _⟩,zero_le _ (by decide) (z9 rfl),zero_le _ (by decide) (z10 rfl)⟩
 |21,_=>
  simp only[kP,Bool.and_eq_true]at hr
  exact⟨Aa hr.1,none_le _ (z1 rfl),zero_le _ (by decide) (z2 rfl),none_le _ (z3 rfl),⟨by rw[dB (z4 rfl)];decide,iQ (dB (z4 rfl)) _⟩,XP hr.2,oW (z6 rfl),zero_le _ (by decide) (z7 rfl),⟨by rw[dB (z8 rfl)];decide,iQ (dB (z8 rfl)) _⟩,zero_le _ (by decide) (z9 rfl),zero_le _ (by decide) (z10 rfl)⟩
 |22,_=>
  simp only[kP,Bool.and_eq_true]at hr
  exact⟨Aa hr.1,none_le _ (z1 rfl),zero_le _ (by decide) (z2 rfl),none_le _ (z3 rfl),⟨by rw[dB (z4 rfl)];decide,iQ (dB (z4 rfl)) _⟩,none_le _ (z5 rfl),oW (z6 rfl),zero_le _ (by decide) (z7 rfl),⟨by rw[dB (z8 rfl)];decide,iQ (dB (z8 rfl)) _⟩,by have:=Bq hr.2;omega,zero_le _ (by decide) (z10 rfl)⟩
 |23,_=>
  simp only[kP,Bool.and_eq_true]at hr
  exact⟨none_le _ (z0 rfl),Jv hr.1,zero_le _ (by decide) (z2 rfl),none_le _ (z3 rfl),⟨by rw[dB (z4 rfl)];decide,iQ (dB (z4 rfl)) _⟩,XP hr.2.1,oW (z6 rfl),zero_le _ (by decide) (z7 rfl),⟨by rw[dB (z8 rfl)];decide,iQ (dB (z8 rfl)) _⟩,by have:=Bq hr.2.2;omega,zero_le _ (by decide) (z10 rfl)⟩
 |k+24,hk=>exact absurd hk (by omega)
theorem wX{a:ak}(h:bT a=true):anC a:=by
 simp only[bT,sF,Bool.and_eq_true]at h
 obtain⟨h1,h2,h3,h4,h5,hk0,hk1,hm,hr⟩:=h
 simp only[decide_eq_true_eq]at hk0 hk1
 have hmask:=anB a a.kind.toNat (by omega)
 rw[hm]at hmask
 have hs:=anF a a.kind.toNat (by omega) hmask.symm hr
 have hp:a.prev.size<=32/\0<=a.seq/\a.seq<=1073741824:=by
  unfold yN at h2
  split at h2
  ·simp only[Bool.and_eq_true]at h2
   have:=GZ h2.2
   omega
  ·simp only[Bool.and_eq_true,eU,zX,decide_eq_true_eq]at h2
   omega
 have:=Uc h1
 exact⟨by omega,hp.1,hs.object,hs.target,hs.group,hs.text,hs.body,hs.to.1,hs.to.2,hs.wraps.1,hs.wraps.2,hp.2,⟨hk0,hk1⟩,Bq h3,hs.scope,hs.epoch,hs.n,hs.m,Bq h4,Bq h5⟩
end Item
end Go.Proofs.YtbemmjnjoabadaaGreatDoor
