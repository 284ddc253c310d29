/-
  agoralaw24.KnowSound, walked.
-/
import Derived.Test.YtbemmjnjoabadaaGreatDoorXS
import Derived.Test.YtbemmjnjoabadaaGreatDoorK42
import Derived.Test.YtbemmjnjoabadaaGreatDoorK43
set_option linter.unusedVariables false
set_option linter.unusedSimpArgs false
set_option maxHeartbeats 40000000
set_option maxRecDepth 100000
namespace Go.Proofs.YtbemmjnjoabadaaGreatDoor
namespace Rel
open Go.RowKit aQ Mem _root_.Go.Proofs.YtbemmjnjoabadaaGreatDoor.Code aY Sign _root_.Go.Proofs.YtbemmjnjoabadaaGreatDoor.Item _root_.Go.Proofs.YtbemmjnjoabadaaGreatDoor.Known _root_.Go.Proofs.YtbemmjnjoabadaaGreatDoor.bP
theorem aee(ps:List Int)(c:ay)(i:Int)(h:i<0∨(c.acts.length:Int)<=i):jA ps c i=false:=by
 have e:uf c.acts i=none:=by
  unfold uf
  rcases h with h|h
  ·rw[if_pos (decide_eq_true h)]
  ·rw[if_neg (by simp;omega)]
   exact List.getElem?_eq_none (by omega)
 unfold jA
 rw[e]
theorem abk(ps:List Int)(c:ay)(m:Nat)(hm:m<c.acts.length):jA ps c (m:Int)=Bz ps c m c.acts[m]:=by
 unfold jA
 rw[Wi,List.getElem?_eq_getElem hm]
theorem aeg(ps:List Int)(c:ay)(m:Nat)(hm:m<c.acts.length)(h:jA ps c (m:Int)=true):nT c.acts[m].kind=true:=by
 rw[abk ps c m hm]at h
 unfold Bz at h
 exact(Bool.and_eq_true _ _▸h).1
theorem aeh(c:ay)(i:Int)(a:ak):DR [] c i a=false:=by
 unfold DR
 cases c.acts[(bZ c i a.scope a.group).1]? with
 |none=>exact Bool.and_false _
 |some ga=>
  have h1:wY [] c (bZ c i a.scope a.group).1=false:=by
   unfold wY
   cases eP c (bZ c i a.scope a.group).1<;>rfl
  show((bZ c i a.scope a.group).2&&((ga.epoch==a.epoch)&&(wY [] c _||yS [] ga)))=false
  rw[h1,aud]
  simp
theorem reads_nil(c:ay)(m:Nat)(hm:m<c.acts.length):jA [] c (m:Int)=(nT c.acts[m].kind&&(c.acts[m].scope==0)):=by
 rw[abk [] c m hm]
 unfold Bz
 rw[aeh,Bool.or_false]
theorem aep(c:ay)(A:Option Addr)(cx:Nat)(xs:List Int)(i:Int)(w:World)(hT:Tab w)(hI:gX w c)(hX:Ints w A xs)(hx:∀x∈xs,I64 x)(hlm:xs.length<=maxLen)(hz:aeU [c] xs.length=true->Zl c xs):
 Calls Tryz.prog 4 #[.agg (aF c), .slice A xs.length cx, .int .i64 i] w fun e w'=>e= .returned (.bool true)/\Q w w':=by
 have hmx:maxLen=9223372036854775807:=by decide
 obtain⟨w1,y1,hy1,hq1,hbk⟩:=boxedB w 41 c.cells
 have hy1:w.alloc (.cells (aF c) 41)=y1.w:=hy1
 have cZ:=dX (P:=Tryz.prog) (aF c) hbk Tryz.underlying41
 have c1:=aB (.slice c.aA c.acts.length c.aC) hbk 1
 have hSm:=fun y:Wd w1=>ay3 y.w (hT.q (Q.trans hq1 y.q))
 have hbs:∀w:World,(Instr.buildSlice 24 1 #[(0, .agg (aF c))]).run Tryz.prog w= .ok (.slice (some ⟨w.heap.size,0,none⟩) 1 1) (w.alloc (.cells (aF c) 41)):=fun w=>by kernel_rfl
 have Qh:=fun y:Wd w1=>hI.q (Q.trans hq1 y.q)
 have hXy:=fun y:Wd w1=>hX.q (Q.trans hq1 y.q)
 have hFe:∀y:Wd w1,Calls Tryz.prog 14 #[.slice (some ⟨y.w.heap.size,0,none⟩) 1 1, .slice A xs.length cx] (y.w.alloc (.cells (aF c) 41)) fun e w'=>e= .returned (.bool (aeU [c] xs.length))/\Q (y.w.alloc (.cells (aF c) 41)) w':=fun y=>axI (some ⟨y.w.heap.size,0,none⟩) A 1 cx xs.length [c] _ ⟨jW (ah.new y.w 41 (aF c)),fun d hd=>by rw[List.mem_singleton.1 hd];exact(Qh y).q (aO _ _ _)⟩ (show 1<=maxLen by decide) hlm
 have Ky:=fun(hf:aeU [c] xs.length=true) (y:Wd w1)=>UR A cx xs c i y.w (hT.q (Q.trans hq1 y.q)) (Qh y) (hXy y) hx hlm (hz hf)
 have iw:=fun y:Wd w1=>aei c A cx xs i y.w (Qh y) (hXy y) hx hlm
 have hRN:∀y:Wd w1,Calls Tryz.prog 13 #[.agg (aF c), .slice none 0 0, .int .i64 i] y.w fun e w'=>e= .returned (.bool (jA [] c i))/\Q y.w w':=fun y=>aei c none 0 [] i y.w (Qh y) (fun h=>absurd h (by decide)) (fun x hx=>by cases hx) (Nat.zero_le _)
 unfold Ku at Ky
 have hoc:=ax7 c xs i
 have hro:=fun ps=>aee ps c i
 have HQ:=Lib.hid hq1
 obtain⟨nx,hnx⟩:∃nx,xs.length=nx:=⟨_,rfl⟩
 rw[hnx]at hFe iw Ky⊢
 have hgo:∀y:Wd w1,(∀u,Q w u->Q w u):=fun _ _ h=>h
 by_cases hf:aeU [c] nx=false
 ·rw[hf]at hFe
  clear Ky iw hRN hoc hro hz
  go_enter Tryz.func4,Tryz.ntmps4
  go_upto_region 2 with(go_at_call 7;refine(hSm _).mono ?_;rintro e w' ⟨rfl,hq⟩;obtain⟨v1,rfl⟩:=Wd.next _ hq;clear hq)
  go_wp2_with (first|(refine aI (.tmp 3) (cZ _) ?_)|(refine Uk 24 1 _ #[(0, .agg (aF c))] _ rfl rfl (by simp only[List.map_toArray,List.map_cons,List.map_nil];rfl) (hbs _) ?_)|(go_at_call 14;refine(hFe _).mono ?_;rintro e w' ⟨rfl,hq⟩;obtain⟨v2,rfl⟩:=Wd.next v1 (Q.trans (aO _ _ _) hq);clear hq))
  go_ret
  exact⟨rfl,Q.trans HQ.out v2.q⟩
 ·have hf:aeU [c] nx=true:=by simpa using hf
  rw[hf]at hFe
  replace Ky:=Ky (hnx▸hf)
  clear hz
  have hok:jA (iZ xs) c i=false->(oO c xs i).isSome=false:=fun h=>by
   cases ho:(oO c xs i).isSome
   ·rfl
   ·rw[hoc ho]at h
    cases h
  obtain⟨na,hna⟩:∃na,c.acts.length=na:=⟨_,rfl⟩
  by_cases hout:i<0∨(c.acts.length:Int)<=i
  ·have r1:=hro (iZ xs) hout
   have r2:=hro [] hout
   have r3:=hok r1
   rw[r1]at iw
   rw[r2]at hRN
   rw[r3]at Ky
   generalize (oO c xs i).getD bK=dd at Ky
   rw[hna]at hout c1
   clear hoc hok hro r1 r2 r3 hI hX hx
   rcases(show(i<0/\¬0<=i)∨(0<=i/\(na:Int)<=i/\¬i<0/\¬i<(na:Int)) by omega)with⟨h0,h2⟩|⟨h0,h1,h2,h3⟩
   all_goals
    clear hout
    go_enter Tryz.func4,Tryz.ntmps4
    go_upto_region 2 with(go_at_call 7;refine(hSm _).mono ?_;rintro e w' ⟨rfl,hq⟩;obtain⟨v1,rfl⟩:=Wd.next _ hq;clear hq)
    go_upto_region 6 with(first|(refine aI (.tmp 3) (cZ _) ?_)|(refine Uk 24 1 _ #[(0, .agg (aF c))] _ rfl rfl (by simp only[List.map_toArray,List.map_cons,List.map_nil];rfl) (hbs _) ?_)|(go_at_call 14;refine(hFe _).mono ?_;rintro e w' ⟨rfl,hq⟩;obtain⟨v2,rfl⟩:=Wd.next v1 (Q.trans (aO _ _ _) hq);clear hq)|(go_at_call 15;refine(Ky _).mono ?_;rintro e w' ⟨rfl,hq⟩;obtain⟨v3,rfl⟩:=Wd.next _ hq;clear hq)|(go_at_call 13;(first|with_reducible refine(iw _).mono ?_|with_reducible refine(hRN _).mono ?_);rintro e w' ⟨rfl,hq⟩;obtain⟨v4,rfl⟩:=Wd.next _ hq;clear hq))
    go_upto_region 9 with(fail)
    go_wp2_with (first|(refine aI (.tmp 3) (cZ _) ?_)|(go_at_call 13;(first|with_reducible refine(iw _).mono ?_|with_reducible refine(hRN _).mono ?_);rintro e w' ⟨rfl,hq⟩;obtain⟨v4,rfl⟩:=Wd.next _ hq;clear hq))
    go_ret
    exact⟨rfl,Q.trans HQ.out v4.q⟩
  ·obtain⟨m,rfl⟩:∃m:Nat,i=(m:Int):=⟨i.toNat,by omega⟩
   have hmL:m<c.acts.length:=by omega
   have hm:m<na:=by omega
   have htx:=aeg (iZ xs) c m hmL
   have hnil:=reads_nil c m hmL
   obtain⟨b,o,eA,hb,hcs⟩:=hI.acts (by omega)
   have hAt:=hcs m hmL
   have k3:∀y:Wd w1,y.w.cell? ⟨b,o+m*20+3,none⟩=some (.int .i64 c.acts[m].kind):=fun y=>((Q.trans HQ.out y.q).cell (p:=⟨b,o+m*20+3,none⟩) hb).trans (hAt 3 _ rfl)
   have k7:∀y:Wd w1,y.w.cell? ⟨b,o+m*20+7,none⟩=some (.int .i64 c.acts[m].scope):=fun y=>((Q.trans HQ.out y.q).cell (p:=⟨b,o+m*20+7,none⟩) hb).trans (hAt 7 _ rfl)
   have hTx:=fun y:Wd w1=>amX c.acts[m].kind y.w
   rw[hnil]at hRN
   rw[eA,hna]at c1
   clear hoc hro hI hX hx hcs hAt hnil eA
   generalize (oO c xs (m:Int)).getD bK=dd at Ky
   generalize (oO c xs (m:Int)).isSome=ok at*
   generalize jA (iZ xs) c (m:Int)=can at*
   generalize c.acts[m].kind=kd at*
   obtain⟨sc,hsc⟩:∃sc,c.acts[m].scope=sc:=⟨_,rfl⟩
   rw[hsc]at k7 hRN
   generalize nT kd=tx at*
   clear hsc hout
   have hi0:(0:Int)<=(m:Int):=by omega
   have hi1:(m:Int)<(na:Int):=by omega
   have hi2:¬(m:Int)<0:=by omega
   have hi3:¬(na:Int)<=(m:Int):=by omega
   rcases(show(ok=false/\can=false/\tx=false)∨(ok=false/\can=false/\tx=true)∨(ok=false/\can=true/\tx=true)∨(ok=true/\can=true/\tx=true) by
    cases can with
    |false=>
     have h:=hok rfl
     cases tx
     ·exact .inl ⟨h,rfl,rfl⟩
     ·exact .inr (.inl ⟨h,rfl,rfl⟩)
    |true=>
     have h:=htx rfl
     cases ok
     ·exact .inr (.inr (.inl ⟨rfl,rfl,h⟩))
     ·exact .inr (.inr (.inr ⟨rfl,rfl,h⟩)))with⟨rfl,rfl,rfl⟩|⟨rfl,rfl,rfl⟩|⟨rfl,rfl,rfl⟩|⟨rfl,rfl,rfl⟩
   all_goals
    clear hok htx
    cases hs:(sc==0)
    all_goals
     rw[hs]at hRN
     simp only[Bool.and_true,Bool.and_false,Bool.false_and]at hRN
     go_enter Tryz.func4,Tryz.ntmps4
     go_upto_region 2 with(go_at_call 7;refine(hSm _).mono ?_;rintro e w' ⟨rfl,hq⟩;obtain⟨v1,rfl⟩:=Wd.next _ hq;clear hq)
     go_upto_region 6 with(first|(refine aI (.tmp 3) (cZ _) ?_)|(refine Uk 24 1 _ #[(0, .agg (aF c))] _ rfl rfl (by simp only[List.map_toArray,List.map_cons,List.map_nil];rfl) (hbs _) ?_)|(go_at_call 14;refine(hFe _).mono ?_;rintro e w' ⟨rfl,hq⟩;obtain⟨v2,rfl⟩:=Wd.next v1 (Q.trans (aO _ _ _) hq);clear hq)|(go_at_call 15;refine(Ky _).mono ?_;rintro e w' ⟨rfl,hq⟩;obtain⟨v3,rfl⟩:=Wd.next _ hq;clear hq)|(go_at_call 13;(first|with_reducible refine(iw _).mono ?_|with_reducible refine(hRN _).mono ?_);rintro e w' ⟨rfl,hq⟩;obtain⟨v4,rfl⟩:=Wd.next _ hq;clear hq))
     go_upto_region 8 with(first|(go_at_call 16;refine(hTx _).mono ?_;rintro e w' ⟨rfl,hq⟩;obtain⟨v5,rfl⟩:=Wd.next _ hq;clear hq))
     go_upto_region 9 with(first|(go_at_call 16;refine(hTx _).mono ?_;rintro e w' ⟨rfl,hq⟩;obtain⟨v5,rfl⟩:=Wd.next _ hq;clear hq))
     go_wp2_with (first|(refine aI (.tmp 3) (cZ _) ?_)|(go_at_call 13;(first|with_reducible refine(iw _).mono ?_|with_reducible refine(hRN _).mono ?_);rintro e w' ⟨rfl,hq⟩;obtain⟨v4,rfl⟩:=Wd.next _ hq;clear hq))
     go_ret
     exact⟨rfl,Q.trans HQ.out (Wd.q _)⟩
end Rel
end Go.Proofs.YtbemmjnjoabadaaGreatDoor
