/-
  What KnowGrows asks of Reads, Recovers and All. No walk in this text.
-/
import Derived.Test.YtbemmjnjoabadaaGreatDoorXG
import Derived.Test.YtbemmjnjoabadaaGreatDoorK42
import Derived.Test.YtbemmjnjoabadaaGreatDoorK43
import Derived.Test.YtbemmjnjoabadaaGreatDoorSame24
set_option linter.unusedVariables false
set_option linter.unusedSimpArgs false
namespace Go.Proofs.YtbemmjnjoabadaaGreatDoor
namespace Rel
open Go.RowKit aQ Mem _root_.Go.Proofs.YtbemmjnjoabadaaGreatDoor.Code aY Sign _root_.Go.Proofs.YtbemmjnjoabadaaGreatDoor.Item _root_.Go.Proofs.YtbemmjnjoabadaaGreatDoor.Known _root_.Go.Proofs.YtbemmjnjoabadaaGreatDoor.bP
theorem aeg(ps qs:List Int)(d:Int):iR (ps++qs) d=(iR ps d||iR qs d):=List.any_append ..
theorem ai2(xs ys:List Int):iZ (xs++ys)=iZ xs++iZ ys:=by
 unfold iZ
 rw[List.filter_append,List.map_append]
theorem ai4{α:Type}(f g:α->Bool)(l:List α):(l.any fun x=>f x||g x)=(l.any f||l.any g):=by
 induction l with
 |nil=>rfl
 |cons x l ih=>
  rw[List.any_cons,List.any_cons,List.any_cons,ih]
  cases f x<;>cases g x<;>simp
theorem ai6(ps qs:List Int)(a:ak):yS (ps++qs) a=(yS ps a||yS qs a):=by
 unfold yS
 simp only[aeg]
 exact ai4 _ _ _
theorem ajb(ps qs:List Int)(c:ay)(g:Nat):wY (ps++qs) c g=(wY ps c g||wY qs c g):=by
 unfold wY
 cases eP c g with
 |none=>rfl
 |some k=>exact aeg ps qs k.pub
theorem ajC(ps qs:List Int)(c:ay)(i:Int)(a:ak):DR (ps++qs) c i a=(DR ps c i a||DR qs c i a):=by
 unfold DR
 cases c.acts[(bZ c i a.scope a.group).1]? with
 |none=>simp
 |some ga=>
  show((bZ c i a.scope a.group).2&&((ga.epoch==a.epoch)&&(wY (ps++qs) c _||yS (ps++qs) ga)))=(((bZ c i a.scope a.group).2&&((ga.epoch==a.epoch)&&(wY ps c _||yS ps ga)))||((bZ c i a.scope a.group).2&&((ga.epoch==a.epoch)&&(wY qs c _||yS qs ga))))
  rw[ajb,ai6]
  generalize (bZ c i a.scope a.group).2=b1
  generalize (ga.epoch==a.epoch)=b2
  generalize wY ps c _=b3
  generalize wY qs c _=b4
  generalize yS ps ga=b5
  generalize yS qs ga=b6
  revert b1 b2 b3 b4 b5 b6
  decide
theorem ajG(ps qs:List Int)(c:ay)(i:Int):jA (ps++qs) c i=(jA ps c i||jA qs c i):=by
 unfold jA
 cases uf c.acts i with
 |none=>rfl
 |some a=>
  show Bz (ps++qs) c i a=(Bz ps c i a||Bz qs c i a)
  unfold Bz
  rw[ajC]
  generalize nT a.kind=b1
  generalize (a.scope==0)=b2
  generalize DR ps c i a=b3
  generalize DR qs c i a=b4
  revert b1 b2 b3 b4
  decide
theorem ajH(ps qs:List Int)(c:ay)(i:Int)(h:ug ps c i=true):ug (ps++qs) c i=true:=by
 unfold ug at h⊢
 cases ha:uf c.acts i with
 |none=>rw[ha]at h;cases h
 |some a=>
  rw[ha]at h
  dsimp only at h⊢
  rw[Bool.and_eq_true,decide_eq_true_eq]at h⊢
  refine⟨h.1,Int.le_trans h.2 ?_⟩
  have h2:LY ps a<=LY (ps++qs) a:=by
   unfold LY
   refine List.countP_mono_left fun x _ hx=> ?_
   rw[aeg,hx]
   rfl
  omega
theorem ajK(c:ay)(n:Nat):(V9 c n).acts<+:c.acts:=List.take_prefix n c.acts
theorem af5(c:ay)(n:Nat)(h:n<=c.acts.length):(V9 c n).acts.length=n:=by
 show(c.acts.take n).length=n
 rw[List.length_take]
 omega
theorem ajR(ps:List Int)(c:ay)(i n:Nat)(hi:i<n)(hn:n<=c.acts.length)(hs:aaJ c i n=true):jA ps (V9 c n) (i:Int)=jA ps c (i:Int):=by
 have hl:=af5 c n hn
 have hp:=ajK c n
 have hk:∀j,j<=i->aaN (eP c j)=aaN (eP (V9 c n) j):=fun j hj=>by
  have h:=List.all_eq_true.1 hs j (List.mem_range.2 (by omega))
  exact of_decide_eq_true h
 have hf:∀j,j<=i->wY ps (V9 c n) j=wY ps c j:=fun j hj=>by
  have h:=hk j hj
  unfold wY
  unfold aaN at h
  cases h1:eP c j with
  |none=>
   rw[h1]at h
   cases h2:eP (V9 c n) j with
   |none=>rfl
   |some k=>rw[h2]at h;exact absurd (congrArg Prod.snd h) (by simp)
  |some k=>
   rw[h1]at h
   cases h2:eP (V9 c n) j with
   |none=>rw[h2]at h;exact absurd (congrArg Prod.snd h) (by simp)
   |some k2=>
    rw[h2]at h
    have h3:k.pub=k2.pub:=congrArg (fun x=>x.1.2.1) h
    show iR ps k2.pub=iR ps k.pub
    rw[h3]
 have ha:c.acts[i]?=(V9 c n).acts[i]?:=pre_at hp (by omega)
 unfold jA
 rw[Wi,Wi,<-ha]
 cases c.acts[i]? with
 |none=>rfl
 |some a=>
  show Bz ps (V9 c n) i a=Bz ps c i a
  have hg:bZ (V9 c n) i a.scope a.group=bZ c i a.scope a.group:=(ahK hp (by omega) a.scope a.group).symm
  have hgl:(bZ c i a.scope a.group).1<=i:=by
   have h:=(O8 a.scope a.group c.acts (fH c i)).1
   rw[CU c (by omega)]at h
   unfold bZ
   rw[CU c (by omega)]
   exact h
  unfold Bz DR
  rw[hg]
  have hx:c.acts[(bZ c i a.scope a.group).1]?=(V9 c n).acts[(bZ c i a.scope a.group).1]?:=pre_at hp (by omega)
  rw[<-hx]
  cases c.acts[(bZ c i a.scope a.group).1]? with
  |none=>rfl
  |some ga=>
   show(nT a.kind&&((a.scope==0)||((bZ c i a.scope a.group).2&&((ga.epoch==a.epoch)&&(wY ps (V9 c n) _||yS ps ga)))))=_
   rw[hf _ hgl]
theorem af7(ps:List Int)(c:ay)(k:Nat):∀m,k<=m->xI ps c k<+:xI ps c m:=by
 intro m h
 induction m with
 |zero=>
  obtain rfl:k=0:=by omega
  exact List.prefix_refl _
 |succ m ih=>
  by_cases e:k=m+1
  ·subst e
   exact List.prefix_refl _
  ·refine(ih (by omega)).trans ?_
   rw[awk]
   exact List.prefix_append _ _
theorem aj3(ps:List Int)(c:ay)(i m:Nat)(hi:i<m)(hr:jA ps c (i:Int)=true):(xI ps c m)[(xI ps c i).length]?=some ⟨c.id,(i:Int)⟩:=by
 have hp:=af7 ps c (i+1) m (by omega)
 have h2:=awk ps c i
 rw[hr,if_pos rfl]at h2
 obtain⟨t,ht⟩:=hp
 rw[<-ht,h2,List.append_assoc,List.getElem?_append_right (Nat.le_refl _),Nat.sub_self]
 rfl
theorem aj7(ps:List Int)(c:ay)(m:Nat)(x:lT)(h:x∈xI ps c m):∃i:Nat,i<m/\x=⟨c.id,(i:Int)⟩:=by
 unfold xI at h
 obtain⟨i,hi,rfl⟩:=List.mem_map.1 h
 exact⟨i,List.mem_range.1 (List.mem_filter.1 hi).1,rfl⟩
theorem aeh(ps:List Int)(c:ay):∀m,Sl (xI ps c m)
 |0=>List.Pairwise.nil
 |m+1=>by
  rw[awk]
  split
  ·refine List.pairwise_append.2 ⟨aeh ps c m,List.pairwise_singleton ..,fun x hx y hy=> ?_⟩
   obtain⟨i,hi,rfl⟩:=aj7 ps c m x hx
   rw[List.mem_singleton.1 hy]
   have hc:(i:Int)<(m:Int):=by omega
   simp[ltOf,tJ,Bv,LU,Lib.compareInt,DJ,hc]
  ·rw[List.append_nil]
   exact aeh ps c m
theorem agb(ps:List Int)(c:ay):xJ ps [c]=xI ps c c.acts.length:=by
 unfold xJ
 rw[List.flatMap_cons,List.flatMap_nil,List.append_nil]
end Rel
end Go.Proofs.YtbemmjnjoabadaaGreatDoor
