/- part 36 -/
import Derived.Test.YtbemmjnjoabadaaGreatDoorK33
import Derived.Test.YtbemmjnjoabadaaGreatDoorK35
set_option linter.unusedVariables false
set_option linter.unusedSimpArgs false
namespace Go.Proofs.YtbemmjnjoabadaaGreatDoor
namespace Rel
open Go.RowKit aQ Mem _root_.Go.Proofs.YtbemmjnjoabadaaGreatDoor.Code aY Sign _root_.Go.Proofs.YtbemmjnjoabadaaGreatDoor.Item _root_.Go.Proofs.YtbemmjnjoabadaaGreatDoor.Known _root_.Go.Proofs.YtbemmjnjoabadaaGreatDoor.bP
theorem ahY(k:Int×Int)(m:ByteArray)(hk:iP k=true):lW (yM k m).1=true/\lW (yM k m).2=true:=by
 have h:∀x:Int,lW (x%2305843009213693950)=true:=fun x=>by
  unfold lW eU
  rw[Bool.and_eq_true]
  exact⟨decide_eq_true (by omega),decide_eq_true (by omega)⟩
 unfold yM
 rw[if_pos hk]
 exact⟨h _,h _⟩
theorem VZ(a:ak):bT a=true↔jO a.author=true/\yN a=true/\eU a.time 0 1099511627776=true/\lW a.e=true/\lW a.s=true/\sF a=true:=by
 unfold bT
 simp only[Bool.and_eq_true]
theorem Ir(a:ak)(h:bT a=true):bT (iV a)=true:=by
 rw[VZ]at h⊢
 exact⟨h.1,h.2.1,h.2.2.1,rfl,rfl,h.2.2.2.2.2⟩
theorem NU(k:Int×Int)(a:ak)(hk:iP k=true)(h:bT (iV a)=true):bT (gQ k a)=true:=by
 rw[VZ]at h⊢
 exact⟨h.1,h.2.1,h.2.2.1,(ahY k _ hk).1,(ahY k _ hk).2,h.2.2.2.2.2⟩
theorem Iu(k:Int×Int)(a:ak)(hk:iP k=true)(h:bT (iV a)=true):gU k a=gQ k a:=by
 unfold gU
 rw[h,hk]
 rfl
theorem atp(k:Int×Int)(a:ak)(hr:bT (gU k a)=true):gU k a=gQ k a:=by
 unfold gU at hr⊢
 split at hr
 ·rename_i h
  rw[if_pos h]
 ·exact absurd hr (by decide+kernel)
theorem ahZ(a:ak)(h:bT a=true):(bY a).size=32:=by
 have e:tV (vU a)=true:=by
  unfold tV vU
  simp only[if_true,h,Bool.true_and]
  decide+kernel
 unfold bY wS
 rw[if_pos e]
 exact yJ _
structure Own(i:Nat)(c:ay):Prop where
 bare:aN c=c
 id:c.id=dn i
 keys:c.keys=[⟨0,(aG i).2,0⟩]
 pos:0<c.acts.length
 prev:c.prev.size=32
 right:∀a∈c.acts,bT a=true
 tgt:∀a∈c.acts,a.kind=8->jL a.target
 ah0:∀a∈c.acts,a.kind=15->∀d∈a.to,jL d
 gr:∀a∈c.acts,a.kind=16->(∀d∈a.to,jL d)/\a.wraps=jr (jY (aG i).1 a.scope a.group a.epoch) (dZ a.to) (dZ a.to).length
theorem Own.acts{i:Nat}{c:ay}(h:Own i c):c.acts.map aP=c.acts:=by
 have:=congrArg ay.acts h.bare
 exact this
theorem Own.ED{i:Nat}{c:ay}(h:Own i c)(a:ak):(dK c a).acts=c.acts++[aP a]:=by
 show c.acts.map aP++[aP a]=_
 rw[h.acts]
theorem Own.long{i:Nat}{c:ay}(h:Own i c)(a:ak)(hr:bT a=true)(h8:a.kind=8->jL a.target)(h15:a.kind=15->∀d∈a.to,jL d)
 (h16:a.kind=16->(∀d∈a.to,jL d)/\a.wraps=jr (jY (aG i).1 a.scope a.group a.epoch) (dZ a.to) (dZ a.to).length):Own i (dK c a):=by
 have hm:∀x∈(dK c a).acts,x∈c.acts∨x=aP a:=fun x hx=>by
  rw[h.ED]at hx
  rcases List.mem_append.1 hx with hx|hx
  ·exact .inl hx
  ·exact .inr (List.mem_singleton.1 hx)
 constructor
 ·show aN (dK c a)=dK c a
  unfold aN dK aN
  simp only[List.map_append,List.map_map,List.map_cons,List.map_nil]
  congr 1
 ·exact h.id
 ·exact h.keys
 ·rw[h.ED,List.length_append]
  simp
 ·exact ahZ a hr
 ·intro x hx
  rcases hm x hx with hx|rfl
  ·exact h.right x hx
  ·exact(ZM a).trans hr
 ·intro x hx
  rcases hm x hx with hx|rfl
  ·exact h.tgt x hx
  ·exact h8
 ·intro x hx
  rcases hm x hx with hx|rfl
  ·exact h.ah0 x hx
  ·exact h15
 ·intro x hx
  rcases hm x hx with hx|rfl
  ·exact h.gr x hx
  ·exact h16
theorem Own.pre{i:Nat}{c:ay}(h:Own i c)(a:ak):c.acts<+:(dK c a).acts:=by
 rw[h.ED]
 exact List.prefix_append _ _
theorem atq(u:ak)(s:jV)(d:ByteArray)(h:d∈(DU u s).a):d∈s.a:=by
 unfold DU at h
 repeat' split at h
 all_goals first|exact h|exact((Ph _ _ _).1 h).1
theorem atr(c:ay)(i:Nat)(o:ByteArray)(s:jV)(d:ByteArray)(h:d∈(xX c i o s).a):d∈s.a:=by
 unfold xX at h
 repeat' split at h
 all_goals first|exact h|exact atq _ _ _ h
theorem att(c:ay)(i:Nat)(x:ak)(s:jV)(hx:x.kind=8->jL x.target)(hs:∀d∈s.a,jL d)(d:ByteArray)(h:d∈(lZ c i x s).a):jL d:=by
 unfold lZ at h
 split at h
 ·exact hs d h
 split at h
 ·rename_i h8
  rcases List.mem_append.1 h with h|h
  ·exact hs d h
  ·rw[List.mem_singleton.1 h]
   exact hx (eq_of_beq h8)
 split at h
 ·exact hs d ((Ph _ _ _).1 h).1
 split at h
 ·exact hs d ((Ph _ _ _).1 h).1
 split at h
 ·exact hs d h
 split at h
 ·exact hs d (atr _ _ _ _ _ h)
 ·exact hs d h
theorem Own.acc{i:Nat}{c:ay}(h:Own i c):∀j,∀d∈(gV c j).a,jL d
 |0,d,hd=>by cases hd
 |j+1,d,hd=>by
  rw[gV]at hd
  split at hd
  ·rename_i x hx
   exact att c j x _ (h.tgt x (List.mem_of_getElem? hx)) (h.acc j) d hd
  ·exact h.acc j d hd
theorem Own.aaf{i:Nat}{c:ay}(h:Own i c)(g:ByteArray):∀j,∀d∈l7 g c.acts j,jL d
 |0,d,hd=>by cases hd
 |j+1,d,hd=>by
  rw[l7]at hd
  split at hd
  ·rename_i x hx
   split at hd
   ·rename_i hc
    unfold UJ at hc
    rw[Bool.and_eq_true]at hc
    exact h.ah0 x (List.mem_of_getElem? hx) (eq_of_beq hc.1) d hd
   ·exact h.aaf g j d hd
  ·exact h.aaf g j d hd
theorem Own.members{i:Nat}{c:ay}(h:Own i c)(n s:Int)(g:ByteArray)(to:List ByteArray)(hto:∀d∈to,jL d):∀d∈iM c n s g to,jL d:=by
 intro d hd
 unfold iM at hd
 rw[X5]at hd
 have hd:=(List.mem_filter.1 hd).1
 unfold yX at hd
 split at hd
 ·exact h.acc _ d ((X5 _ _).1 hd)
 split at hd
 ·exact h.aaf g _ d hd
 split at hd
 ·exact hto d hd
 ·cases hd
theorem atu(l:List ByteArray)(id d:ByteArray):d∈jw l id↔d=id∨d∈l:=by
 unfold jw
 rw[List.mem_append,List.mem_cons]
 constructor
 ·rintro(h|h|h)
  ·exact .inr (List.mem_of_mem_take h)
  ·exact .inl h
  ·exact .inr (List.mem_of_mem_drop h)
 ·rintro(h|h)
  ·exact .inr (.inl h)
  ·rw[<-List.take_append_drop (xC l id l.length) l]at h
   rcases List.mem_append.1 h with h|h
   ·exact .inl h
   ·exact .inr (.inr h)
theorem aag(mask:Int):∀k,k<=4->∀d∈sW mask k,jL d
 |0,_,d,hd=>by cases hd
 |k+1,hk,d,hd=>by
  rw[sW]at hd
  split at hd
  ·exact aag mask k (by omega) d hd
  ·rcases(atu _ _ _).1 hd with rfl|hd
   ·exact⟨k,by omega,rfl⟩
   ·exact aag mask k (by omega) d hd
theorem aah(mask:Int):∀d∈lK mask,jL d:=aag mask 4 (Nat.le_refl 4)
theorem ah1(x:iG):∀d∈(gW x).to,jL d:=by
 intro d hd
 have h:(gW x).to=if x.scope%4==3 then lK x.mask else[]:=rfl
 rw[h]at hd
 split at hd
 ·exact aah _ d hd
 ·cases hd
theorem ah2:∀(n:Nat) (ks:List Nat),ks.Nodup->(∀k∈ks,k<n)->ks.length<=n
 |0,[],_,_=>Nat.le_refl 0
 |0,k::ks,_,h=>absurd (h k (List.mem_cons_self ..)) (by omega)
 |n+1,ks,hn,h=>by
  have h2:=ah2 n (ks.erase n) (hn.erase n) fun k hk=>by
   have h3:=hn.mem_erase_iff.1 hk
   have h4:=h k h3.2
   have h5:=h3.1
   omega
  by_cases hm:n∈ks
  ·rw[List.length_erase_of_mem hm]at h2
   omega
  ·rw[List.erase_of_not_mem hm]at h2
   omega
theorem atv{ks:List Nat}(h:(ks.map dn).Nodup):ks.Nodup:=by
 refine List.Pairwise.imp ?_ (List.pairwise_map.1 h)
 intro a b hab e
 exact hab (by rw[e])
theorem atw{l:List ByteArray}(h:Asc l):l.Nodup:=by
 refine List.Pairwise.imp (fun{a b} hab=> ?_) h
 intro e
 subst e
 rw[DJ]at hab
 cases hab
theorem adA(L:List ByteArray)(h:∀d∈L,jL d)(ha:Asc L):L.length<=4:=by
 obtain⟨ks,h1,h2,_⟩:=VW L h
 have hn:=atw ha
 rw[h2]at hn⊢
 rw[List.length_map]
 refine ah2 4 ks ?_ h1
 exact atv hn
theorem atx(c:ay)(n s:Int)(g:ByteArray)(to:List ByteArray):Asc (iM c n s g to):=adQ _
theorem Own.aty{i:Nat}{c:ay}(h:Own i c)(n s:Int)(g:ByteArray)(to:List ByteArray)(hto:∀d∈to,jL d):(iM c n s g to).length<=4:=adA _ (h.members n s g to hto) (atx ..)
theorem rY{a b:ByteArray}(h:a.toList=b.toList):a=b:=by
 rw[ByteArray.toList_eq,ByteArray.toList_eq]at h
 exact ByteArray.ext (Array.toList_inj.1 h)
theorem aai(s:Int)(g:ByteArray)(l:List ak):∀j,0<(gG s g l j).2->∃a,l[(gG s g l j).1]?=some a/\a.kind=16/\a.scope=s/\a.group=g
 |0,h=>absurd h (by simp[gG])
 |j+1,h=>by
  rw[gG]at h⊢
  cases hj:l[j]? with
  |none=>
   rw[hj]at h
   exact aai s g l j h
  |some a=>
   rw[hj]at h
   dsimp only at h⊢
   unfold Af at h⊢
   by_cases hg:Fb s g (gG s g l j).2 a=true
   ·rw[if_pos hg]
    unfold Fb at hg
    simp only[Bool.and_eq_true]at hg
    exact⟨a,hj,eq_of_beq hg.1,eq_of_beq hg.2.1,rY (eq_of_beq hg.2.2.1)⟩
   ·rw[if_neg hg]at h⊢
    exact aai s g l j h
theorem aaj(c:ay)(n s:Int)(g:ByteArray)(h:(bZ c n s g).2=true):∃a,c.acts[(bZ c n s g).1]?=some a/\a.kind=16/\a.scope=s/\a.group=g:=
 aai s g c.acts _ (of_decide_eq_true h)
def AQ(i:Nat)(c:ay)(m:Nat)(t:ByteArray):Prop:=∃a,c.acts[m]?=some a/\nT a.kind=true/\(0<=a.scope/\a.scope<=3)/\(a.scope=0->a.text=t)/\
 (a.scope≠0->(bZ c m a.scope a.group).2=true/\∃ga,c.acts[(bZ c m a.scope a.group).1]?=some ga/\ga.epoch=a.epoch/\ga.to=iM c m a.scope a.group a.to/\
   ∃bF,sV a=bV.sK (jY (aG i).1 a.scope a.group a.epoch) bF t)
theorem AQ.pre{i:Nat}{c d:ay}{m:Nat}{t:ByteArray}(h:AQ i c m t)(hp:c.acts<+:d.acts)(hid:d.id=c.id):AQ i d m t:=by
 obtain⟨a,h1,h2,h3,h4,h5⟩:=h
 have hm:m<c.acts.length:=(List.getElem?_eq_some_iff.1 h1).1
 refine⟨a,(pre_at hp hm).trans h1,h2,h3,h4,fun hs=> ?_⟩
 obtain⟨h6,ga,h7,h8,h9,h10⟩:=h5 hs
 rw[ahK hp (by omega),ZR hp hid (by omega)]
 refine⟨h6,ga,(pre_at hp ?_).trans h7,h8,h9,h10⟩
 exact(List.getElem?_eq_some_iff.1 h7).1
theorem ah3(c:ay)(n s:Int)(g:ByteArray)(h:(bZ c n s g).2=true):∃ga,c.acts[(bZ c n s g).1]?=some ga/\l9 c n s g=ga.epoch/\vZ c n s g=ga.to:=by
 obtain⟨ga,hg,_⟩:=aaj c n s g h
 refine⟨ga,hg,?_,?_⟩
 ·unfold l9 vY
  rw[if_pos h,hg]
  rfl
 ·unfold vZ vY
  rw[if_pos h,hg]
  rfl
theorem atz(c:ay)(n s:Int)(g:ByteArray)(to:List ByteArray)(h:pq c n s g to=false):(bZ c n s g).2=true/\vZ c n s g=iM c n s g to:=by
 unfold pq at h
 simp only[Bool.or_eq_false_iff,Bool.not_eq_false',decide_eq_true_eq]at h
 exact h
theorem atA(k:Int×Int)(c:ay)(a:ak)(h:(mF k c a).2=true):pq c c.acts.length a.scope a.group a.to=false/\(mF k c a).1=l9 c c.acts.length a.scope a.group:=by
 unfold mF at h⊢
 split at h
 ·cases h
 ·rename_i hf
  rw[if_neg hf]
  split at h
  ·rename_i hk
   rw[if_pos hk]
   exact⟨by simpa using hf,rfl⟩
  ·cases h
theorem aak{i:Nat}{c:ay}(hO:Own i c)(a:ak)(hto:∀d∈a.to,jL d)(h:(lS (aG i) c a).2=true):
 Own i (lS (aG i) c a).1/\c.acts<+:(lS (aG i) c a).1.acts/\(lS (aG i) c a).1.acts.length<=c.acts.length+1:=by
 unfold lS at h⊢
 split at h
 ·rename_i hn
  rw[if_pos hn]
  split at h
  ·rename_i hg
   rw[if_pos hg]
   have hg:=eq_of_beq hg
   unfold CQ zn at hg⊢
   split at hg
   ·rename_i hr
    rw[if_pos hr]
    dsimp only
    have hr2:=Ir _ hr
    rw[Iu _ _ (vH i) hr2]
    have hm:=hO.members c.acts.length a.scope a.group a.to hto
    refine⟨hO.long _ (NU _ _ (vH i) hr2) (fun h=> ?_) (fun h=> ?_) (fun _=>⟨hm,rfl⟩),hO.pre _,?_⟩
    ·exact absurd (show(16:Int)=8 from h) (by decide)
    ·exact absurd (show(16:Int)=15 from h) (by decide)
    ·rw[hO.ED,List.length_append]
     exact Nat.le_refl _
   ·exact absurd (show(1:Int)=0 from hg) (by decide)
  ·cases h
 ·rename_i hn
  rw[if_neg hn]
  dsimp only
  rw[hO.bare]
  exact⟨hO,List.prefix_refl _,Nat.le_succ _⟩
theorem atB{i:Nat}{c:ay}(hO:Own i c)(a:ak)(t:ByteArray)(p:ak)(hr:bT p=true)(hs:0<=a.scope/\a.scope<=3)(e1:p.kind=1)(e2:p.scope=a.scope)(e3:p.group=a.group)(e4:p.to=a.to)(e5:a.scope=0->p.text=t)
 (e6:a.scope≠0->(bZ c c.acts.length a.scope a.group).2=true/\vZ c c.acts.length a.scope a.group=iM c c.acts.length a.scope a.group a.to/\p.epoch=l9 c c.acts.length a.scope a.group/\∃bF,sV p=bV.sK (jY (aG i).1 a.scope a.group (l9 c c.acts.length a.scope a.group)) bF t):
 Own i (dK c p)/\AQ i (dK c p) c.acts.length t:=by
 have hOL:=hO.long p hr (fun h=>absurd (e1.symm.trans h) (by decide)) (fun h=>absurd (e1.symm.trans h) (by decide)) (fun h=>absurd (e1.symm.trans h) (by decide))
 have hp:=hO.pre p
 have hid:(dK c p).id=c.id:=rfl
 have hat:(dK c p).acts[c.acts.length]?=some (aP p):=by
  rw[hO.ED,List.getElem?_append_right (Nat.le_refl _),Nat.sub_self]
  rfl
 generalize dK c p=d at*
 refine⟨hOL,aP p,hat,?_,?_,?_,?_⟩
 ·show nT p.kind=true
  rw[e1]
  rfl
 ·show 0<=p.scope/\p.scope<=3
  rw[e2]
  exact hs
 ·show p.scope=0->p.text=t
  rw[e2]
  exact e5
 ·show p.scope≠0->(bZ d c.acts.length p.scope p.group).2=true/\∃ga,d.acts[(bZ d c.acts.length p.scope p.group).1]?=some ga/\ga.epoch=p.epoch/\ga.to=iM d c.acts.length p.scope p.group p.to/\∃bF,sV p=bV.sK (jY (aG i).1 p.scope p.group p.epoch) bF t
  rw[e2,e3,e4,ahK hp (Nat.le_refl _),ZR hp hid (Nat.le_refl _)]
  intro hn
  obtain⟨h1,h2,h3,h4⟩:=e6 hn
  obtain⟨ga,hga,hge,hgt⟩:=ah3 _ _ _ _ h1
  rw[h3]
  exact⟨h1,ga,(pre_at hp (List.getElem?_eq_some_iff.1 hga).1).trans hga,hge.symm,by rw[<-hgt,h2],h4⟩
theorem yD(k:Int×Int)(a:ak):(gQ k a).kind=a.kind:=rfl
theorem Wh(k:Int×Int)(a:ak):(gQ k a).scope=a.scope:=rfl
theorem aal(k:Int×Int)(a:ak):(gQ k a).group=a.group:=rfl
theorem Rj(k:Int×Int)(a:ak):(gQ k a).to=a.to:=rfl
theorem atD(k:Int×Int)(a:ak):(gQ k a).text=a.text:=rfl
theorem ah4(k:Int×Int)(a:ak):(gQ k a).epoch=a.epoch:=rfl
theorem aam(k:Int×Int)(a:ak):(gQ k a).target=a.target:=rfl
theorem atE(k:Int×Int)(a:ak):(gQ k a).wraps=a.wraps:=rfl
theorem ah5(k:Int×Int)(a:ak):(gQ k a).n=a.n:=rfl
theorem atF(k:Int×Int)(a:ak):(gQ k a).m=a.m:=rfl
theorem atG(k:Int×Int)(a:ak):sV (gQ k a)=sV a:=rfl
theorem ah6(k:Int×Int)(c:ay)(a:ak)(t:ByteArray):(jI k c a t).kind=a.kind:=by unfold jI;split<;>rfl
theorem ah7(k:Int×Int)(c:ay)(a:ak)(t:ByteArray):(jI k c a t).scope=a.scope:=by unfold jI;split<;>rfl
theorem ah8(k:Int×Int)(c:ay)(a:ak)(t:ByteArray):(jI k c a t).group=a.group:=by unfold jI;split<;>rfl
theorem ah9(k:Int×Int)(c:ay)(a:ak)(t:ByteArray):(jI k c a t).to=a.to:=by unfold jI;split<;>rfl
theorem atH(k:Int×Int)(c:ay)(a:ak)(t:ByteArray)(h:a.scope=0):(jI k c a t).text=t:=by
 unfold jI
 rw[if_pos (by rw[h];rfl)]
 rfl
theorem atJ(k:Int×Int)(c:ay)(a:ak)(t:ByteArray)(h:(a.scope==0)=false):(jI k c a t).epoch=(mF k c a).1/\sV (jI k c a t)=wI (jY k.1 a.scope a.group (mF k c a).1) c t:=by
 unfold jI
 rw[if_neg (by rw[h];simp)]
 exact⟨rfl,rfl⟩
theorem aia{i:Nat}{c:ay}(hO:Own i c)(a:ak)(t:ByteArray)(hk:a.kind=1)(hs:0<=a.scope/\a.scope<=3)(h:(jK (aG i) c a t).2=0):
 Own i (dK c (jK (aG i) c a t).1)/\AQ i (dK c (jK (aG i) c a t).1) c.acts.length t:=by
 unfold jK at h⊢
 split at h
 ·exact absurd (show(11:Int)=0 from h) (by decide)
 rename_i hcur
 rw[if_neg hcur]
 split at h
 ·rename_i hr
  rw[if_pos hr]
  split at h
  ·rename_i hf
   rw[if_pos hf]
   dsimp only
   have hr2:=Ir _ hr
   rw[Iu _ _ (vH i) hr2]
   refine atB hO a t _ (NU _ _ (vH i) hr2) hs ?_ ?_ ?_ ?_ ?_ ?_
   ·rw[yD,ah6,hk]
   ·rw[Wh,ah7]
   ·rw[aal,ah8]
   ·rw[Rj,ah9]
   ·intro h0
    rw[atD,atH _ _ _ _ h0]
   ·intro hn
    have hb:(a.scope==0)=false:=beq_eq_false_iff_ne.2 hn
    have hc2:(mF (aG i) c a).2=true:=by
     cases hc:(mF (aG i) c a).2
     ·rw[hb,hc]at hcur
      exact absurd rfl hcur
     ·rfl
    obtain⟨hfr,hce⟩:=atA _ _ _ hc2
    obtain⟨hg2,hgl⟩:=atz _ _ _ _ _ hfr
    obtain⟨f1,f2⟩:=atJ (aG i) c a t hb
    rw[ah4,atG,f1,f2,hce]
    exact⟨hg2,hgl,rfl,_,rfl⟩
  ·exact absurd (show(4:Int)=0 from h) (by decide)
 ·exact absurd (show(1:Int)=0 from h) (by decide)
theorem aib{i:Nat}{c:ay}(hO:Own i c)(x:iG)(t:ByteArray)(h:(jf (aG i) c (gW x) t).2=true):
 Own i (jf (aG i) c (gW x) t).1/\c.acts<+:(jf (aG i) c (gW x) t).1.acts/\c.acts.length<(jf (aG i) c (gW x) t).1.acts.length/\(jf (aG i) c (gW x) t).1.acts.length<=c.acts.length+2/\
  AQ i (jf (aG i) c (gW x) t).1 ((jf (aG i) c (gW x) t).1.acts.length-1) t:=by
 unfold jf at h⊢
 split at h
 ·rename_i hg
  rw[if_pos hg]
  obtain⟨h1,h2,h3⟩:=aak hO (gW x) (ah1 x) hg
  have hl:=h2.length_le
  generalize (lS (aG i) c (gW x)).1=d at*
  split at h
  ·rename_i hp
   rw[if_pos hp]
   dsimp only
   have hs:0<=(gW x).scope/\(gW x).scope<=3:=by
    show 0<=x.scope%4/\x.scope%4<=3
    omega
   obtain⟨h4,h5⟩:=aia h1 (gW x) t rfl hs (eq_of_beq hp)
   have hlen:(dK d (jK (aG i) d (gW x) t).1).acts.length=d.acts.length+1:=by
    rw[h1.ED,List.length_append]
    rfl
   refine⟨h4,h2.trans (h1.pre _),by omega,by omega,?_⟩
   rw[hlen,Nat.add_sub_cancel]
   exact h5
  ·cases h
 ·cases h
theorem atK(c:ay)(a:ak)(h:ig c a=true):bT a=true:=by
 unfold ig at h
 rw[Bool.and_eq_true]at h
 exact h.1
theorem atL(c:ay)(x:vg)(l:List ByteArray):(mP c x l).kind=x.do_:=by
 unfold mP mO mM mJ
 split<;>split<;>split<;>rfl
theorem atM(c:ay)(x:vg)(l:List ByteArray):(mP c x l).scope=0:=by
 unfold mP mO mM mJ
 split<;>split<;>split<;>rfl
theorem atN(c:ay)(x:vg)(l:List ByteArray)(h:x.do_=8):(mP c x l).target=dn (x.who%4).toNat:=by
 unfold mP mO mM mJ
 rw[h]
 split<;>split<;>rfl
theorem atO(a:ak)(h:bT a=true):kP a.kind.toNat a=true:=by
 have h2:=((VZ a).1 h).2.2.2.2.2
 unfold sF at h2
 simp only[Bool.and_eq_true]at h2
 exact h2.2.2.2
structure Grew(i:Nat)(c d:ay):Prop where
 own:Own i d
 pre:c.acts<+:d.acts
 len:d.acts.length<=c.acts.length+2
theorem Grew.refl{i:Nat}{c:ay}(h:Own i c):Grew i c (aN c):=by
 rw[h.bare]
 exact⟨h,List.prefix_refl _,by omega⟩
theorem Grew.long{i:Nat}{c:ay}(h:Own i c)(a:ak)(hd:Own i (dK c a)):Grew i c (dK c a):=⟨hd,h.pre _,by rw[h.ED,List.length_append];simp⟩
theorem atP{i:Nat}{c:ay}(hO:Own i c)(r:ay×Bool)(t:ByteArray)(h:r.2=true->Own i r.1/\c.acts<+:r.1.acts/\c.acts.length<r.1.acts.length/\r.1.acts.length<=c.acts.length+2/\AQ i r.1 (r.1.acts.length-1) t):
 Grew i c (if r.2 then(r.1,some (⟨(i:Int),(r.1.acts.length:Int)-1,t⟩:jH))else(aN c,none)).1/\∀x∈(if r.2 then(r.1,some (⟨(i:Int),(r.1.acts.length:Int)-1,t⟩:jH))else(aN c,none)).2,x.mG=(i:Int)/\∃m:Nat,x.at_=(m:Int)/\AQ i (if r.2 then(r.1,some (⟨(i:Int),(r.1.acts.length:Int)-1,t⟩:jH))else(aN c,none)).1 m x.text:=by
 obtain⟨d,b⟩:=r
 cases b
 ·exact⟨Grew.refl hO,fun x hx=>by simp at hx⟩
 ·obtain⟨h1,h2,h3,h4,h5⟩:=h rfl
  refine⟨⟨h1,h2,h4⟩,fun x hx=> ?_⟩
  have hx:x=⟨(i:Int),(d.acts.length:Int)-1,t⟩:=by simpa using hx.symm
  subst hx
  exact⟨rfl,d.acts.length-1,by show(d.acts.length:Int)-1=_;dsimp only at h3;omega,h5⟩
theorem aic{i:Nat}{c:ay}(hO:Own i c)(p:ak)(h:ig c (gU (aG i) p)=true->bT (gQ (aG i) p)=true->(p.kind=8->jL p.target)/\(p.kind=15->∀d∈p.to,jL d)/\p.kind≠16):
 Grew i c (if ig c (gU (aG i) p)then dK c (gU (aG i) p)else aN c):=by
 split
 ·rename_i hf
  have hr:=atK _ _ hf
  have he:=atp _ _ hr
  rw[he]at hr⊢
  obtain⟨h1,h2,h3⟩:=h hf hr
  exact Grew.long hO _ (hO.long _ hr (by rw[yD,aam];exact h1) (by rw[yD,Rj];exact h2) (by rw[yD];exact fun h=>absurd h h3))
 ·exact Grew.refl hO
theorem atQ(c:ay)(x:iG):(KD c x).kind=15/\(KD c x).to=lK x.mask:=⟨rfl,rfl⟩
theorem atS(a:ak)(hr:bT a=true)(hs:a.scope=0):a.kind≠16:=by
 intro h
 have h9:=atO _ hr
 rw[h]at h9
 have h10:Ls a=true:=h9
 unfold Ls Dz at h10
 rw[hs]at h10
 simp at h10
theorem aie{i:Nat}{c:ay}(hO:Own i c)(x:iG)(l:List ByteArray):
 Grew i c (jg i c x l).1/\∀t∈(jg i c x l).2,t.mG=(i:Int)/\∃m:Nat,t.at_=(m:Int)/\AQ i (jg i c x l).1 m t.text:=by
 unfold jg
 split
 ·exact atP hO (jf (aG i) c (gW x) x.wish.text) x.wish.text (aib hO x _)
 split
 ·refine⟨?_,fun t ht=>by simp at ht⟩
  obtain⟨h1,h2⟩:=atQ c x
  refine aic hO _ fun _ _=>⟨fun h=> ?_,fun _=> ?_,fun h=> ?_⟩
  ·rw[h1]at h
   exact absurd h (by decide)
  ·rw[h2]
   exact aah x.mask
  ·rw[h1]at h
   exact absurd h (by decide)
 ·rename_i h15
  refine⟨?_,fun t ht=>by simp at ht⟩
  have hk:=atL c x.wish l
  have hs:=atM c x.wish l
  have ht:=atN c x.wish l
  refine aic hO _ fun _ hr=>⟨fun h=> ?_,fun h=> ?_,fun h=> ?_⟩
  ·rw[hk]at h
   exact⟨_,by omega,ht h⟩
  ·rw[hk]at h
   exact absurd (by rw[h];rfl) h15
  ·exact atS _ hr ((Wh _ _).trans hs) ((yD _ _).trans h)
structure Iw(j:Nat)(s:F9):Prop where
 n4:s.cs.length=4
 own:∀i:Nat,i<4->∃c,s.cs[i]?=some c/\Own i c/\c.acts.length<=1+2*j
 early:s.earlier.length<=2*j
 txt:∀t∈s.texts,∃i:Nat,i<4/\t.mG=(i:Int)/\∃c,s.cs[i]?=some c/\∃m:Nat,t.at_=(m:Int)/\AQ i c m t.text
 tl:s.texts.length<=j
theorem atT(x:iG):vF x<4:=by unfold vF;omega
theorem Iw.step{j:Nat}{s:F9}(h:Iw j s)(x:iG):Iw (j+1) (CS s x):=by
 have hb:=atT x
 obtain⟨c,hc,hO,hl⟩:=h.own (vF x) hb
 have hg:s.cs.getD (vF x) fE=c:=by rw[List.getD_eq_getElem?_getD,hc];rfl
 obtain⟨hG,hT⟩:=aie hO x s.earlier
 unfold CS
 rw[hg]
 generalize vF x=b at*
 generalize jg b c x s.earlier=r at*
 have hset:∀i,i<4->(s.cs.set b r.1)[i]?=if b=i then some r.1 else s.cs[i]?:=fun i hi=>by
  rw[List.getElem?_set]
  split
  ·rename_i e
   rw[if_pos (by rw[h.n4];omega)]
  ·rfl
 constructor
 ·show(s.cs.set b r.1).length=4
  rw[List.length_set]
  exact h.n4
 ·intro i hi
  show∃c,(s.cs.set b r.1)[i]?=some c/\_
  rw[hset i hi]
  by_cases e:b=i
  ·subst e
   rw[if_pos rfl]
   exact⟨r.1,rfl,hG.own,by have:=hG.len;omega⟩
  ·rw[if_neg e]
   obtain⟨d,h1,h2,h3⟩:=h.own i hi
   exact⟨d,h1,h2,by omega⟩
 ·show(s.earlier++(r.1.acts.drop c.acts.length).map bY).length<=_
  have:=hG.len
  have:=h.early
  rw[List.length_append,List.length_map,List.length_drop]
  omega
 ·intro t ht
  have ht:t∈s.texts++r.2.toList:=ht
  rcases List.mem_append.1 ht with ht|ht
  ·obtain⟨i,hi,h1,d,h2,m,h3,h4⟩:=h.txt t ht
   refine⟨i,hi,h1,?_⟩
   show∃c,(s.cs.set b r.1)[i]?=some c/\_
   rw[hset i hi]
   by_cases e:b=i
   ·subst e
    rw[if_pos rfl]
    obtain rfl:d=c:=by rw[h2]at hc;injection hc
    exact⟨r.1,rfl,m,h3,h4.pre hG.pre (hG.own.id.trans hO.id.symm)⟩
   ·rw[if_neg e]
    exact⟨d,h2,m,h3,h4⟩
  ·obtain⟨h1,m,h2,h3⟩:=hT t (by simpa using ht)
   refine⟨b,hb,h1,r.1,?_,m,h2,h3⟩
   show(s.cs.set b r.1)[b]?=some r.1
   rw[hset b hb,if_pos rfl]
 ·show(s.texts++r.2.toList).length<=j+1
  have:=h.tl
  rw[List.length_append]
  cases r.2 with
  |none=>simp;omega
  |some t=>simp;omega
theorem aif(i:Nat)(hi:i<4):bT (iV (qj i))=true:=by
 rcases(by omega:i=0∨i=1∨i=2∨i=3)with rfl|rfl|rfl|rfl
 ·have e:qj 0={iW (uF ⟨#[54,100,51,52,53,98,52,101,53,101,102,54,97,101,49,48]⟩) 0 0 with text:=lI,n:=635858698746329093}:=by
   unfold qj
   rw[VL,aae]
  rw[e]
  decide+kernel
 ·have e:qj 1={iW (uF ⟨#[97,98,99,97,98,51,54,51,51,52,57,52,50,100,102,55]⟩) 0 0 with text:=lI,n:=1142868023010079171}:=by
   unfold qj
   rw[id_1,VN]
  rw[e]
  decide+kernel
 ·have e:qj 2={iW (uF ⟨#[50,102,54,98,100,56,57,100,99,56,56,100,56,53,100,99]⟩) 0 0 with text:=lI,n:=1552640034848769387}:=by
   unfold qj
   rw[VP,VO]
  rw[e]
  decide+kernel
 ·have e:qj 3={iW (uF ⟨#[53,52,54,49,48,51,102,53,102,52,56,97,49,97,54,55]⟩) 0 0 with text:=lI,n:=1027464471063305804}:=by
   unfold qj
   rw[VR,VQ]
  rw[e]
  decide+kernel
theorem atU(i:Nat):qj i={iW (uF (dn i)) 0 0 with text:=lI,n:=(aG i).2}:=by unfold qj;exact Eq.refl _
theorem atV(d:ByteArray)(p:Int):({iW (uF d) 0 0 with text:=lI,n:=p}:ak).kind=0/\({iW (uF d) 0 0 with text:=lI,n:=p}:ak).n=p:=⟨rfl,rfl⟩
theorem aan(i:Nat):(qj i).kind=0/\(qj i).n=(aG i).2:=by
 rw[atU]
 exact atV _ _
theorem atW(i:Nat)(a:ak)(hk:a.kind=0)(hn:a.n=(aG i).2)(hR:bT a=true):Own i {fE with id:=dn i,acts:=[aP a],keys:=[⟨0,a.n,0⟩],prev:=bY a}:=by
 have h1:∀x∈[aP a],x=aP a:=fun x h=>List.mem_singleton.1 h
 have h2:(aP a).kind=0:=hk
 constructor
 ·rfl
 ·rfl
 ·show[(⟨0,a.n,0⟩:iJ)]=_
  rw[hn]
 ·exact Nat.one_pos
 ·exact ahZ _ hR
 ·intro x h
  rw[h1 x h]
  exact(ZM _).trans hR
 ·intro x h h8
  rw[h1 x h,h2]at h8
  exact absurd h8 (by decide)
 ·intro x h h8
  rw[h1 x h,h2]at h8
  exact absurd h8 (by decide)
 ·intro x h h8
  rw[h1 x h,h2]at h8
  exact absurd h8 (by decide)
theorem aii(i:Nat)(hi:i<4):Own i (jD i):=by
 have hr:=aif i hi
 have hs:uG i=gQ (aG i) (qj i):=Iu (aG i) (qj i) (vH i) hr
 have hR:=NU (aG i) (qj i) (vH i) hr
 unfold jD
 rw[hs]
 refine atW i (gQ (aG i) (qj i)) ?_ ?_ hR
 ·rw[yD]
  exact(aan i).1
 ·rw[ah5]
  exact(aan i).2
theorem atX(k i:Nat)(h:i<k):(yj k)[i]?=some (jD i):=by
 unfold yj
 rw[List.getElem?_map,List.getElem?_range h]
 rfl
theorem Iw.start:Iw 0 ⟨yj 4,[],[]⟩:=
 ⟨rfl,fun i hi=>⟨jD i,atX 4 i hi,aii i hi,Nat.le_refl 1⟩,Nat.le_refl 0,fun t h=>(by cases h),Nat.le_refl 0⟩
theorem aao(l:List iG):∀j,j<=l.length->Iw j (qm l j)
 |0,_=>Iw.start
 |j+1,h=>by
  rw[ahx l j h]
  exact(aao l j (by omega)).step _
theorem aij(l:List iG):Iw l.length (vG l):=aao l l.length (Nat.le_refl _)
theorem atY(v:bV.bQ):(je v).kH=v:=rfl
theorem atZ(sec p:Int)(seed s:ByteArray)(hs:bV.um sec=true):nK sec (je (bV.wZ p seed s))=if p=dW 37 sec then[s]else[]:=by
 unfold nK
 rw[atY]
 by_cases h:p=dW 37 sec
 ·rw[if_pos h,h,bV.apZ sec seed s hs]
  rfl
 ·rw[if_neg h,bV.Qs]
  ·rfl
  ·unfold bV.xg
   have h2:(bV.wZ p seed s).1=p:=rfl
   rw[h2,decide_eq_false h]
   simp
theorem at1(s:ByteArray)(ps:List Int)(sec:Int)(hs:bV.um sec=true):(∀d∈(jr s ps ps.length).flatMap (nK sec),d=s)/\((jr s ps ps.length).flatMap (nK sec)≠[]↔dW 37 sec∈ps):=by
 have h1:∀i,nK sec (FT s ps i)=if ps.getD i 0=dW 37 sec then[s]else[]:=fun i=>atZ sec _ _ s hs
 constructor
 ·intro d hd
  obtain⟨x,hx,hd⟩:=List.mem_flatMap.1 hd
  obtain⟨i,hi,rfl⟩:=List.mem_map.1 hx
  rw[h1]at hd
  split at hd
  ·exact List.mem_singleton.1 hd
  ·cases hd
 ·constructor
  ·intro hne
   obtain⟨d,hd⟩:=List.exists_mem_of_ne_nil _ hne
   obtain⟨x,hx,hd⟩:=List.mem_flatMap.1 hd
   obtain⟨i,hi,rfl⟩:=List.mem_map.1 hx
   rw[h1]at hd
   split at hd
   ·rename_i e
    have hi:=List.mem_range.1 hi
    rw[List.getD_eq_getElem?_getD,List.getElem?_eq_getElem hi]at e
    rw[<-e]
    exact List.getElem_mem hi
   ·cases hd
  ·intro hm he
   obtain⟨i,hi,e⟩:=List.getElem_of_mem hm
   have h2:s∈(jr s ps ps.length).flatMap (nK sec):=by
    refine List.mem_flatMap.2 ⟨FT s ps i,List.mem_map.2 ⟨i,List.mem_range.2 hi,rfl⟩,?_⟩
    rw[h1,List.getD_eq_getElem?_getD,List.getElem?_eq_getElem hi,if_pos (by rw[<-e];rfl)]
    exact List.mem_singleton.2 rfl
   rw[he]at h2
   cases h2
theorem at6(s:ByteArray)(ps:List Int)(q:Int)(a:ak)(ha:a.wraps=jr s ps ps.length):yS [q] a=true↔q∈ps:=by
 unfold yS
 rw[ha,List.any_eq_true]
 constructor
 ·rintro⟨x,hx,h⟩
  obtain⟨i,hi,rfl⟩:=List.mem_map.1 hx
  have hi:=List.mem_range.1 hi
  have h2:(FT s ps i).to=ps.getD i 0:=rfl
  rw[h2,List.getD_eq_getElem?_getD,List.getElem?_eq_getElem hi]at h
  unfold iR at h
  simp at h
  have h3:q=ps[i]:=h
  rw[h3]
  exact List.getElem_mem hi
 ·intro hm
  obtain⟨i,hi,e⟩:=List.getElem_of_mem hm
  refine⟨FT s ps i,List.mem_map.2 ⟨i,List.mem_range.2 hi,rfl⟩,?_⟩
  have h2:(FT s ps i).to=ps.getD i 0:=rfl
  rw[h2,List.getD_eq_getElem?_getD,List.getElem?_eq_getElem hi]
  unfold iR
  simp[e]
theorem at7(b:ByteArray×ByteArray×ByteArray)(s t:ByteArray)(hb:bV.nR s b=(t,true)):∀l:List ByteArray,(∀d∈l,d=s)->nX b l=if l=[]then none else some t
 |[],_=>rfl
 |d::l,h=>by
  rw[h d (List.mem_cons_self ..),nX,hb]
  rfl
theorem Own.key{i:Nat}{c:ay}(h:Own i c)(g:Nat)(hg:g<=c.acts.length):eP c g=some ⟨0,(aG i).2,0⟩:=by
 unfold eP
 rw[if_neg (by simp;omega),h.keys]
 show bP.sD g [⟨0,(aG i).2,0⟩] 1=_
 rw[bP.sD]
 show(if decide ((0:Int)<=(g:Int))then _ else _)=_
 rw[if_pos (by simp)]
theorem aua(k:Option iJ)(x:Int)(kx:Int×Int)(p:iJ)(hk:k=some p)(hx:Sign.keyOf x=kx)(hr:iP kx=true):Ie k x=decide (kx.2=p.pub):=by
 unfold Ie
 rw[hk,hx,hr]
 show(true&&(true&&(kx.2==p.pub)))=_
 rw[Bool.true_and,Bool.true_and]
 rfl
theorem aub(q p:Int)(c:ay)(g:Nat)(hk:eP c g=some ⟨0,p,0⟩):wY [q] c g=decide (q=p):=by
 unfold wY
 rw[hk]
 show iR [q] p=_
 unfold iR
 by_cases e:q=p
 ·rw[decide_eq_true e,e]
  simp
 ·rw[decide_eq_false e]
  simp
  exact fun h=>e (by first|exact h|exact h.symm)
theorem auc(c:ay)(g:Nat)(p:iJ)(hk:eP c g=some p):wY [] c g=false:=by
 unfold wY
 rw[hk]
 rfl
theorem aud(a:ak):yS [] a=false:=by
 unfold yS
 rw[List.any_eq_false]
 intro x _
 unfold iR
 simp
theorem aue(x:Int)(kx ki:Int×Int)(hx:Sign.keyOf x=kx)(hs:bV.um x=true)(hg:dW 37 x=kx.2)(hr:iP kx=true)(hki:kx.2=ki.2->kx.1=ki.1)(k:Option iJ)(hk:k=some ⟨0,ki.2,0⟩)(ga:ak)(s:ByteArray)(ps:List Int)
 (hw:ga.wraps=jr s ps ps.length) (hse:jY ki.1 ga.scope ga.group ga.epoch=s):(∀d∈jk k ga [x],d=s)/\(jk k ga [x]≠[]↔(kx.2=ki.2∨kx.2∈ps)):=by
 have hL:jk k ga [x]=(if kx.2=ki.2 then[s]else[])++(jr s ps ps.length).flatMap (nK x):=by
  unfold jk Kr
  rw[List.flatMap_cons,List.flatMap_nil,List.append_nil,hw]
  congr 1
  unfold vk
  rw[aua k x kx _ hk hx hr,hx]
  by_cases e:kx.2=ki.2
  ·rw[if_pos e,if_pos (decide_eq_true e),hki e,hse]
  ·rw[if_neg e,if_neg (by rw[decide_eq_false e];simp)]
 obtain⟨f1,f2⟩:=at1 s ps x hs
 rw[hg]at f2
 rw[hL]
 constructor
 ·intro d hd
  rcases List.mem_append.1 hd with hd|hd
  ·split at hd
   ·exact List.mem_singleton.1 hd
   ·cases hd
  ·exact f1 d hd
 ·constructor
  ·intro h
   by_cases e:kx.2=ki.2
   ·exact .inl e
   ·rw[if_neg e,List.nil_append]at h
    exact .inr (f2.1 h)
  ·rintro(e|e)
   ·rw[if_pos e]
    simp
   ·intro h
    exact f2.2 e (List.append_eq_nil_iff.1 h).2
def Fa(i:Nat)(members:List ByteArray)(scope:Int)(r:Nat):Bool:=(scope==0)||(decide (r=i)||hasB (dn r) members)
theorem aap(s:ByteArray)(l:List ByteArray):hasB s l=true↔s∈l:=by
 unfold hasB
 rw[List.any_eq_true]
 constructor
 ·rintro⟨x,hx,h⟩
  rw[<-rY (eq_of_beq h)]
  exact hx
 ·intro h
  exact⟨s,h,beq_self_eq_true _⟩
theorem Wi{α:Type}(l:List α)(m:Nat):uf l (m:Int)=l[m]?:=by
 unfold uf
 rw[if_neg (by simp),Int.toNat_natCast]
theorem auf{i:Nat}{c:ay}(hO:Own i c)(hi:i<4)(m:Nat)(a:ak)(hm:m<c.acts.length)(hg:(bZ c m a.scope a.group).2=true)(ga:ak)(hga:c.acts[(bZ c m a.scope a.group).1]?=some ga)(sH:ga.epoch=a.epoch)(r:Nat)(hr:r<4):
 (∀d∈jk (eP c (bZ c m a.scope a.group).1) ga [(aG r).1],d=jY (aG i).1 a.scope a.group a.epoch)/\
 (jk (eP c (bZ c m a.scope a.group).1) ga [(aG r).1]≠[]↔(r=i∨dn r∈ga.to))/\(wY [(aG r).2] c (bZ c m a.scope a.group).1||yS [(aG r).2] ga)=(decide (r=i)||hasB (dn r) ga.to):=by
 obtain⟨a2,h1,h2,h3,h4⟩:=aaj c m a.scope a.group hg
 obtain rfl:a2=ga:=by rw[h1]at hga;injection hga
 obtain⟨hid,hwr⟩:=hO.gr a2 (List.mem_of_getElem? h1) h2
 rw[h3,h4,sH]at hwr
 have hlt:(bZ c m a.scope a.group).1<c.acts.length:=(List.getElem?_eq_some_iff.1 h1).1
 have hk:=hO.key _ (Nat.le_of_lt hlt)
 have JG:(aG r).2=(aG i).2↔r=i:=⟨fun h=>ahW r hr i hi h,fun h=>by rw[h]⟩
 have hmp:=ato a2.to hid r hr
 obtain⟨f1,f2⟩:=aue (aG r).1 (aG r) (aG i) (ahU r) (atg r) (Rh r) (vH r) (fun h=>by rw[JG.1 h]) _ hk a2 _ _ hwr (by rw[h3,h4,sH])
 refine⟨f1,?_,?_⟩
 ·rw[f2,JG,hmp]
 ·have hw:=at6 _ (dZ a2.to) (aG r).2 a2 hwr
  rw[aub (aG r).2 (aG i).2 c _ hk]
  have e1:decide ((aG r).2=(aG i).2)=decide (r=i):=decide_eq_decide.2 JG
  rw[e1]
  congr 1
  rw[Bool.eq_iff_iff,hw,aap,hmp]
theorem aug{i:Nat}{c:ay}(hO:Own i c)(hi:i<4)(t:jH)(m:Nat)(ht:t.at_=(m:Int))(hT:AQ i c m t.text)(r:Nat)(hr:r<4):
 ∃a,c.acts[m]?=some a/\xB c t r=(Fa i (iM c m a.scope a.group a.to) a.scope r,Fa i (iM c m a.scope a.group a.to) a.scope r,((oO c [(aG r).1] t.at_).getD bK).toList==t.text.toList)/\
  (Fa i (iM c m a.scope a.group a.to) a.scope r=true->(((oO c [(aG r).1] t.at_).getD bK).toList==t.text.toList)=true)/\jA [] c t.at_=(a.scope==0):=by
 obtain⟨a,h1,h2,h3,h4,h5⟩:=hT
 have hm:m<c.acts.length:=(List.getElem?_eq_some_iff.1 h1).1
 refine⟨a,h1,?_⟩
 have hR:∀ps,jA ps c t.at_=Bz ps c m a:=fun ps=>by
  unfold jA
  rw[ht,Wi,h1]
 have hG:∀xs,oO c xs t.at_=FW c xs m a:=fun xs=>by
  unfold oO
  rw[ht,Wi,h1]
 unfold xB
 rw[ahV,hR,hG,hR]
 unfold Bz FW
 rw[h2]
 by_cases hs:a.scope=0
 ·have hb:(a.scope==0)=true:=by rw[hs];rfl
  rw[hb]
  unfold Fa
  rw[hb,h4 hs]
  simp
 ·have hb:(a.scope==0)=false:=beq_eq_false_iff_ne.2 hs
  rw[hb]
  obtain⟨hg,ga,hga,sH,hto,bF,hbx⟩:=h5 hs
  obtain⟨f1,f2,f3⟩:=auf hO hi m a hm hg ga hga sH r hr
  have NV:Ih c [(aG r).1] m a=if jk (eP c (bZ c m a.scope a.group).1) ga [(aG r).1]=[]then none else some t.text:=by
   unfold Ih
   rw[if_pos hg,hga]
   show(if ga.epoch==a.epoch then nX (sV a) _ else none)=_
   rw[if_pos (by rw[sH];exact beq_self_eq_true _)]
   refine at7 (sV a) (jY (aG i).1 a.scope a.group a.epoch) t.text ?_ _ f1
   rw[hbx]
   exact bV.ae0 _ _ _
  have hS1:∀ps,DR ps c m a=(wY ps c (bZ c m a.scope a.group).1||yS ps ga):=fun ps=>by
   unfold DR
   rw[hg,hga]
   show(true&&((ga.epoch==a.epoch)&&(wY ps c (bZ c m a.scope a.group).1||yS ps ga)))=_
   rw[sH,beq_self_eq_true,Bool.true_and,Bool.true_and]
  have hW:Fa i (iM c m a.scope a.group a.to) a.scope r=(decide (r=i)||hasB (dn r) ga.to):=by
   unfold Fa
   rw[hb,hto]
   rfl
  rw[hS1,hS1,f3,hW,NV]
  simp only[Bool.true_and,Bool.false_or,if_true,Bool.false_eq_true,if_false]
  have hwn:(decide (r=i)||hasB (dn r) ga.to)=true↔(r=i∨dn r∈ga.to):=by rw[Bool.or_eq_true,aap,decide_eq_true_eq]
  refine⟨?_,?_,?_⟩
  ·by_cases he:jk (eP c (bZ c m a.scope a.group).1) ga [(aG r).1]=[]
   ·rw[if_pos he]
    have:(decide (r=i)||hasB (dn r) ga.to)=false:=by
     cases hv:(decide (r=i)||hasB (dn r) ga.to)
     ·rfl
     ·exact absurd he (f2.2 (hwn.1 hv))
    rw[this]
    rfl
   ·rw[if_neg he]
    have:(decide (r=i)||hasB (dn r) ga.to)=true:=hwn.2 (f2.1 he)
    rw[this]
    rfl
  ·intro hv
   rw[if_neg (f2.2 (hwn.1 hv))]
   exact beq_self_eq_true _
  ·obtain⟨a2,h11,h12,h13,h14⟩:=aaj c m a.scope a.group hg
   obtain rfl:a2=ga:=by rw[h11]at hga;injection hga
   have hlt:(bZ c m a.scope a.group).1<c.acts.length:=(List.getElem?_eq_some_iff.1 h11).1
   rw[auc c _ _ (hO.key _ (Nat.le_of_lt hlt)),aud]
   rfl
theorem aaq(s:Int)(g:ByteArray)(l:List ak):∀j,0<(gG s g l j).2->∃a,l[(gG s g l j).1]?=some a/\a.epoch=((gG s g l j).2:Int)-1
 |0,h=>absurd h (by simp[gG])
 |j+1,h=>by
  rw[gG]at h⊢
  cases hj:l[j]? with
  |none=>
   rw[hj]at h
   exact aaq s g l j h
  |some a=>
   rw[hj]at h
   dsimp only at h⊢
   unfold Af at h⊢
   by_cases hg:Fb s g (gG s g l j).2 a=true
   ·rw[if_pos hg]
    unfold Fb at hg
    simp only[Bool.and_eq_true]at hg
    refine⟨a,hj,?_⟩
    rw[eq_of_beq hg.2.2.2]
    dsimp only
    omega
   ·rw[if_neg hg]at h⊢
    exact aaq s g l j h
theorem ail(c:ay)(s:Int)(g:ByteArray):0<=l9 c c.acts.length s g/\l9 c c.acts.length s g<=c.acts.length:=by
 by_cases h:(bZ c c.acts.length s g).2=true
 ·obtain⟨ga,hga,hge,_⟩:=ah3 c c.acts.length s g h
  obtain⟨a,h1,h2⟩:=aaq s g c.acts _ (of_decide_eq_true h)
  have e:a=ga:=by
   have h3:c.acts[(bZ c c.acts.length s g).1]?=some a:=h1
   rw[h3]at hga
   injection hga
  have h4:=(O8 s g c.acts (fH c c.acts.length)).2.1
  have h5:0<(gG s g c.acts (fH c c.acts.length)).2:=of_decide_eq_true h
  rw[CU c (Nat.le_refl _)]at h2 h4 h5
  rw[hge,<-e,h2]
  omega
 ·have h0:l9 c c.acts.length s g=0:=by
   unfold l9 vY
   rw[if_neg h]
   rfl
  rw[h0]
  omega
structure ain(k:Int×Int)(c:ay):Prop where
 short:∀a∈c.acts,jU a
 target:∀a∈c.acts,a.target.size<=maxLen
 to:∀a∈c.acts,a.to.length<=100000
 prev:c.prev.size<=1000
 owns:Am k c=true
theorem Own.aar{i:Nat}{c:ay}(h:Own i (aN c)):∀a∈c.acts,bT a=true:=fun a ha=>(ZM a).symm.trans (h.right (aP a) (List.mem_map_of_mem ha))
theorem auh(k:Int×Int)(c:ay)(q:Int)(hk:eP c c.acts.length=some ⟨0,q,0⟩)(hr:iP k=true)(he:k.2=q):Am k c=true:=by
 unfold Am
 rw[hk,hr]
 show(true&&(true&&(k.2==q)))=true
 rw[he,beq_self_eq_true]
 rfl
theorem Own.sizes{i:Nat}{c:ay}(h:Own i (aN c)):ain (aG i) c:=by
 have hr:=h.aar
 have hm:(100000:Nat)<=maxLen:=by decide
 refine⟨fun a ha=> ?_,fun a ha=> ?_,fun a ha=> ?_,?_,?_⟩
 ·have h:=wX (hr a ha)
  have h1:=h.to
  have h2:=h.wraps
  exact⟨by omega,by omega⟩
 ·have:=(wX (hr a ha)).target
  omega
 ·have:=(wX (hr a ha)).to
  omega
 ·have h2:c.prev.size=32:=h.prev
  omega
 ·rw[<-asQ]
  exact auh (aG i) (aN c) (aG i).2 (h.key _ (Nat.le_refl _)) (vH i) (Eq.refl _)
theorem aas(k:Int×Int)(c:ay)(a:ak)(hn:c.acts.length<=100000):(mF k c a).1<=1000000:=by
 have h:=ail c a.scope a.group
 unfold mF
 split
 ·decide
 split
 ·dsimp only
  omega
 ·decide
end Rel
end Go.Proofs.YtbemmjnjoabadaaGreatDoor
