/- part 7 -/
import Derived.Test.YtbemmjnjoabadaaGreatDoorK06
set_option linter.unusedVariables false
set_option linter.unusedSimpArgs false
namespace Go.Proofs.YtbemmjnjoabadaaGreatDoor
namespace Known
open Go.RowKit aQ Mem _root_.Go.Proofs.YtbemmjnjoabadaaGreatDoor.Code aY Sign _root_.Go.Proofs.YtbemmjnjoabadaaGreatDoor.Item
def xQ(l:List dO):List ByteArray:=l.map wS
def Jm(d:ByteArray)(l:List ByteArray):Nat:=(l.takeWhile fun o=> !iq d o).length
def OJ(l:List dO)(x:dO):List dO:=l.take (Jm (wS x) (xQ l))++x::l.drop (Jm (wS x) (xQ l))
def TL(l:List dO)(d:ByteArray):Bool:=(xQ l).any fun o=>decide (o=d)
def XA(sv:List Int)(l:List dO)(x:dO):Bool:=OA sv x&& !TL l (wS x)
def acN(sv:List Int)(l:List dO)(x:dO):List dO:=if XA sv l x then OJ l x else l
def Asc(l:List ByteArray):Prop:=l.Pairwise fun a b=>iq a b=true
def zY:List ByteArray->ByteArray->List ByteArray
 |[],d=>[d]
 |o::r,d=>if iq d o then d::o::r else o::zY r d
theorem acO(d:ByteArray):∀l,zY l d=l.take (Jm d l)++d::l.drop (Jm d l)
 |[]=>rfl
 |o::r=>by
  unfold zY Jm
  cases h:iq d o
  ·simp only[Bool.false_eq_true,if_false,List.takeWhile_cons,h,Bool.not_false,if_true,List.length_cons,List.take_succ_cons,List.drop_succ_cons,List.cons_append]
   rw[acO d r]
   rfl
  ·simp[List.takeWhile_cons,h]
theorem amI(l:List dO)(x:dO):xQ (OJ l x)=zY (xQ l) (wS x):=by
 rw[acO]
 unfold OJ xQ
 rw[List.map_append,List.map_cons,List.map_take,List.map_drop]
theorem XB(d e:ByteArray):∀l,e∈zY l d↔e=d∨e∈l
 |[]=>by simp[zY]
 |o::r=>by
  unfold zY
  split
  ·simp
  ·rw[List.mem_cons,XB d e r,List.mem_cons]
   constructor
   ·rintro(h|h|h)
    ·exact .inr (.inl h)
    ·exact .inl h
    ·exact .inr (.inr h)
   ·rintro(h|h|h)
    ·exact .inr (.inl h)
    ·exact .inl h
    ·exact .inr (.inr h)
theorem XC(d:ByteArray):∀l,Asc l->d∉l->Asc (zY l d)
 |[],_,_=>List.pairwise_cons.2 ⟨by simp,List.Pairwise.nil⟩
 |o::r,h,hd=>by
  obtain⟨h1,h2⟩:=List.pairwise_cons.1 h
  unfold zY
  cases hl:iq d o
  ·have hod:iq o d=true:=by
    rcases OI o d with h3|h3|h3
    ·exact h3
    ·exact absurd (List.mem_cons.2 (.inl h3.symm)) hd
    ·rw[hl]at h3;cases h3
   refine List.pairwise_cons.2 ⟨fun e he=> ?_,XC d r h2 fun hm=>hd (List.mem_cons_of_mem _ hm)⟩
   rcases(XB d e r).1 he with rfl|he
   ·exact hod
   ·exact h1 e he
  ·refine List.pairwise_cons.2 ⟨fun e he=> ?_,h⟩
   rcases List.mem_cons.1 he with rfl|he
   ·exact hl
   ·exact Xz hl (h1 e he)
theorem acP:∀l m:List ByteArray,Asc l->Asc m->(∀d,d∈l↔d∈m)->l=m
 |[],[],_,_,_=>rfl
 |[],b::m,_,_,h=>by have:=(h b).2 (List.mem_cons_self ..);simp at this
 |a::l,[],_,_,h=>by have:=(h a).1 (List.mem_cons_self ..);simp at this
 |a::l,b::m,hl,hm,h=>by
  obtain⟨l1,l2⟩:=List.pairwise_cons.1 hl
  obtain⟨m1,m2⟩:=List.pairwise_cons.1 hm
  have hab:a=b:=by
   rcases List.mem_cons.1 ((h a).1 (List.mem_cons_self ..))with e|e
   ·exact e
   ·rcases List.mem_cons.1 ((h b).2 (List.mem_cons_self ..))with e2|e2
    ·exact e2.symm
    ·have:=OH (m1 a e)
     rw[l1 b e2]at this
     cases this
  subst hab
  congr 1
  refine acP l m l2 m2 fun d=>⟨fun hd=> ?_,fun hd=> ?_⟩
  ·rcases List.mem_cons.1 ((h d).1 (List.mem_cons_of_mem _ hd))with rfl|e
   ·have:=l1 _ hd;rw[DJ]at this;cases this
   ·exact e
  ·rcases List.mem_cons.1 ((h d).2 (List.mem_cons_of_mem _ hd))with rfl|e
   ·have:=m1 _ hd;rw[DJ]at this;cases this
   ·exact e
theorem amJ(l:List dO)(d:ByteArray):TL l d=true↔d∈xQ l:=by
 unfold TL
 rw[List.any_eq_true]
 constructor
 ·rintro⟨x,hx,he⟩
  rw[decide_eq_true_eq]at he
  exact he▸hx
 ·intro h
  exact⟨d,h,by simp⟩
theorem amK(l:List dO)(d:ByteArray):TL l d=false↔d∉xQ l:=by
 rw[<-amJ]
 simp
structure Jo(sv:List Int)(l:List dO):Prop where
 asc:Asc (xQ l)
 all:∀x∈l,OA sv x=true
theorem Jo.nil(sv:List Int):Jo sv []:=⟨List.Pairwise.nil,by simp⟩
theorem amL(l:List dO)(x y:dO):y∈OJ l x↔y=x∨y∈l:=by
 unfold OJ
 have h:y∈l↔y∈l.take (Jm (wS x) (xQ l))∨y∈l.drop (Jm (wS x) (xQ l)):=by rw[<-List.mem_append,List.take_append_drop]
 rw[List.mem_append,List.mem_cons,h]
 constructor
 ·rintro(h|h|h)
  ·exact .inr (.inl h)
  ·exact .inl h
  ·exact .inr (.inr h)
 ·rintro(h|h|h)
  ·exact .inr (.inl h)
  ·exact .inl h
  ·exact .inr (.inr h)
theorem Jo.add{sv:List Int}{l:List dO}(h:Jo sv l)(x:dO):Jo sv (acN sv l x):=by
 unfold acN
 cases ha:XA sv l x
 ·simpa using h
 ·rw[if_pos rfl]
  unfold XA at ha
  rw[Bool.and_eq_true,Bool.not_eq_true',amK]at ha
  refine⟨?_,fun y hy=> ?_⟩
  ·rw[amI]
   exact XC _ _ h.asc ha.2
  ·rcases(amL l x y).1 hy with rfl|hy
   ·exact ha.1
   ·exact h.all y hy
theorem amM{x:dO}{sv:List Int}(h:OA sv x=true):(wS x).size=32:=by
 unfold OA at h
 rw[Bool.and_eq_true]at h
 unfold wS
 rw[if_pos h.1]
 exact yJ _
def acR(l:List Int):Bool:=l.all wP
def chainB:ByteArray->List ByteArray->Bool
 |_,[]=>true
 |a,b::r=>iq a b&&chainB b r
def acS(sv:List Int)(l:List dO):Bool:=decide (sv.length<=20)&&(acR sv&&(l.all (OA sv)&&chainB bK (xQ l)))
theorem acT:∀(l:List ByteArray) (a:ByteArray),Asc (a::l)->chainB a l=true
 |[],_,_=>rfl
 |b::r,a,h=>by
  obtain⟨h1,h2⟩:=List.pairwise_cons.1 h
  rw[chainB,h1 b (List.mem_cons_self ..),acT r b h2]
  rfl
theorem Jo.right{sv:List Int}{l:List dO}(h:Jo sv l)(h1:sv.length<=20)(h2:acR sv=true):acS sv l=true:=by
 unfold acS
 rw[h2,decide_eq_true h1,List.all_eq_true.2 h.all,acT]
 ·rfl
 ·refine List.pairwise_cons.2 ⟨fun d hd=> ?_,h.asc⟩
  unfold xQ at hd
  obtain⟨x,hx,rfl⟩:=List.mem_map.1 hd
  rw[show bK=⟨#[]⟩from rfl,amD,amM (h.all x hx)]
  rfl
def amN(n:Int):Int:=if n<0 then-2*n-1 else 2*n
def amO(n:Int):List UInt8:=if n< -2305843009213693952∨2305843009213693952<n then[]else fV (amN n)
def numsL(l:List Int):List UInt8:=fV l.length++l.flatMap amO
def jl(sv:List Int)(l:List dO):List UInt8:=numsL sv++lF (xQ l)
end Known
end Go.Proofs.YtbemmjnjoabadaaGreatDoor
