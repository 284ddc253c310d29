/-
  What an argument's type gives, with the bound on its strings that the form's reach gives.
-/
import Derived.Test.YtbemmjnjoabadaaGreatDoorXV
import Derived.Test.YtbemmjnjoabadaaGreatDoorK42
import Derived.Test.YtbemmjnjoabadaaGreatDoorK43
import Derived.SizedLaws
set_option linter.unusedVariables false
set_option linter.unusedSimpArgs false
namespace Go.Proofs.YtbemmjnjoabadaaGreatDoor
namespace Mem
open Go.RowKit Go.ChangeShapes Go.WideShapes Go.Deep aQ _root_.Go.Proofs.YtbemmjnjoabadaaGreatDoor.Code aY Sign
theorem axi{H:Type}{P:Program}{e:TypeId}{n:Nat}:∀{l:List (DataW H)} {d:DataW H},d∈l->n∈d.weights P e->n∈DataW.weightsAll P e l
 |a::l,d,hd,hn=>by
  simp only[DataW.weightsAll,List.mem_append]
  rcases List.mem_cons.1 hd with rfl|hd
  ·exact .inl hn
  ·exact .inr (axi hd hn)
section
variable {H:Type} {enc:TypeId×Value->H} {P:Program} {W:World} {base:Nat} {spare:Nat->Bool} {held:Bool}
def afp{α:Type}(enc:TypeId×Value->H)(P:Program)(W:World)(base:Nat)(spare:Nat->Bool)(held:Bool)(t:TypeId)(f:α->List Value)(G:α->Prop):Prop:=
 ∀(fuel:Nat) (cs:List Value) (x:DataW H×List MemPlace),DataW.trod enc P W base spare held fuel t cs=some x->(∀n∈x.1.weights P t,n<=reachBytes)->∃a,cs=f a/\G a
theorem aAv{t:TypeId}(ht:P.underlying t=some .string):afp enc P W base spare held t (fun s:ByteArray=>[.string s]) fun s=>s.size<=reachBytes:=fun fuel cs x h hw=>by
 obtain⟨s,rfl,rfl,hs⟩:=DataW.trod_string ht h
 refine⟨s,rfl,?_⟩
 have:=hw s.data.toList.length (by simp[DataW.weights])
 rwa[ny]at this
theorem aAw{α:Type}[Inhabited α]{t e:TypeId}{k:Nat}{f:α->List Value}{G:α->Prop}(ht:P.underlying t=some (.slice e))(hk:P.cellsOf e=k)(h0:0<k)(hO:afp enc P W base spare held e f G):
 afp enc P W base spare held t acY.cells (acY.Good W k f G):=fun fuel cs x h hw=>by
 rcases DataW.trod_slice ht h with⟨rfl,-⟩|⟨a,len,cap,elems,rest,n,-,rfl,hx,hb,hl,hm,hel,hx1,-,-⟩
 ·exact⟨⟨none,[],0⟩,rfl,⟨Nat.le_refl _,Nat.zero_le _,by simp,dS.nil _ _ _ _⟩⟩
 have each:∀i,i<len->∃y:α,G y/\W.cells? base (a.add (i*k)) k=some (f y):=by
  intro i hi
  have h1:=hx1 i hi
  rw[hk,List.getElem?_eq_getElem (show i<elems.length by omega)]at h1
  obtain⟨cs',h2,h3⟩:=Option.bind_eq_some_iff.1 h1
  obtain⟨y,rfl,hy⟩:=hO _ _ _ h3 (fun m hm=>hw m (by
   rw[hx]
   simp only[DataW.weights,ht,List.mem_cons,List.mem_append]
   exact .inr (.inl (axi (List.mem_map.2 ⟨_,List.getElem_mem _,rfl⟩) hm))))
  exact⟨y,hy,h2⟩
 obtain⟨g,hg⟩:=choose_lt each
 have hlen:((List.range len).map g).length=len:=by simp
 refine⟨⟨some a,(List.range len).map g,cap⟩,by unfold acY.cells;rw[hlen],⟨by rw[hlen];exact hl,hm,fun y hy=> ?_,fun h1=> ?_⟩⟩
 ·obtain⟨i,hi,rfl⟩:=List.mem_map.1 hy
  exact(hg i (List.mem_range.1 hi)).1
 ·dsimp only at h1
  rw[hlen]at h1
  have hc:=fun i hi=>World.cells?_some (hg i hi).2
  obtain⟨b,o,s⟩:=a
  have hs:s=none/\b<W.heap.size:=by
   obtain⟨_,hl0,hc0⟩:=hc 0 h1
   have h2:=hc0 0 h0
   rw[List.getElem?_eq_getElem (show 0<(f (g 0)).length by omega)]at h2
   simp only[Nat.zero_mul,Addr.add]at h2
   unfold World.cell? at h2
   simp only[if_true]at h2
   split at h2
   ·rename_i hh
    cases s with
    |none=>exact⟨rfl,(Array.getElem?_eq_some_iff.1 hh).1⟩
    |some x=>simp at h2
   ·cases h2
  obtain⟨rfl,hbl⟩:=hs
  refine⟨b,o,rfl,hbl,fun j hj i v hv=> ?_⟩
  have hj':j<len:=by dsimp only at hj;rwa[hlen]at hj
  obtain⟨_,hl1,hc1⟩:=hc j hj'
  dsimp only at hv
  rw[List.getElem_map,List.getElem_range]at hv
  have hik:i<k:=by rw[<-hl1];exact(List.getElem?_eq_some_iff.1 hv).1
  have:=hc1 i hik
  rw[hv,add_add,Addr.add_mid]at this
  rw[Nat.add_assoc]
  exact this
theorem axj{α:Type}{n i off k:Nat}{xs:List (DataW H×List MemPlace)}{x:DataW H×List MemPlace}{cs:List Value}{t u:TypeId}{fs:Array Field}{F:Field}{ps:List MemPlace}{f:α->List Value}{G:α->Prop}
 (ht:P.underlying t=some (.struct fs)) (hx:x=(.agg (xs.map (·.1)),ps)) (hw:∀n∈x.1.weights P t,n<=reachBytes) (hF:fs[i]?=some F) (hu:F.type=u)
 (hf:DataW.trod enc P W base spare held n u ((cs.drop off).take (P.cellsOf u))=xs[i]?) (hi:i<xs.length) (hk:P.cellsOf u=k) (hO:afp enc P W base spare held u f G):∃a,(cs.drop off).take k=f a/\G a:=by
 rw[hk,List.getElem?_eq_getElem hi]at hf
 refine hO _ _ _ hf fun m hm=>hw m ?_
 rw[hx]
 simp only[DataW.weights,ht]
 refine DataW.weights_mem_each (j:=i) (t:=u) (d:=xs[i].1) ?_ ?_ m hm
 ·rw[List.getElem?_map,Array.getElem?_toList,hF,<-hu]
  rfl
 ·rw[List.getElem?_map,List.getElem?_eq_getElem hi]
  rfl
end
end Mem
end Go.Proofs.YtbemmjnjoabadaaGreatDoor
