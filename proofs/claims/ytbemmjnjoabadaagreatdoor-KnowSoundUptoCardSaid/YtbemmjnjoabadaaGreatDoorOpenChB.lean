/-
  What an argument's type gives: a chain, with the bulk's bound (printed by gen_openstory.py).
-/
import Derived.Test.YtbemmjnjoabadaaGreatDoorXS
import Derived.Test.YtbemmjnjoabadaaGreatDoorK42
import Derived.Test.YtbemmjnjoabadaaGreatDoorK43
import Derived.Test.YtbemmjnjoabadaaGreatDoorOpenCh
import Derived.Test.YtbemmjnjoabadaaGreatDoorRows
set_option linter.unusedVariables false
set_option linter.unusedSimpArgs false
set_option maxHeartbeats 1000000
set_option maxRecDepth 100000
namespace Go.Proofs.YtbemmjnjoabadaaGreatDoor
namespace Mem
open Go.RowKit Go.ChangeShapes Go.WideShapes Go.Deep aQ _root_.Go.Proofs.YtbemmjnjoabadaaGreatDoor.Code aY Sign
theorem aa3{H:Type}{d:DataW H}{l:List (DataW H)}(h:d∈l):Rows.uptoBulk d<=Rows.uptoBulkAll l:=by
 induction l with
 |nil=>cases h
 |cons x r ih=>
  simp only[Rows.uptoBulkAll]
  cases List.mem_cons.1 h with
  |inl e=>subst e;omega
  |inr e=>have:=ih e;omega
section
variable {H:Type} {enc:TypeId×Value->H} {P:Program} {W:World} {base:Nat} {spare:Nat->Bool} {held:Bool}
def aaG{α:Type}(enc:TypeId×Value->H)(P:Program)(W:World)(base:Nat)(spare:Nat->Bool)(held:Bool)(t:TypeId)(f:α->List Value)(G:α->Prop):Prop:=
 ∀(fuel:Nat) (cs:List Value) (x:DataW H×List MemPlace),DataW.trod enc P W base spare held fuel t cs=some x->Rows.uptoBulk x.1<=1048576->∃a,cs=f a/\G a
theorem aaL{t:TypeId}(ht:P.underlying t=some .string):aaG enc P W base spare held t (fun s:ByteArray=>[.string s]) fun s=>s.size<=1048576:=fun fuel cs x h hw=>by
 obtain⟨s,rfl,rfl,hs⟩:=DataW.trod_string ht h
 refine⟨s,rfl,?_⟩
 simp only[Rows.uptoBulk]at hw
 rw[ny]at hw
 omega
theorem abX{α:Type}[Inhabited α]{t e:TypeId}{k:Nat}{f:α->List Value}{G:α->Prop}(ht:P.underlying t=some (.slice e))(hk:P.cellsOf e=k)(h0:0<k)(hO:aaG enc P W base spare held e f G):
 aaG enc P W base spare held t acY.cells (acY.Good W k f G):=fun fuel cs x h hw=>by
 rcases DataW.trod_slice ht h with⟨rfl,-⟩|⟨a,len,cap,elems,rest,n,-,rfl,hx,hb,hl,hm,hel,hx1,-,-⟩
 ·exact⟨⟨none,[],0⟩,rfl,⟨Nat.le_refl _,Nat.zero_le _,by simp,dS.nil _ _ _ _⟩⟩
 have each:∀i,i<len->∃y:α,G y/\W.cells? base (a.add (i*k)) k=some (f y):=by
  intro i hi
  have h1:=hx1 i hi
  rw[hk,List.getElem?_eq_getElem (show i<elems.length by omega)]at h1
  obtain⟨cs',h2,h3⟩:=Option.bind_eq_some_iff.1 h1
  obtain⟨y,rfl,hy⟩:=hO _ _ _ h3 (by
   rw[hx]at hw
   simp only[Rows.uptoBulk]at hw
   have:=aa3 (List.mem_map.2 ⟨elems[i]'(by omega),List.getElem_mem _,rfl⟩:elems[i].1∈elems.map (·.1))
   omega)
  exact⟨y,hy,h2⟩
 obtain⟨g,hg⟩:=choose_lt each
 have hlen:((List.range len).map g).length=len:=by simp
 refine⟨⟨some a,(List.range len).map g,cap⟩,by unfold acY.cells;rw[hlen],⟨by rw[hlen];exact hl,hm,fun y hy=> ?_,fun h1=> ?_⟩⟩
 ·obtain⟨i,hi,rfl⟩:=List.mem_map.1 hy
  exact(hg i (List.mem_range.1 hi)).1
 ·dsimp only at h1
  rw[hlen]at h1
  have hc:=fun i hi=>World.cells?_some (hg i hi).2
  obtain⟨b,o,s⟩:=a
  have hs:s=none/\b<W.heap.size:=by
   obtain⟨_,hl0,hc0⟩:=hc 0 h1
   have h2:=hc0 0 h0
   rw[List.getElem?_eq_getElem (show 0<(f (g 0)).length by omega)]at h2
   simp only[Nat.zero_mul,Addr.add]at h2
   unfold World.cell? at h2
   simp only[if_true]at h2
   split at h2
   ·rename_i hh
    cases s with
    |none=>exact⟨rfl,(Array.getElem?_eq_some_iff.1 hh).1⟩
    |some x=>simp at h2
   ·cases h2
  obtain⟨rfl,hbl⟩:=hs
  refine⟨b,o,rfl,hbl,fun j hj i v hv=> ?_⟩
  have hj':j<len:=by dsimp only at hj;rwa[hlen]at hj
  obtain⟨_,hl1,hc1⟩:=hc j hj'
  dsimp only at hv
  rw[List.getElem_map,List.getElem_range]at hv
  have hik:i<k:=by rw[<-hl1];exact(List.getElem?_eq_some_iff.1 hv).1
  have:=hc1 i hik
  rw[hv,add_add,Addr.add_mid]at this
  rw[Nat.add_assoc]
  exact this
theorem aaJ{α:Type}{n i off k:Nat}{xs:List (DataW H×List MemPlace)}{x:DataW H×List MemPlace}{cs:List Value}{u:TypeId}{ps:List MemPlace}{f:α->List Value}{G:α->Prop}
 (hx:x=(.agg (xs.map (·.1)),ps)) (hw:Rows.uptoBulk x.1<=1048576)
 (hf:DataW.trod enc P W base spare held n u ((cs.drop off).take (P.cellsOf u))=xs[i]?) (hi:i<xs.length) (hk:P.cellsOf u=k) (hO:aaG enc P W base spare held u f G):∃a,(cs.drop off).take k=f a/\G a:=by
 rw[hk,List.getElem?_eq_getElem hi]at hf
 refine hO _ _ _ hf ?_
 rw[hx]at hw
 simp only[Rows.uptoBulk]at hw
 have:=aa3 (List.mem_map.2 ⟨xs[i],List.getElem_mem _,rfl⟩:xs[i].1∈xs.map (·.1))
 omega
end
end Mem
namespace Rel
open Go.RowKit Go.ChangeShapes Go.WideShapes Go.Deep aQ Mem _root_.Go.Proofs.YtbemmjnjoabadaaGreatDoor.Code aY Sign _root_.Go.Proofs.YtbemmjnjoabadaaGreatDoor.Item _root_.Go.Proofs.YtbemmjnjoabadaaGreatDoor.Known _root_.Go.Proofs.YtbemmjnjoabadaaGreatDoor.bP
section
variable {H:Type} {enc:TypeId×Value->H} {W:World} {base:Nat} {spare:Nat->Bool} {held:Bool}
theorem ab3:aaG enc Tryz.prog W base spare held 32 (fun b:ByteArray×ByteArray×ByteArray=>[.string b.1, .string b.2.1, .string b.2.2]) (fun b=>(b.1.size<=1048576/\b.2.1.size<=1048576)/\b.2.2.size<=1048576):=fun fuel cs x h hw=>by
 obtain⟨xs,n,-,hx,hcl,hxl,hf⟩:=DataW.trod_struct Tryz.underlying32 h
 rw[aaX]at hcl
 have hxl:xs.length=3:=hxl
 obtain⟨n1,e0,g0⟩:=aaJ (cs:=cs) (i:=0) (off:=0) hx hw (hf 0 _ rfl) (by omega) aaF (aaL Tryz.underlying9)
 obtain⟨n2,e1,g1⟩:=aaJ (cs:=cs) (i:=1) (off:=1) hx hw (hf 1 _ rfl) (by omega) aaF (aaL Tryz.underlying9)
 obtain⟨n3,e2,g2⟩:=aaJ (cs:=cs) (i:=2) (off:=2) hx hw (hf 2 _ rfl) (by omega) aaF (aaL Tryz.underlying9)
 have t3:cs.drop 3=[]:=List.drop_eq_nil_of_le (by omega)
 have t2:=aay e2 t3
 have t1:=aay e1 t2
 have t0:=aay e0 t1
 rw[List.drop_zero]at t0
 refine⟨(n1,n2,n3),by rw[t0];rfl,?_⟩
 exact⟨⟨g0,g1⟩,g2⟩
theorem aeW:aaG enc Tryz.prog W base spare held 115 bQ.cells (fun v=>(I64 v.to/\I64 v.lV)/\(v.n.size<=1048576/\v.d.size<=1048576)/\v.t.size<=1048576):=fun fuel cs x h hw=>by
 obtain⟨xs,n,-,hx,hcl,hxl,hf⟩:=DataW.trod_struct Tryz.underlying115 h
 rw[abe]at hcl
 have hxl:xs.length=3:=hxl
 obtain⟨n1,e0,g0⟩:=aaB (cs:=cs) (off:=0) (hf 0 _ rfl) (by omega) aaC aaE
 obtain⟨n2,e1,g1⟩:=aaB (off:=1) (hf 1 _ rfl) (by omega) aaC aaE
 obtain⟨b,e2,g2⟩:=aaJ (cs:=cs) (i:=2) (off:=2) hx hw (hf 2 _ rfl) (by omega) aaX ab3
 have t3:cs.drop 5=[]:=List.drop_eq_nil_of_le (by omega)
 have t2:=aay e2 t3
 have t1:=aay e1 t2
 have t0:=aay e0 t1
 rw[List.drop_zero]at t0
 refine⟨⟨n1,n2,b.1,b.2.1,b.2.2⟩,by rw[t0];rfl,?_⟩
 exact⟨⟨g0,g1⟩,g2⟩
theorem aeX:aaG enc Tryz.prog W base spare held 33 acY.cells (acY.Good W 5 bQ.cells fun v=>(I64 v.to/\I64 v.lV)/\(v.n.size<=1048576/\v.d.size<=1048576)/\v.t.size<=1048576):=abX Tryz.underlying33 abe (by decide) aeW
theorem afo:aaG enc Tryz.prog W base spare held 37 ak.cells (fun a=>bU W a/\(((I64 a.scope/\I64 a.epoch)/\a.group.size<=1048576)/\(a.bn.size<=1048576/\a.bd.size<=1048576)/\∀v∈a.wraps,(I64 v.to/\I64 v.lV)/\(v.n.size<=1048576/\v.d.size<=1048576)/\v.t.size<=1048576)):=fun fuel cs x h hw=>by
 obtain⟨xs,n,-,hx,hcl,hxl,hf⟩:=DataW.trod_struct Tryz.underlying37 h
 rw[abj]at hcl
 have hxl:xs.length=17:=hxl
 obtain⟨author,e0,g0⟩:=aaB (cs:=cs) (off:=0) (hf 0 _ rfl) (by omega) aaF aaH
 obtain⟨seq,e1,g1⟩:=aaB (off:=1) (hf 1 _ rfl) (by omega) aaC aaE
 obtain⟨prev,e2,g2⟩:=aaB (off:=2) (hf 2 _ rfl) (by omega) aaF aaH
 obtain⟨kind,e3,g3⟩:=aaB (off:=3) (hf 3 _ rfl) (by omega) aaC aaE
 obtain⟨time,e4,g4⟩:=aaB (off:=4) (hf 4 _ rfl) (by omega) aaC aaE
 obtain⟨object,e5,g5⟩:=aaB (off:=5) (hf 5 _ rfl) (by omega) aaF aaH
 obtain⟨target,e6,g6⟩:=aaB (off:=6) (hf 6 _ rfl) (by omega) aaF aaH
 obtain⟨scope,e7,g7⟩:=aaB (off:=7) (hf 7 _ rfl) (by omega) aaC aaE
 obtain⟨group,e8,g8⟩:=aaJ (cs:=cs) (i:=8) (off:=8) hx hw (hf 8 _ rfl) (by omega) aaF (aaL Tryz.underlying9)
 obtain⟨to,e9,g9⟩:=aaB (off:=9) (hf 9 _ rfl) (by omega) acQ adG
 obtain⟨text,e10,g10⟩:=aaB (off:=10) (hf 10 _ rfl) (by omega) aaF aaH
 obtain⟨b,e11,g11⟩:=aaJ (cs:=cs) (i:=11) (off:=11) hx hw (hf 11 _ rfl) (by omega) aaX ab3
 obtain⟨epoch,e12,g12⟩:=aaB (off:=14) (hf 12 _ rfl) (by omega) aaC aaE
 obtain⟨wr,e13,g13⟩:=aaJ (cs:=cs) (i:=13) (off:=15) hx hw (hf 13 _ rfl) (by omega) adV aeX
 obtain⟨n1,e14,g14⟩:=aaB (off:=16) (hf 14 _ rfl) (by omega) aaC aaE
 obtain⟨m1,e15,g15⟩:=aaB (off:=17) (hf 15 _ rfl) (by omega) aaC aaE
 obtain⟨sg,e16,g16⟩:=aaB (off:=18) (hf 16 _ rfl) (by omega) aa9 adH
 have t17:cs.drop 20=[]:=List.drop_eq_nil_of_le (by omega)
 have t16:=aay e16 t17
 have t15:=aay e15 t16
 have t14:=aay e14 t15
 have t13:=aay e13 t14
 have t12:=aay e12 t13
 have t11:=aay e11 t12
 have t10:=aay e10 t11
 have t9:=aay e9 t10
 have t8:=aay e8 t9
 have t7:=aay e7 t8
 have t6:=aay e6 t7
 have t5:=aay e5 t6
 have t4:=aay e4 t5
 have t3:=aay e3 t4
 have t2:=aay e2 t3
 have t1:=aay e1 t2
 have t0:=aay e0 t1
 rw[List.drop_zero]at t0
 refine⟨⟨author,seq,prev,kind,time,object,target,scope,group,to.l,to.A,to.c,text,b.1,b.2.1,b.2.2,epoch,wr.l,wr.A,wr.c,n1,m1,sg.1,sg.2⟩,by rw[t0];rfl,?_⟩
 exact⟨⟨gB g9.rows,lY g13.rows,⟨g9.le,g9.cap⟩,g13.le,g13.cap⟩,⟨⟨g7,g12⟩,g8⟩,g11.1,g13.all⟩
theorem afp:aaG enc Tryz.prog W base spare held 38 acY.cells (acY.Good W 20 ak.cells fun a=>bU W a/\(((I64 a.scope/\I64 a.epoch)/\a.group.size<=1048576)/\(a.bn.size<=1048576/\a.bd.size<=1048576)/\∀v∈a.wraps,(I64 v.to/\I64 v.lV)/\(v.n.size<=1048576/\v.d.size<=1048576)/\v.t.size<=1048576)):=abX Tryz.underlying38 abj (by decide) afo
theorem afO:aaG enc Tryz.prog W base spare held 41 ay.cells (fun c=>gX W c/\∀a∈c.acts,(((I64 a.scope/\I64 a.epoch)/\a.group.size<=1048576)/\(a.bn.size<=1048576/\a.bd.size<=1048576)/\∀v∈a.wraps,(I64 v.to/\I64 v.lV)/\(v.n.size<=1048576/\v.d.size<=1048576)/\v.t.size<=1048576)):=fun fuel cs x h hw=>by
 obtain⟨xs,n,-,hx,hcl,hxl,hf⟩:=DataW.trod_struct Tryz.underlying41 h
 rw[aeI]at hcl
 have hxl:xs.length=6:=hxl
 obtain⟨id,e0,g0⟩:=aaB (cs:=cs) (off:=0) (hf 0 _ rfl) (by omega) aaF aaH
 obtain⟨ac,e1,g1⟩:=aaJ (cs:=cs) (i:=1) (off:=1) hx hw (hf 1 _ rfl) (by omega) aeG afp
 obtain⟨ks,e2,g2⟩:=aaB (off:=2) (hf 2 _ rfl) (by omega) aeE aeF
 obtain⟨pv,e3,g3⟩:=aaB (off:=3) (hf 3 _ rfl) (by omega) aaF aaH
 obtain⟨ge,e4,g4⟩:=aaB (off:=4) (hf 4 _ rfl) (by omega) aaC aaE
 obtain⟨fk,e5,g5⟩:=aaB (off:=5) (hf 5 _ rfl) (by omega) aer aex
 have t6:cs.drop 6=[]:=List.drop_eq_nil_of_le (by omega)
 have t5:=aay e5 t6
 have t4:=aay e4 t5
 have t3:=aay e3 t4
 have t2:=aay e2 t3
 have t1:=aay e1 t2
 have t0:=aay e0 t1
 rw[List.drop_zero]at t0
 refine⟨⟨id,ac.l,ac.A,ac.c,ks.l,ks.A,ks.c,pv,ge,fk⟩,by rw[t0];rfl,?_⟩
 exact⟨⟨g1.rows,fun a ha=>(g1.all a ha).1,⟨g1.le,g1.cap⟩,g2.rows,⟨g2.le,g2.cap⟩⟩,fun a ha=>(g1.all a ha).2⟩
theorem afU(x:Int)(v:bQ):∀d∈nK x v,d.size<=v.d.size:=by
 have hos:∀(key:ByteArray) (b:bV.BN),(bV.nR key b).1.size<=b.2.1.size:=fun key b=>by
  unfold bV.nR
  split
  ·show(bV.wz key b.1 b.2.1).size<=_
   rw[bV.UN]
   exact Nat.le_refl _
  ·exact Nat.zero_le _
 intro d hd
 unfold nK at hd
 split at hd
 ·rename_i h
  rw[List.mem_singleton.1 hd]
  unfold bV.BP at h⊢
  split
  ·exact hos _ _
  ·exact Nat.zero_le _
 ·cases hd
theorem afW{c:ay}(h:∀a∈c.acts,(((I64 a.scope/\I64 a.epoch)/\a.group.size<=1048576)/\(a.bn.size<=1048576/\a.bd.size<=1048576)/\∀v∈a.wraps,(I64 v.to/\I64 v.lV)/\(v.n.size<=1048576/\v.d.size<=1048576)/\v.t.size<=1048576))(xs:List Int):Zl c xs:=by
 constructor
 ·intro a ha
  obtain⟨⟨⟨s1,s2⟩,s3⟩,⟨s4,s5⟩,s6⟩:=h a ha
  refine⟨⟨s1.2,by omega,s2.2,fun v hv=> ?_⟩,by omega⟩
  obtain⟨⟨w1,w2⟩,⟨w3,w4⟩,w5⟩:=s6 v hv
  exact⟨w1,w2,by omega⟩
 ·intro a ha k d hd
  obtain⟨-,-,s6⟩:=h a ha
  unfold jk Kr at hd
  obtain⟨x,hx,hd⟩:=List.mem_flatMap.1 hd
  rcases List.mem_append.1 hd with hd|hd
  ·unfold vk at hd
   split at hd
   ·rw[List.mem_singleton.1 hd,show(jY _ _ _ _).size=32 from yJ _]
    decide
   ·cases hd
  ·obtain⟨v,hv,hd⟩:=List.mem_flatMap.1 hd
   have h6:=afU x v d hd
   have h5:=(s6 v hv).2.1.2
   omega
theorem afX{r:Reach}{b0:Nat}{v:Value}{ds:List (DataW H)}{d:DataW H}{p:List MemPlace}(hz:Rows.uptoBulkAll ds<=1048576)(hd:d∈ds)(hval:Value.okWide Tryz.prog W r b0 41 v)(h:DataW.Trod enc Tryz.prog W base spare held 41 v d p):∃c:ay,v= .agg (aF c)/\gX W c/\∀xs,Zl c xs:=by
 simp only[Value.okWide,Tryz.underlying41]at hval
 obtain⟨cs,rfl,-⟩:=hval
 obtain⟨fuel,hf⟩:=h
 obtain⟨k,hk,g1,g2⟩:=afO fuel _ _ hf (Nat.le_trans (aa3 hd) hz)
 have hk:cs.toList=k.cells:=hk
 exact⟨k,by rw[aF,<-hk],g1,afW g2⟩
end
end Rel
end Go.Proofs.YtbemmjnjoabadaaGreatDoor
