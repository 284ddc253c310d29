/- part 27 -/
import Derived.Test.YtbemmjnjoabadaaGreatDoorK25
import Derived.Test.YtbemmjnjoabadaaGreatDoorK14
import Derived.Test.YtbemmjnjoabadaaGreatDoorK22
import Derived.Test.YtbemmjnjoabadaaGreatDoorK26
set_option linter.unusedVariables false
set_option linter.unusedSimpArgs false
namespace Go.Proofs.YtbemmjnjoabadaaGreatDoor
namespace Rel
open Go.RowKit aQ Mem _root_.Go.Proofs.YtbemmjnjoabadaaGreatDoor.Code aY Sign _root_.Go.Proofs.YtbemmjnjoabadaaGreatDoor.Item _root_.Go.Proofs.YtbemmjnjoabadaaGreatDoor.Known _root_.Go.Proofs.YtbemmjnjoabadaaGreatDoor.bP
def je(v:bV.bQ):bQ:=⟨v.1,v.2.1,v.2.2.1,v.2.2.2.1,v.2.2.2.2⟩
def J7:ByteArray:=⟨#[103,114,97,110,116]⟩
def J8(s:ByteArray)(i:Nat):ByteArray:=(aZ J7++aZ s)++aU (i:Int)
def FT(s:ByteArray)(ps:List Int)(i:Nat):bQ:=je (bV.wZ (ps.getD i 0) (J8 s i) s)
def jr(s:ByteArray)(ps:List Int)(j:Nat):List bQ:=(List.range j).map (FT s ps)
theorem ari(s:ByteArray)(ps:List Int)(j:Nat):jr s ps (j+1)=jr s ps j++[FT s ps j]:=by
 unfold jr
 rw[List.range_succ,List.map_append]
 rfl
theorem J9(s:ByteArray)(ps:List Int)(j:Nat):(jr s ps j).length=j:=by simp[jr]
def Ea(x:Int)(a:ak):ak:={a with scope:=x}
def pG(x:ByteArray)(a:ak):ak:={a with group:=x}
def oL(l:List ByteArray)(A:Option Addr)(n:Nat)(a:ak):ak:={a with to:=l,toA:=A,toC:=n}
def mD(x:Int)(a:ak):ak:={a with epoch:=x}
def iF(l:List bQ)(A:Option Addr)(n:Nat)(a:ak):ak:={a with wraps:=l,gy:=A,dF:=n}
def zl(c:ay)(scope:Int)(group:ByteArray):Int:=if(bZ c c.acts.length scope group).2 then l9 c c.acts.length scope group+1 else 0
def wG(k:Int×Int)(c:ay)(scope:Int)(group:ByteArray)(L:List ByteArray)(ps:List Int)(time:Int):ak:=
 iF (jr (jY k.1 scope group (zl c scope group)) ps ps.length) none 0 (mD (zl c scope group) (oL L none 0 (pG group (Ea scope (iW c 16 time)))))
def zn(k:Int×Int)(c:ay)(scope:Int)(group:ByteArray)(L:List ByteArray)(ps:List Int)(time:Int):ak×Int:=
 if bT (wG k c scope group L ps time)then(gU k (wG k c scope group L ps time),0)else(aH,1)
def Eb(r:ak×Int)(w:World)(e:Ending)(w':World):Prop:=∃a2:ak,e= .returned (.tuple #[.agg (au a2), .int .i64 r.2])/\aP a2=aP r.1/\(dI w.heap.size w' a2.toA 1 dP a2.to/\dI w.heap.size w' a2.gy 5 bQ.cells a2.wraps)/\bU w' a2/\Q w w'
theorem Y8(x:Int)(a:ak):splice a.cells 7 [.int .i64 x]=(Ea x a).cells:=rfl
theorem Y9(x:ByteArray)(a:ak):splice a.cells 8 [.string x]=(pG x a).cells:=rfl
theorem JA(l:List ByteArray)(A:Option Addr)(n:Nat)(a:ak):splice a.cells 9 [.slice A l.length n]=(oL l A n a).cells:=rfl
theorem afM(x:Int)(a:ak):splice a.cells 14 [.int .i64 x]=(mD x a).cells:=rfl
theorem O4(l:List bQ)(A:Option Addr)(n:Nat)(a:ak):splice a.cells 15 [.slice A l.length n]=(iF l A n a).cells:=rfl
theorem nU{g o:Nat}{w W:World}{a b:ak}{t:Value}(hB:w.heap.size<=g)(hq:Q w W)(hb:ah W g 37 a.cells.toArray)(ho:o+1<=20)(hs:splice a.cells o [t]=b.cells):
 ∃V,W.setCell ⟨g,o,none⟩ t=V/\ah V g 37 b.cells.toArray/\Q w V/\∀k,k≠g->V.heap[k]?=W.heap[k]?:=by
 have h1:=ah.setCells [t] o _ W hb ho
 rw[hs]at h1
 exact⟨_,rfl,h1,below_setCells hB [t] o w W hq,fun k hk=>tY (g:=g) hk [t] o W⟩
theorem arj(c:ay)(scope:Int)(group:ByteArray)(h:l9 c c.acts.length scope group<=1000000):zl c scope group<=1000001:=by
 unfold zl
 split<;>omega
theorem Za{w:World}{base size n h:Nat}{e t:TypeId}{v:Value}{xs:List Value}{cs:Array Value}(hown:aV w base e size v n xs)(hb:ah w h t cs)(hne:e≠t):∀k,v.ownBlock=some k->k≠h:=by
 intro k hk e0
 subst e0
 rcases hown.2 with⟨rfl,rfl⟩|⟨g,cap,cur,fz,rfl,hbg,hcur,_⟩
 ·cases hk
 ·simp only[Value.ownBlock,Option.some.injEq]at hk
  subst hk
  have:=hb.symm.trans hcur
  injection this with this
  injection this with _ h2
  exact hne h2.symm
theorem ah.Qe{w w':World}{base size n h:Nat}{e t:TypeId}{v:Value}{xs:List Value}{cs:Array Value}(hb:ah w h t cs)(hown:aV w base e size v n xs)(hg:w.grownBy w' v.ownBlock)(hne:e≠t):ah w' h t cs:=
 (hg.block h hb.lt fun e1=>Za hown hb hne h e1.symm rfl).trans hb
theorem afN(x:bQ)(w:World):(Instr.buildSlice 33 1 #[(0, .agg x.cells.toArray)]).run Tryz.prog w= .ok (.slice (some ⟨w.heap.size,0,none⟩) 1 1) (w.alloc (.cells x.cells.toArray 115)):=by kernel_rfl
theorem Vg{w:World}{g:Nat}{ws:List bQ}{A:Option Addr}{n:Nat}{a:ak}(h:ah w g 37 (iF ws A n a).cells.toArray):w.cell? ⟨g,15,none⟩=some (.slice A ws.length n):=h.cell 15
theorem Qg(k:Int×Int){a b:ak}(h:aP a=aP b):aP (gU k a)=aP (gU k b):=by
 have e:aP (iV a)=aP (iV b):=by
  have h2:=congrArg iV h
  exact h2
 have h1:bT (iV a)=bT (iV b):=JB e
 have h3:jP (iV a)=jP (iV b):=aoW e
 unfold gU
 rw[h1]
 split
 ·unfold gQ
  rw[h3]
  have h2:=congrArg (fun x:ak=>({x with e:=(yM k (jP (iV b))).1,s:=(yM k (jP (iV b))).2}:ak)) h
  exact h2
 ·rfl
def Dl:ByteArray:=⟨#[114,101,103,97,105,110]⟩
def nN(k:Int×Int)(c:ay):ByteArray:=((aZ Dl++aU k.1)++aU (c.acts.length:Int))++aZ c.prev
def keyS(k:Int×Int)(c:ay):Int×Int:=Sign.keyOf (kN (nN k c))
def Dn(s:ByteArray)(x t:Int)(n:Nat):List (Int×Int):=oG.yH x s t.toNat n
def WH(x:Int×Int):ByteArray:=aU x.1++aU x.2
def RZ(s:ByteArray)(ps:List Int)(L:List (Int×Int))(i:Nat):bQ:=je (bV.wZ (ps.getD i 0) (s++aU (i:Int)) (WH (L.getD i (0,0))))
def jM(s:ByteArray)(ps:List Int)(L:List (Int×Int))(j:Nat):List bQ:=(List.range j).map (RZ s ps L)
theorem avO(s:ByteArray)(ps:List Int)(L:List (Int×Int))(j:Nat):jM s ps L (j+1)=jM s ps L j++[RZ s ps L j]:=by
 unfold jM
 rw[List.range_succ,List.map_append]
 rfl
theorem KZ(s:ByteArray)(ps:List Int)(L:List (Int×Int))(j:Nat):(jM s ps L j).length=j:=by simp[jM]
def La(x:Int)(a:ak):ak:={a with n:=x}
def DV(x:Int)(a:ak):ak:={a with m:=x}
theorem avP(x:Int)(a:ak):splice a.cells 16 [.int .i64 x]=(La x a).cells:=rfl
theorem avQ(x:Int)(a:ak):splice a.cells 17 [.int .i64 x]=(DV x a).cells:=rfl
def tC(k:Int×Int)(c:ay)(F:List ByteArray)(ps:List Int)(t time:Int):ak:=
 iF (jM (nN k c) ps (Dn (nN k c) (keyS k c).1 t ps.length) ps.length) none 0 (DV (keyS k c).2 (La t (oL F none 0 (iW c 19 time))))
def yI(n:Nat)(t:Int):Bool:= !decide (n=0)&&(!decide (t<1)&& !decide ((n:Int)<t))
def AY(k:Int×Int)(c:ay)(F:List ByteArray)(ps:List Int)(t time:Int):ak×Int:=
 if yI ps.length t then(if bT (tC k c F ps t time)then(gU k (tC k c F ps t time),0)else(aH,1))else(aH,1)
def shC(x:Int×Int):List Value:=[.int .i64 x.1, .int .i64 x.2]
theorem ajc:∀l:List (Int×Int),oG.cells2 l=l.flatMap shC
 |[]=>rfl
 |x::l=>by
  rw[List.flatMap_cons,<-ajc l]
  rfl
theorem avR(x:Int×Int):(shC x).length=2:=rfl
end Rel
end Go.Proofs.YtbemmjnjoabadaaGreatDoor
