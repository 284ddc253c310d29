/- V: what the common files leave out -/
import Derived.Test.YtbemmjnjoabadaaGreatDoorK42
import Derived.Test.YtbemmjnjoabadaaGreatDoorK43
import Derived.ArgAppend
import Derived.BigQuiet
import Derived.BigRegion
import Derived.ChangeAlike
import Derived.ChangeMaps5
import Derived.Deep.Cut
import Derived.Deep.Draws
import Derived.Deep.MidRow
import Derived.Deep.Quiet
import Derived.Deep.QuietTactic
import Derived.Deep.RegionHeld
import Derived.Deep.RegionHeld3
import Derived.Deep.RegionLaw
import Derived.Deep.RegionWith
import Derived.Deep.Slices
import Derived.Laws.Bits64b
import Derived.Laws.BitsAllLaws
import Derived.Laws.BytesArg
import Derived.Laws.CopyRow
import Derived.Laws.EntriesVeiled
import Derived.Laws.IdiomStrings
import Derived.Laws.MakeOwn
import Derived.Laws.OwnMore
import Derived.Laws.RangeAny
import Derived.Laws.ResultCell
import Derived.Laws.Rows
import Derived.Laws.StructEq
import Derived.Lib.AppendStr
import Derived.Lib.FrozenHead
import Derived.Lib.Hide
import Derived.Lib.Mul64
import Derived.Lib.SliceRun
import Derived.Lib.SlicesCompact
import Derived.Lib.Strings
import Derived.LoopIn
import Derived.LoopNIn
import Derived.Maps.AppendAt
import Derived.Maps.Own
import Derived.Maps.OwnSet
import Derived.Maps.Views
import Derived.OrdersHeld
import Derived.OrdersIn
import Derived.OwnWalkIn
import Derived.RangeFuncBound
import Derived.RangeFuncBox
import Derived.RangeFuncCalls
import Derived.RangeFuncFrom
import Derived.RangeFuncLeaves
import Derived.RangeFuncNested
import Derived.RegionTactic
import Derived.Shelf.Abstract
import Derived.Shelf.RegionOpen
import Derived.Sort.OwnSorted
import Derived.Sort.Walk0
import Derived.StillTail
import Derived.StillTailTactics
import Derived.TacticsInMore
import Derived.WalkKit
import Derived.WalkLawsBesides
import Derived.WalkSpells
set_option linter.unusedVariables false
set_option linter.unusedSimpArgs false
set_option maxHeartbeats 4000000
set_option maxRecDepth 100000
namespace Go.Proofs.YtbemmjnjoabadaaGreatDoor
namespace aQ
def afO:Nat:=2305843009213693949
theorem axA:NN=afO+1:=rfl
theorem axB(a b:Nat)(ha:a%2305843009213693951≠0)(hb:b%2305843009213693951≠0):a*b%2305843009213693951≠0:=by
 obtain⟨i,e⟩:=abA a ha
 obtain⟨j,e'⟩:=abA b hb
 rw[Nat.mul_mod,e,e',<-Nat.mul_mod,<-Nat.pow_add]
 exact Oh _
theorem axE(a:Nat)(h0:a%2305843009213693951≠0):a*a^afO%2305843009213693951=1:=by
 have h:=akG a h0
 rwa[axA,Nat.pow_succ,Nat.mul_comm]at h
end aQ
namespace aQ
open Go.RowKit
theorem axF(a b m:Int)(w:World)(hm:0<m)(hm':m<=4611686018427387904):
 Calls Tryz.prog 207 #[.int .i64 a, .int .i64 b, .int .i64 m] w fun e w'=>e= .returned (.int .i64 ((a-b)%m))/\w=w':=by
 obtain⟨a0,a1⟩:=zN a hm
 obtain⟨b0,b1⟩:=zN b hm
 go_enter Tryz.func207,Tryz.ntmps207
 go_wp2_with (go_at_call 73;refine(SK _ _ _ hm (by omega)).mono ?_;rintro e w' ⟨rfl,rfl⟩)
 go_ret
 exact⟨rfl,rfl⟩
end aQ
namespace aQ
open Go.RowKit
def aa3(a b:Int):Int:=(a-b)%2305843009213693951
theorem ajG(a b:Int)(w:World):
 Calls Tryz.prog 178 #[.int .i64 a, .int .i64 b] w fun e w'=>e= .returned (.int .i64 (aa3 a b))/\w=w':=by
 go_enter Tryz.func178,Tryz.ntmps178
 go_wp2_with (go_at_call 207;refine(axF _ _ _ _ (by decide) (by decide)).mono ?_;rintro e w' ⟨rfl,rfl⟩)
 go_ret
 exact⟨rfl,rfl⟩
def acQ(a:Int):Int:=dW a 2305843009213693949
theorem axJ(a:Int)(w:World)(h:a%2305843009213693951≠0):
 Calls Tryz.prog 179 #[.int .i64 a] w fun e w'=>e= .returned (.tuple #[.int .i64 (acQ a), .bool true])/\Q w w':=by
 have hb:(a%2305843009213693951==0)=false:=by simpa using h
 unfold acQ
 go_enter Tryz.func179,Tryz.ntmps179
 go_wp2_with (first|(go_at_call 73;refine(SK _ _ _ (by decide) (by decide)).mono ?_;rintro e w' ⟨rfl,rfl⟩)|(go_at_call 28;refine(Tv _ _ _ (by decide) (by decide)).mono ?_;rintro e w' ⟨rfl,hq⟩))
 go_ret2
 exact⟨rfl,hq⟩
end aQ
namespace aQ
open Go.RowKit
theorem ajH(a:Int):((res a:Nat):Int)=a%2305843009213693951:=by unfold res;omega
theorem apo(x y:Nat):((x:Int)*(y:Int))%2305843009213693951=((x*y%2305843009213693951:Nat):Int):=by
 rw[<-Int.natCast_mul];omega
theorem axK(a b:Int)(ha:a%2305843009213693951≠0)(hb:b%2305843009213693951≠0):a*b%2305843009213693951≠0:=by
 have h:=axB (res a) (res b) (Xv ha) (Xv hb)
 have e1:a*b%2305843009213693951=((res a*res b%2305843009213693951:Nat):Int):=by
  rw[<-apo,ajH,ajH,<-Int.mul_emod]
 omega
theorem axL(a:Int)(ha:a%2305843009213693951≠0):a*acQ a%2305843009213693951=1:=by
 have h:=axE (res a) (Xv ha)
 unfold acQ
 rw[Tz a _ (by decide) ha,Int.mul_emod,<-ajH a]
 have e:((2305843009213693949:Int)%2305843009213693950).toNat=afO:=by unfold afO;decide
 have e2:(((res a^afO%2305843009213693951:Nat):Int)%2305843009213693951)=((res a^afO%2305843009213693951:Nat):Int):=by omega
 rw[e,e2,apo,Nat.mul_mod_mod,h]
 rfl
end aQ
namespace Mem
open Go.RowKit Go.ChangeShapes Go.WideShapes Go.Deep aQ
section
variable {H:Type} {enc:TypeId×Value->H} {P:Program} {W:World} {base:Nat} {spare:Nat->Bool} {held:Bool}
def Opens{α:Type}(enc:TypeId×Value->H)(P:Program)(W:World)(base:Nat)(spare:Nat->Bool)(held:Bool)(t:TypeId)(f:α->List Value)(G:α->Prop):Prop:=
 ∀(fuel:Nat) (cs:List Value) (x:DataW H×List MemPlace),DataW.trod enc P W base spare held fuel t cs=some x->∃a,cs=f a/\G a
theorem axM{t:TypeId}(ht:P.underlying t=some (.int .i64)):Opens enc P W base spare held t (fun n:Int=>[.int .i64 n]) fun n=> -9223372036854775808<=n/\n<=9223372036854775807:=fun fuel cs x h=>by
 obtain⟨n,rfl,-,hw⟩:=DataW.trod_int ht h
 refine⟨n,rfl,?_⟩
 simp[Lit.wf,IntKind.min,IntKind.max,IntKind.signed,IntKind.bits]at hw
 omega
structure acY.Good{α:Type}(W:World)(k:Nat)(f:α->List Value)(G:α->Prop)(s:acY α):Prop where
 le:s.l.length<=s.c
 cap:s.c<=maxLen
 all:∀a∈s.l,G a
 rows:dS W s.A k f s.l
end
end Mem
namespace Item
open Go.RowKit Go.ChangeShapes Go.WideShapes Go.Deep aQ Mem _root_.Go.Proofs.YtbemmjnjoabadaaGreatDoor.Code aY Sign
theorem drop_step{cs p:List Value}{o k:Nat}(h:(cs.drop o).take k=p):cs.drop o=p++cs.drop (o+k):=by
 rw[<-h,<-List.drop_drop,List.take_append_drop]
section
variable {H:Type} {enc:TypeId×Value->H} {W:World} {base:Nat} {spare:Nat->Bool} {held:Bool}
theorem aeE{α:Type}{n:Nat}{xs:List (DataW H×List MemPlace)}{cs:List Value}{i off k:Nat}{t:TypeId}{f:α->List Value}{G:α->Prop}
 (hf:DataW.trod enc Tryz.prog W base spare held n t ((cs.drop off).take (Tryz.prog.cellsOf t))=xs[i]?) (hi:i<xs.length) (hk:Tryz.prog.cellsOf t=k) (hO:Opens enc Tryz.prog W base spare held t f G):∃a,(cs.drop off).take k=f a/\G a:=by
 rw[hk,List.getElem?_eq_getElem hi]at hf
 exact hO _ _ _ hf
theorem aeF:Tryz.prog.cellsOf 3=1:=by kernel_rfl
theorem axO:Tryz.prog.cellsOf 9=1:=by kernel_rfl
theorem aeG:Opens enc Tryz.prog W base spare held 3 (fun n:Int=>[.int .i64 n]) I64:=axM Tryz.underlying3
end
end Item
namespace aY
open Go.RowKit aQ Mem
theorem or_comm(x y:Int):bits .or .u32 x y=bits .or .u32 y x:=by
 unfold bits
 simp only[BitVec.or_comm]
end aY
namespace oG
open aQ
theorem zJ.of_eq{a b:Int}(h:a=b):zJ a b:=h▸zJ.refl a
theorem zJ.sub{a b c d:Int}(h:zJ a b)(k:zJ c d):zJ (a-c) (b-d):=by obtain⟨i,h⟩:=h;obtain⟨j,k⟩:=k;exact⟨i-j,by omega⟩
theorem zJ.mul{a b c d:Int}(h:zJ a b)(k:zJ c d):zJ (a*c) (b*d):=by
 obtain⟨i,h⟩:=h
 obtain⟨j,k⟩:=k
 exact⟨i*d+b*j+2305843009213693951*(i*j),by subst h k;grind⟩
theorem zJ.mod(a:Int):zJ (a%2305843009213693951) a:=⟨-(a/2305843009213693951),by omega⟩
theorem apx{a b:Int}:zJ a b↔a%2305843009213693951=b%2305843009213693951:=by
 constructor
 ·rintro⟨k,h⟩;omega
 ·intro h;exact⟨a/2305843009213693951-b/2305843009213693951,by omega⟩
theorem ais{a:Int}:zJ a 0↔a%2305843009213693951=0:=by rw[apx];simp
theorem apy{a b:Int}(h:zJ a b)(a0:0<=a)(a1:a<2305843009213693951)(b0:0<=b)(b1:b<2305843009213693951):a=b:=by
 obtain⟨k,h⟩:=h;omega
theorem apz{a b:Int}(h:zJ (a*b) 0)(ha:¬zJ a 0):zJ b 0:=by
 apply Classical.byContradiction
 intro hb
 rw[ais]at h ha hb
 exact axK a b ha hb h
theorem ajK(a b:Int):zJ (Jh a b) (a+b):=zJ.mod _
theorem ajR(a b:Int):zJ (aa3 a b) (a-b):=zJ.mod _
theorem af5(a b:Int):zJ (Dx a b) (a*b):=zJ.mod _
def Poly:Nat->(Int->Int)->Prop
 |0,f=>∀x,zJ (f x) 0
 |n+1,f=>∀r,∃g,Poly n g/\∀x,zJ (f x) ((x-r)*g x+f r)
theorem aj3:∀{n:Nat} {f h:Int->Int},(∀x,zJ (h x) (f x))->Poly n f->Poly n h:=by
 intro n f h hh hp
 cases n with
 |zero=>exact fun x=>(hh x).trans (hp x)
 |succ n=>
  intro r
  obtain⟨g,hg,hx⟩:=hp r
  exact⟨g,hg,fun x=>(hh x).trans ((hx x).trans ((zJ.refl _).add (hh r).symm))⟩
theorem axR:∀{n:Nat} {f:Int->Int},Poly n f->Poly (n+1) f:=by
 intro n
 induction n with
 |zero=>
  intro f hp r
  exact⟨fun _=>0,fun _=>zJ.refl 0,fun x=>(hp x).trans ((zJ.of_eq (by simp)).trans ((zJ.refl _).add (hp r).symm))⟩
 |succ n ih=>
  intro f hp r
  obtain⟨g,hg,hx⟩:=hp r
  exact⟨g,ih hg,hx⟩
theorem apA:∀{n:Nat} {f h:Int->Int},Poly n f->Poly n h->Poly n (fun x=>f x+h x):=by
 intro n
 induction n with
 |zero=>intro f h hf hh x;exact((hf x).add (hh x)).trans (zJ.of_eq (by simp))
 |succ n ih=>
  intro f h hf hh r
  obtain⟨g1,k1,x1⟩:=hf r
  obtain⟨g2,k2,x2⟩:=hh r
  exact⟨_,ih k1 k2,fun x=>((x1 x).add (x2 x)).trans (zJ.of_eq (by grind))⟩
theorem apB(c:Int):∀{n:Nat} {f:Int->Int},Poly n f->Poly n (fun x=>c*f x):=by
 intro n
 induction n with
 |zero=>intro f hf x;exact((zJ.refl c).mul (hf x)).trans (zJ.of_eq (by simp))
 |succ n ih=>
  intro f hf r
  obtain⟨g,k,hx⟩:=hf r
  exact⟨_,ih k,fun x=>((zJ.refl c).mul (hx x)).trans (zJ.of_eq (by grind))⟩
theorem ax0{n:Nat}{f h:Int->Int}(hf:Poly n f)(hh:Poly n h):Poly n (fun x=>f x-h x):=
 aj3 (fun x=>zJ.of_eq (by grind)) (apA hf (apB (-1) hh))
theorem apR(s c:Int):∀{n:Nat} {f:Int->Int},Poly n f->Poly (n+1) (fun x=>(x-s)*f x+c):=by
 intro n f hf
 cases n with
 |zero=>
  intro r
  refine⟨fun _=>0,fun _=>zJ.refl 0,fun x=> ?_⟩
  have h1:zJ ((x-s)*f x+c) ((x-s)*0+c):=((zJ.refl _).mul (hf x)).add (zJ.refl c)
  have h2:zJ ((r-s)*f r+c) ((r-s)*0+c):=((zJ.refl _).mul (hf r)).add (zJ.refl c)
  exact h1.trans ((zJ.of_eq (by grind)).trans ((zJ.refl _).add h2.symm))
 |succ n=>
  intro r
  obtain⟨g,hg,hx⟩:=hf r
  refine⟨fun x=>f x+(r-s)*g x,apA hf (axR (apB (r-s) hg)),fun x=> ?_⟩
  have h1:zJ ((x-s)*f x+c) ((x-r)*f x+(r-s)*((x-r)*g x+f r)+c):=
   (zJ.of_eq (show(x-s)*f x+c=(x-r)*f x+(r-s)*f x+c by grind)).trans (((zJ.refl _).add ((zJ.refl _).mul (hx x))).add (zJ.refl c))
  exact h1.trans (zJ.of_eq (by grind))
theorem ax1:∀{n:Nat} {f:Int->Int} (l:List Int),Poly n f->n<=l.length->l.Pairwise (fun a b=>¬zJ a b)->(∀r∈l,zJ (f r) 0)->∀x,zJ (f x) 0:=by
 intro n
 induction n with
 |zero=>intro f l hp _ _ _ x;exact hp x
 |succ n ih=>
  intro f l hp hl hd hr x
  match l,hl,hd,hr with
  |r::rs,hl,hd,hr=>
   obtain⟨g,hg,hx⟩:=hp r
   have hr0:=hr r (by simp)
   rw[List.pairwise_cons]at hd
   have hg0:∀s∈rs,zJ (g s) 0:=by
    intro s hs
    have h1:zJ ((s-r)*g s+f r) 0:=(hx s).symm.trans (hr s (by simp[hs]))
    have h2:zJ ((s-r)*g s) 0:=(zJ.of_eq (show(s-r)*g s=(s-r)*g s+f r-f r by grind)).trans ((h1.sub hr0).trans (zJ.of_eq (by simp)))
    refine apz h2 fun h3=>hd.1 s hs ?_
    obtain⟨k,h3⟩:=h3
    exact⟨-k,by omega⟩
   have h4:=ih rs hg (by simpa using hl) hd.2 hg0 x
   have h5:zJ ((x-r)*g x+f r) ((x-r)*0+0):=((zJ.refl _).mul h4).add hr0
   exact(hx x).trans (h5.trans (zJ.of_eq (by simp)))
theorem ax3{n:Nat}{f h:Int->Int}(l:List Int)(hf:Poly n f)(hh:Poly n h)(hl:n<=l.length)(hd:l.Pairwise (fun a b=>¬zJ a b))(hr:∀r∈l,zJ (f r) (h r))(x:Int):zJ (f x) (h x):=by
 have h1:=ax1 l (ax0 hf hh) hl hd (fun r hm=>((hr r hm).sub (zJ.refl _)).trans (zJ.of_eq (by simp))) x
 exact(zJ.of_eq (show f x=f x-h x+h x by grind)).trans ((h1.add (zJ.refl _)).trans (zJ.of_eq (by simp)))
def val:List (Int×Int)->Int->Int
 |[],_=>0
 |s::r,x=>Jh (Dx (val r x) (aa3 x s.1)) s.2
theorem aiC(s:Int×Int)(r:List (Int×Int))(x:Int):zJ (val (s::r) x) ((x-s.1)*val r x+s.2):=
 (ajK _ _).trans (((af5 _ _).trans (((zJ.refl _).mul (ajR _ _)).trans (zJ.of_eq (Int.mul_comm _ _)))).add (zJ.refl _))
theorem ax5(l:List (Int×Int))(x:Int):0<=val l x/\val l x<2305843009213693951:=by
 cases l with
 |nil=>exact⟨Int.le_refl _,show(0:Int)<2305843009213693951 by decide⟩
 |cons s r=>exact zN _ (by decide)
theorem ax8:∀l:List (Int×Int),Poly l.length (val l):=by
 intro l
 induction l with
 |nil=>exact fun x=>zJ.refl 0
 |cons s r ih=>exact aj3 (aiC s r) (apR s.1 s.2 ih)
def abX:List (Int×Int)->Int->Int
 |[],_=>1
 |s::r,x=>(x-s.1)*abX r x
theorem ap0(s:Int×Int)(x:Int):∀l:List (Int×Int),zJ (val (l++[s]) x) (val l x+s.2*abX l x):=by
 intro l
 induction l with
 |nil=>
  refine(aiC s [] x).trans (zJ.of_eq ?_)
  simp[val,abX]
 |cons t r ih=>
  have h1:=aiC t (r++[s]) x
  have h2:=aiC t r x
  have h3:zJ ((x-t.1)*val (r++[s]) x+t.2) ((x-t.1)*(val r x+s.2*abX r x)+t.2):=((zJ.refl _).mul ih).add (zJ.refl _)
  refine h1.trans (h3.trans ?_)
  refine(zJ.of_eq (show _=((x-t.1)*val r x+t.2)+s.2*((x-t.1)*abX r x) by grind)).trans ?_
  exact h2.symm.add (zJ.refl _)
theorem ayi(x:Int):∀l:List (Int×Int),(∃s∈l,s.1=x)->abX l x=0:=by
 intro l
 induction l with
 |nil=>rintro⟨s,h,_⟩;cases h
 |cons t r ih=>
  rintro⟨s,h,hx⟩
  rcases List.mem_cons.1 h with rfl|h
  ·subst hx;simp[abX]
  ·simp[abX,ih ⟨s,h,hx⟩]
theorem aql(x:Int):∀l:List (Int×Int),(∀s∈l,¬zJ x s.1)->¬zJ (abX l x) 0:=by
 intro l
 induction l with
 |nil=>
  intro _ h
  rw[ais]at h
  exact absurd h (by show¬(1:Int)%2305843009213693951=0;decide)
 |cons t r ih=>
  intro h hz
  refine ih (fun s hs=>h s (by simp[hs])) (apz hz fun h3=>h t (by simp) ?_)
  obtain⟨k,h3⟩:=h3
  exact⟨k,by omega⟩
def abn(l:List (Int×Int))(x:Int):Int:=l.foldl (fun a s=>Dx a (aa3 x s.1)) 1
theorem ayl(x:Int):∀(l:List (Int×Int)) (a:Int),zJ (l.foldl (fun a s=>Dx a (aa3 x s.1)) a) (a*abX l x):=by
 intro l
 induction l with
 |nil=>intro a;exact zJ.of_eq (by simp[abX])
 |cons t r ih=>
  intro a
  refine(ih _).trans ?_
  exact(((af5 _ _).trans ((zJ.refl _).mul (ajR _ _))).mul (zJ.refl _)).trans (zJ.of_eq (by simp[abX];grind))
theorem aqy(l:List (Int×Int))(x:Int):zJ (abn l x) (abX l x):=(ayl x l 1).trans (zJ.of_eq (by simp))
def adG(l:List (Int×Int))(s:Int×Int):List (Int×Int):=l++[(s.1,Dx (aa3 s.2 (val l s.1)) (acQ (abn l s.1)))]
def interp(l:List (Int×Int)):List (Int×Int):=l.foldl adG []
def adV(l:List (Int×Int)):Prop:=l.Pairwise fun a b=>¬zJ a.1 b.1
theorem aym(l:List (Int×Int))(s:Int×Int):(adG l s).length=l.length+1:=by simp[adG]
theorem ayt(l:List (Int×Int))(s:Int×Int):(adG l s).map Prod.fst=l.map Prod.fst++[s.1]:=by simp[adG]
theorem ayu(l:List (Int×Int))(s:Int×Int)(h:∀t∈l,¬zJ s.1 t.1):zJ (val (adG l s) s.1) s.2:=by
 have h1:=ap0 (s.1,Dx (aa3 s.2 (val l s.1)) (acQ (abn l s.1))) s.1 l
 have hne:=aql s.1 l h
 have hpi:=aqy l s.1
 have hne2:abn l s.1%2305843009213693951≠0:=fun h0=>hne (hpi.symm.trans (ais.2 h0))
 have hinv:zJ (abn l s.1*acQ (abn l s.1)) 1:=apx.2 (by rw[axL _ hne2];decide)
 have h2:zJ (Dx (aa3 s.2 (val l s.1)) (acQ (abn l s.1))*abX l s.1) ((s.2-val l s.1)*1):=by
  refine(((af5 _ _).trans ((ajR _ _).mul (zJ.refl _))).mul hpi.symm).trans ?_
  exact(zJ.of_eq (show _=(s.2-val l s.1)*(abn l s.1*acQ (abn l s.1)) by grind)).trans ((zJ.refl _).mul hinv)
 exact h1.trans (((zJ.refl _).add h2).trans (zJ.of_eq (by grind)))
theorem ayx(l:List (Int×Int))(s t:Int×Int)(h:∃u∈l,u.1=t.1):zJ (val (adG l s) t.1) (val l t.1):=by
 have h1:=ap0 (s.1,Dx (aa3 s.2 (val l s.1)) (acQ (abn l s.1))) t.1 l
 rw[ayi t.1 l h]at h1
 exact h1.trans (zJ.of_eq (by simp))
theorem aqz:∀(l done acc:List (Int×Int)),acc.map Prod.fst=done.map Prod.fst->(∀s∈done,zJ (val acc s.1) s.2)->adV (done++l)->
 (l.foldl adG acc).map Prod.fst=(done++l).map Prod.fst/\∀s∈done++l,zJ (val (l.foldl adG acc) s.1) s.2:=by
 intro l
 induction l with
 |nil=>intro done acc hf hv hd;rw[List.append_nil];exact⟨hf,hv⟩
 |cons s r ih=>
  intro done acc hf hv hd
  have hd':adV ((done++[s])++r):=by simpa using hd
  have hmem:∀t∈acc,∃u∈done,u.1=t.1:=by
   intro t ht
   have h1:t.1∈done.map Prod.fst:=hf▸List.mem_map_of_mem ht
   obtain⟨u,hu,he⟩:=List.mem_map.1 h1
   exact⟨u,hu,he⟩
  have ayL:∀t∈done,∃u∈acc,u.1=t.1:=by
   intro t ht
   have h1:t.1∈acc.map Prod.fst:=hf.symm▸List.mem_map_of_mem ht
   obtain⟨u,hu,he⟩:=List.mem_map.1 h1
   exact⟨u,hu,he⟩
  have hnew:∀t∈acc,¬zJ s.1 t.1:=by
   intro t ht he
   obtain⟨u,hu,hut⟩:=hmem t ht
   have:=(List.pairwise_append.1 hd).2.2 u hu s (by simp)
   exact this (by rw[hut];exact he.symm)
  have h:=ih (done++[s]) (adG acc s) (by rw[ayt,hf];simp) (by
   intro t ht
   rcases List.mem_append.1 ht with ht|ht
   ·exact(ayx acc s t (ayL t ht)).trans (hv t ht)
   ·simp at ht
    subst ht
    exact ayu acc t hnew) hd'
  simpa using h
theorem aqA(l:List (Int×Int))(hd:adV l):(interp l).map Prod.fst=l.map Prod.fst:=by
 exact(aqz l [] [] rfl (by simp) (by simpa using hd)).1
theorem ayM(l:List (Int×Int))(hd:adV l):(interp l).length=l.length:=by
 have:=congrArg List.length (aqA l hd)
 simpa using this
theorem ayN(l:List (Int×Int))(hd:adV l)(s:Int×Int)(h:s∈l):zJ (val (interp l) s.1) s.2:=by
 exact(aqz l [] [] rfl (by simp) (by simpa using hd)).2 s h
theorem ayQ(l:List (Int×Int))(hd:adV l){f:Int->Int}(hf:Poly l.length f)(h:∀s∈l,zJ (f s.1) s.2)(x:Int):zJ (val (interp l) x) (f x):=by
 have h1:=ax8 (interp l)
 rw[ayM l hd]at h1
 refine ax3 (l.map Prod.fst) h1 hf (by simp) (List.pairwise_map.2 hd) (fun r hr=> ?_) x
 obtain⟨s,hs,rfl⟩:=List.mem_map.1 hr
 exact(ayN l hd s hs).trans (h s hs).symm
end oG
namespace oG
open Go.RowKit aQ Mem
theorem ayR(l:List (Int×Int))(j:Nat)(h:j<l.length)(x:Int):val (l.drop j) x=Jh (Dx (val (l.drop (j+1)) x) (aa3 x l[j].1)) l[j].2:=by
 rw[List.drop_eq_getElem_cons h]
 rfl
theorem Pr.held{w0 w:World}{b i j:Nat}{u v:Int}(h:Pr w0 w b i j u v):w.cell? ⟨b,i,none⟩=some (.int .i64 u)/\w.cell? ⟨b,j,none⟩=some (.int .i64 v)/\Pr w0 w b i j u v:=⟨h.2.2.1,h.2.2.2,h⟩
theorem Pr.step{w0 w w':World}{b i j:Nat}{u v:Int}(h:w.cell? ⟨b,i,none⟩=some (.int .i64 u)/\w.cell? ⟨b,j,none⟩=some (.int .i64 v)/\Pr w0 w b i j u v)(hq:Q w w'):w'.cell? ⟨b,i,none⟩=some (.int .i64 u)/\w'.cell? ⟨b,j,none⟩=some (.int .i64 v)/\Pr w0 w' b i j u v:=(h.2.2.q hq).held
theorem ayU(A:Option Addr)(c:Nat)(l:List (Int×Int))(x:Int)(w:World)(hS:RX w A l)(hn:l.length<=140737488355328):
 Calls Tryz.prog 118 #[.slice A l.length c, .int .i64 x] w fun e w'=>e= .returned (.int .i64 (val l x))/\Q w w':=by
 go_enter Tryz.func118,Tryz.ntmps118
 go_wp2_with fail
 go_loopw [5,6] (fun y i wr=>∃(k:Int),i= .int .i64 k/\ -1<=k/\k<l.length/\y= .int .i64 (val (l.drop (k+1).toNat) x)/\Q w wr) (fun _ i _=>(intOf i+1).toNat)
 case atStart=>
  refine⟨(l.length:Int)-1,rfl,by omega,by omega,?_,Q.refl _⟩
  have:((l.length:Int)-1+1).toNat=l.length:=by omega
  rw[this,List.drop_length]
  rfl
 case round=>
  obtain⟨k,rfl,hk0,hk,rfl,hq⟩:=hrel
  by_cases h0:0<=k
  ·have hj:k.toNat<l.length:=by omega
   obtain⟨b,o,rfl,hb,hc⟩:=(hS.q hq) (by omega)
   obtain⟨c0,c1⟩:=hc k.toNat hj
   have hv:=ayR l k.toNat hj x
   have e1:(k+1).toNat=k.toNat+1:=by omega
   have e2:(k-1+1).toNat=k.toNat:=by omega
   have hP:Pr w wr b (o+k.toNat*2) (o+k.toNat*2+1) l[k.toNat].1 l[k.toNat].2:=⟨hb,hq,c0,c1⟩
   have hv':val (l.drop (k-1+1).toNat) x=Jh (Dx (val (l.drop (k+1).toNat) x) (aa3 x l[k.toNat].1)) l[k.toNat].2:=by rw[e2,e1];exact hv
   have HV:=Lib.hid hv'
   clear hv hv' e1 e2 hc
   generalize l[k.toNat].1=X at*
   generalize l[k.toNat].2=Y at*
   generalize val (l.drop (k+1).toNat) x=V at*
   go_wp2_with fail
   go_region_held3 (fun w'=>w'.cell? ⟨b,o+k.toNat*2,none⟩=some (.int .i64 X)/\w'.cell? ⟨b,o+k.toNat*2+1,none⟩=some (.int .i64 Y)/\Pr w w' b (o+k.toNat*2) (o+k.toNat*2+1) X Y)
    (first|exact(hP.q (Q.refl _).drew).held|(with_reducible assumption)|exact Pr.step (by assumption) hq)
    (first
      |(go_at_call 178;refine(ajG _ _ _).mono ?_;rintro e w' ⟨rfl,rfl⟩)
      |(go_at_call 75;refine(Xt _ _ _).mono ?_;rintro e w' ⟨rfl,hq⟩)
      |(go_at_call 105;refine(aco _ _ _).mono ?_;rintro e w' ⟨rfl,rfl⟩))
   all_goals
    go_wp2
    exact⟨⟨k-1,rfl,by omega,by omega,by rw[HV.out],by rename_i hh;exact hh.2.2.2.1⟩,by simp only[intOf];omega⟩
  ·obtain rfl:k= -1:=by omega
   go_wp2
   go_ret
   exact⟨rfl,hq⟩
end oG
namespace oG
open Go.RowKit aQ Mem
theorem aqR:∀l:List (Int×Int),(cells2 l).length=l.length*2:=by
 intro l
 induction l with
 |nil=>rfl
 |cons s r ih=>simp[cells2,ih];omega
theorem ayY:∀(a r:List (Int×Int)) (s:Int×Int) (c:Int),(cells2 (a++s::r)).set (a.length*2+1) (.int .i64 c)=cells2 (a++(s.1,c)::r):=by
 intro a
 induction a with
 |nil=>intro r s c;rfl
 |cons t a ih=>
  intro r s c
  rw[List.length_cons,show(a.length+1)*2+1=a.length*2+1+1+1 by omega]
  simp only[List.cons_append,cells2,List.set_cons_succ]
  rw[ih]
theorem ayZ(l:List (Int×Int)):∀v∈cells2 l,v.oneCell'=true:=by
 induction l with
 |nil=>intro v h;cases h
 |cons s r ih=>
  intro v h
  rw[cells2,List.mem_cons,List.mem_cons]at h
  rcases h with rfl|rfl|h
  ·rfl
  ·rfl
  ·exact ih v h
theorem ay0:∀(l acc:List (Int×Int)),(l.foldl adG acc).length=acc.length+l.length:=by
 intro l
 induction l with
 |nil=>intro acc;rfl
 |cons s r ih=>intro acc;rw[List.foldl_cons,ih,aym,List.length_cons];omega
theorem af7(l:List (Int×Int)):(interp l).length=l.length:=by
 have:=ay0 l []
 rw[List.length_nil,Nat.zero_add]at this
 exact this
def aa8(l:List (Int×Int))(k:Nat):List (Int×Int):=interp (l.take k)++l.drop k
theorem ay2(l:List (Int×Int)):aa8 l l.length=interp l:=by simp[aa8]
theorem arb(l:List (Int×Int))(k:Nat)(h:k<l.length):aa8 l k=interp (l.take k)++l[k]::l.drop (k+1):=by
 unfold aa8
 rw[List.drop_eq_getElem_cons h]
theorem azh(l:List (Int×Int))(k:Nat)(h:k<l.length):interp (l.take (k+1))=adG (interp (l.take k)) l[k]:=by
 unfold interp
 rw[List.take_succ_eq_append_getElem h,List.foldl_append]
 rfl
def coeff(l:List (Int×Int))(k:Nat)(h:k<l.length):Int:=Dx (aa3 l[k].2 (val (interp (l.take k)) l[k].1)) (acQ (abn (interp (l.take k)) l[k].1))
theorem azi(l:List (Int×Int))(k:Nat)(h:k<l.length):(cells2 (aa8 l k)).set (k*2+1) (.int .i64 (coeff l k h))=cells2 (aa8 l (k+1)):=by
 have hl:(interp (l.take k)).length=k:=by rw[af7,List.length_take];omega
 have h1:=ayY (interp (l.take k)) (l.drop (k+1)) l[k] (coeff l k h)
 rw[hl]at h1
 rw[arb l k h,h1]
 unfold aa8
 rw[azh l k h]
 unfold adG coeff
 simp
theorem azj(l:List (Int×Int))(hd:adV l)(k:Nat)(h:k<l.length):abn (interp (l.take k)) l[k].1%2305843009213693951≠0:=by
 intro h0
 have hdk:adV (l.take k):=List.Pairwise.sublist (List.take_sublist k l) hd
 refine aql l[k].1 (interp (l.take k)) (fun s hs he=> ?_) ((aqy _ _).symm.trans (ais.2 h0))
 have h1:s.1∈(interp (l.take k)).map Prod.fst:=List.mem_map_of_mem hs
 rw[aqA _ hdk]at h1
 obtain⟨u,hu,hus⟩:=List.mem_map.1 h1
 obtain⟨i,hi,rfl⟩:=List.getElem_of_mem hu
 have hik:i<k:=by rw[List.length_take]at hi;omega
 have:=(List.pairwise_iff_getElem.1 hd) i k (by omega) h hik
 rw[List.getElem_take]at hus
 exact this (by rw[hus];exact he.symm)
theorem azk{P:Program}(w:World)(dT sT ty elem:TypeId)(size g dLen dCap:Nat)(a:Addr)(sLen sCap:Nat)(cur:Array Value)(t:TypeId)(cs:List Value)
 (hu:P.underlying dT=some (.slice elem)) (hs:(P.info? elem).map (·.size)=some size)
 (hg:w.heap[g]?=some (.cells cur t (0,0))) (hn:cs.length=Nat.min sLen dLen*size)
 (hsrc:∀j v,cs[j]?=some v->w.cell? (a.add j)=some v) (hfit:cs.length<=cur.size) (h1:∀v∈cs,v.oneCell'=true):
 (Builtin.copy_ #[dT,sT] ty #[.slice (some ⟨g,0,none⟩) dLen dCap, .slice (some a) sLen sCap]).run P w=
   .ok (goInt (Nat.min sLen dLen:Nat)) (w.setRow g (cs++cur.toList.drop cs.length).toArray):=by
 have hl:=run_loadCells_list (P:=P) w a cs hsrc
 have hst:=run_storeCells_at P g 0 t cs 0 cur w hg (by simpa using hfit) h1
 cases hq:P.info? elem with
 |none=>simp[hq]at hs
 |some i=>
  have hi:i.size=size:=by simpa[hq]using hs
  simp[Builtin.copy_,run_underlying hu,Builtin.lenOf,Builtin.firstCells,sizeOf,typeInfo,hq,hi,<-hn,hl,hst]
end oG
namespace oG
open Go.RowKit aQ Mem
open Sign (aO)
theorem Frm.held{w0 w:World}{g gs:Nat}{cs:Array Value}{X Y:Int}(h:Frm w0 w g gs cs X Y):w.cell? ⟨gs,0,none⟩=some (.int .i64 X)/\w.cell? ⟨gs,1,none⟩=some (.int .i64 Y):=⟨h.2.2.cell 0,h.2.2.cell 1⟩
theorem Frm.at{w0 w:World}{g gs:Nat}{cs:List Value}{X Y:Int}{i:Nat}{v:Value}(h:Frm w0 w g gs cs.toArray X Y)(hv:cs[i]?=some v):w.cell? ⟨g,i,none⟩=some v/\w.frozen? ⟨g,i,none⟩=false:=by
 refine⟨?_,h.2.1.frozen i⟩
 rw[h.2.1.cell,List.getElem?_toArray]
 exact hv
theorem arh(A:Option Addr)(n c:Nat)(l:List (Int×Int))(x:Int)(w:World)(hn':l.length=n)(hS:RX w A l)(hn:n<=140737488355328):
 Calls Tryz.prog 118 #[.slice A n c, .int .i64 x] w fun e w'=>e= .returned (.int .i64 (val l x))/\Q w w':=by
 subst hn'
 exact ayU A c l x w hS hn
theorem RX.news{w:World}{b o:Nat}{l:List (Int×Int)}(h:RX w (some ⟨b,o,none⟩) l)(h0:0<l.length):∀j v,(cells2 l)[j]?=some v->w.cell? ((⟨b,o,none⟩:Addr).add j)=some v:=by
 obtain⟨b',o',e,hb,hc⟩:=h h0
 cases e
 intro j v hv
 have hadd:(⟨b,o,none⟩:Addr).add j=⟨b,o+j,none⟩:=by unfold Addr.add;split<;>simp_all
 have hj:j<l.length*2:=aqR l▸(List.getElem?_eq_some_iff.1 hv).1
 rw[hadd]
 obtain⟨i,rfl|rfl⟩:∃i,j=i*2∨j=i*2+1:=⟨j/2,by omega⟩
 ·rw[avA l i (by omega)]at hv
  rw[(hc i (by omega)).1,hv]
 ·rw[avC l i (by omega)]at hv
  rw[<-Nat.add_assoc,(hc i (by omega)).2,hv]
theorem azl(x:Int)(m:List (Int×Int))(j:Nat)(h:j<m.length):(m.take (j+1)).foldl (fun a s=>Dx a (aa3 x s.1)) 1=Dx ((m.take j).foldl (fun a s=>Dx a (aa3 x s.1)) 1) (aa3 x (m.getD j (0,0)).1):=by
 rw[List.take_succ_eq_append_getElem h,List.foldl_append,List.getD_eq_getElem?_getD,List.getElem?_eq_getElem h]
 rfl
theorem azm(l:List (Int×Int))(k j:Nat)(hk:k<=l.length)(h:j<k):(aa8 l k)[j]?=some ((interp (l.take k)).getD j (0,0)):=by
 have hml:(interp (l.take k)).length=k:=by rw[af7,List.length_take];omega
 unfold aa8
 rw[List.getElem?_append_left (by omega),List.getD_eq_getElem?_getD,List.getElem?_eq_getElem (by omega)]
 rfl
theorem azn(F:List (Int×Int))(j:Nat)(u:Int×Int)(h:F[j]?=some u):(cells2 F)[j*2]?=some (.int .i64 u.1)/\(cells2 F)[j*2+1]?=some (.int .i64 u.2):=by
 obtain⟨hj,rfl⟩:=List.getElem?_eq_some_iff.1 h
 exact⟨avA F j hj,avC F j hj⟩
theorem azo(b o c:Nat)(l:List (Int×Int))(w:World)(hS:RX w (some ⟨b,o,none⟩) l)(h0:0<l.length)(hn:l.length<=1000000)(hd:adV l):
 Calls Tryz.prog 119 #[.slice (some ⟨b,o,none⟩) l.length c] w fun e w'=>∃g,e= .returned (.slice (some ⟨g,0,none⟩) l.length l.length)/\ah w' g 72 (cells2 (interp l)).toArray/\Q w w':=by
 obtain⟨i0,hi,hz0,hz1,hz2⟩:=info_parts avD
 obtain⟨w1,hmk,hown,hgr⟩:=run_makeSlice_full (P:=Tryz.prog) w w.heap.size 70 72 i0 _ 2 Tryz.underlying70 hi hz0 hz1 .i64 .i64 l.length (by omega) (by rw[hz2];omega) (by simp only[maxLen];omega) (Nat.le_refl _)
 have hq1:Q w w1:=below_grown hgr (Nat.le_refl _) (by intro k hk;cases hk)
 have hsz:(Tryz.prog.info? 72).map (·.size)=some 2:=by rw[hi];simp[hz1]
 rcases hown.2 with⟨hv,_⟩|⟨g',cap,cur,hv,-,hg,hnc,hcm,hcs,-⟩
 ·cases hv
 cases hv
 have hS1:=hS.q hq1
 have hlen:=aqR l
 have hcp:=azk (P:=Tryz.prog) w1 70 70 3 72 2 w.heap.size l.length l.length ⟨b,o,none⟩ l.length c cur 72 (cells2 l) Tryz.underlying70 hsz hg (by rw[hlen];show _=min l.length l.length*2;rw[Nat.min_self]) (hS1.news h0) (by omega) (ayZ l)
 have hcut:(cells2 l++cur.toList.drop (cells2 l).length)=cells2 l:=by
  rw[List.drop_of_length_le (by rw[Array.length_toList];omega),List.append_nil]
 rw[hcut]at hcp
 have hblk:ah (w1.setRow w.heap.size (cells2 l).toArray) w.heap.size 72 (cells2 (aa8 l 0)).toArray:=ah.setRow (show ah w1 w.heap.size 72 cur from hg) _
 have hq2:Q w (w1.setRow w.heap.size (cells2 l).toArray):=Mem.below_setRow hq1 (Nat.le_refl _) _
 generalize w1.setRow w.heap.size (cells2 l).toArray=w2 at*
 clear hcut hg hcs hS1 hown hgr hq1
 go_enter Tryz.func119,Tryz.ntmps119
 go_wp2_with fail
 go_loopw [19] (fun i wr=>∃k:Nat,i= .int .i64 k/\k<=l.length/\ah wr w.heap.size 72 (cells2 (aa8 l k)).toArray/\Q w wr) (fun i _=>l.length-(intOf i).toNat)
 case atStart=>exact⟨0,rfl,Nat.zero_le _,hblk,hq2⟩
 case round=>
  obtain⟨k,rfl,hk,hb,hq⟩:=hrel
  by_cases hlt:k<l.length
  ·obtain⟨b',o',e,hbb,hc⟩:=(hS.q hq) (by omega)
   cases e
   obtain⟨c0,c1⟩:=hc k hlt
   have hpn:=azj l hd k hlt
   have hfs:=azi l k hlt
   have hfh:=arb l k hlt
   have hfl:(aa8 l k).length=l.length:=by unfold aa8;rw[List.length_append,af7,List.length_take,List.length_drop];omega
   have hml:(interp (l.take k)).length=k:=by rw[af7,List.length_take];omega
   have hco:coeff l k hlt=Dx (aa3 l[k].2 (val (interp (l.take k)) l[k].1)) (acQ (abn (interp (l.take k)) l[k].1)):=rfl
   have hX1:∀j,j<k->(cells2 (aa8 l k))[j*2]?=some (.int .i64 ((interp (l.take k)).getD j (0,0)).1)/\(cells2 (aa8 l k))[j*2+1]?=some (.int .i64 ((interp (l.take k)).getD j (0,0)).2):=fun j h=>azn _ j _ (azm l k j hk h)
   have hSh:∀W,ah W w.heap.size 72 (cells2 (aa8 l k)).toArray->RX W (some ⟨w.heap.size,0,none⟩) (interp (l.take k)):=fun W hW=>RX.of hW
   have htc:=avC (aa8 l k) k (by omega)
   generalize (aa8 l k)[k].2=aAB at htc
   generalize hcf:coeff l k hlt=cf at*
   generalize l[k].1=X at*
   generalize l[k].2=Y at*
   generalize interp (l.take k)=M at*
   generalize aa8 l k=F at*
   have HFS:=Lib.hid hfs
   have HCO:=Lib.hid hco
   have HX1:=Lib.hid hX1
   have HSH:=Lib.hid hSh
   clear hfs hco hX1 hSh hfh hc hcf
   have hF:Frm w (wr.alloc (.cells #[.int .i64 X, .int .i64 Y] 72)) w.heap.size wr.heap.size (cells2 F).toArray X Y:=⟨Below.alloc hq hq.size _,hb.alloc _,ah.new wr _ _⟩
   go_wp2_with fail
   go_loopw [6,28] (fun p i wr2=>∃j:Nat,i= .int .i64 j/\j<=k/\p= .int .i64 ((M.take j).foldl (fun a s=>Dx a (aa3 X s.1)) 1)/\Frm w wr2 w.heap.size wr.heap.size (cells2 F).toArray X Y) (fun _ i _=>k-(intOf i).toNat)
   case atStart=>exact⟨0,rfl,Nat.zero_le _,rfl,hF⟩
   case round=>
    obtain⟨j,rfl,hj,rfl,hF⟩:=hrel
    by_cases hlt2:j<k
    ·obtain⟨x1,x2⟩:=HX1.out j hlt2
     have ca:=(hF.at x1).1
     have cb:=(hF.at x2).1
     have hst:=azl X M j (by omega)
     generalize (M.getD j (0,0)).1=u1 at*
     generalize (M.getD j (0,0)).2=u2 at*
     have HST:=Lib.hid hst
     clear hst x1 x2
     generalize (M.take j).foldl (fun a s=>Dx a (aa3 X s.1)) 1=PP at*
     have hF2:=hF.q (aO _ #[.int .i64 u1, .int .i64 u2] 72)
     obtain⟨s0,s1⟩:=hF2.held
     go_wp2_with fail
     refine(ajG _ _ _).mono ?_
     rintro e w4 ⟨rfl,rfl⟩
     go_wp2_with fail
     refine(Xt _ _ _).mono ?_
     rintro e w5 ⟨rfl,hq5⟩
     go_wp2
     exact⟨⟨j+1,by go_num,by omega,by rw[HST.out],hF2.q hq5⟩,by simp only[intOf];omega⟩
    ·have hpr:(M.take j).foldl (fun a s=>Dx a (aa3 X s.1)) 1=abn M X:=by
      rw[show j=M.length by omega,List.take_length]
      rfl
     rw[hpr]
     clear hpr
     generalize abn M X=PP at*
     go_wp2_with fail
     refine(axJ _ _ hpn).mono ?_
     rintro e w5 ⟨rfl,hq5⟩
     have hF:=hF.q hq5
     have hFd:=hF.q (Q.refl w5).drew
     obtain⟨s0,s1⟩:=hF.held
     obtain⟨t0,t1⟩:=hF.at htc
     go_wp2_with fail
     go_region_with (first
      |(go_at_call 118;refine(arh _ _ _ M _ _ hml (HSH.out _ hFd.2.1) (by omega)).mono ?_;rintro e w' ⟨rfl,hq⟩;have hX2:=Frm.q hFd hq;obtain⟨hcx,hcy⟩:=hX2.held;obtain⟨hct,hft⟩:=hX2.at htc)
      |(go_at_call 178;refine(ajG _ _ _).mono ?_;rintro e w' ⟨rfl,rfl⟩)
      |(go_at_call 75;refine(Xt _ _ _).mono ?_;rintro e w' ⟨rfl,hq⟩;have hX2:=Frm.q (by with_reducible assumption) hq;obtain⟨hcx,hcy⟩:=hX2.held;obtain⟨hct,hft⟩:=hX2.at htc))
     all_goals
      have hfin:=hX2.2.1.Dq (k*2+1) (.int .i64 cf)
      rw[List.setIfInBounds_toArray,HFS.out,HCO.out]at hfin
      have bD:=Below.setCell hX2.1 (p:=⟨w.heap.size,k*2+1,none⟩) (Nat.le_refl _) (.int .i64 (Dx (aa3 Y (val M X)) (acQ PP)))
      go_wp2
      exact⟨⟨k+1,by go_num,by omega,hfin,bD⟩,by simp only[intOf];omega⟩
  ·obtain rfl:k=l.length:=by omega
   rw[ay2]at hb
   go_wp2
   go_ret
   exact⟨_,rfl,hb,hq⟩
end oG
namespace oG
open Go.RowKit aQ Mem
def aer:List Int->List (Int×Int)->Bool
 |_,[]=>true
 |seen,s::r=>if s.1<1∨2305843009213693951<=s.1∨s.2<0∨2305843009213693951<=s.2∨s.1∈seen then false else aer (s.1::seen) r
def abW(l:List (Int×Int)):Bool:=aer [] l
theorem arD{x:Int}(h0: -9223372036854775808<=x)(h1:x<=9223372036854775807):(Lit.int .i64 x).wf=true:=by
 simp[Lit.wf,IntKind.min,IntKind.max,IntKind.signed,IntKind.bits]
 omega
theorem Seen.made(w:World):Seen (w.alloc (.map #[] 0)) w.heap.size 0 []:=
 ⟨.map [],World.ownsMap_made w _ _ _,⟨[],rfl⟩,fun x=>rfl⟩
theorem azt{H:Type}{P:Program}{t:TypeId}(he:P.underlying t=some .bool){v:Value}{z:DataW H×List MemPlace}(h:plainElem P t v=some z):∃x,v= .bool x/\z.1= .lit (.bool x):=by
 unfold plainElem at h
 rw[he]at h
 cases v<;>simp at h
 subst h
 exact⟨_,rfl,rfl⟩
theorem Seen.look{w:World}{b n:Nat}{seen:List Int}(h:Seen w b n seen)(x:Int)(h0: -9223372036854775808<=x)(h1:x<=9223372036854775807):
 (Instr.lookup 97 (.map (some b)) (.int .i64 x) false).run Tryz.prog w= .ok (.bool (decide (x∈seen))) w:=by
 obtain⟨D,hown,hm,hat⟩:=h
 obtain⟨v,ps,hrun,hv⟩:=hown.lookup (t:=97) (e:=4) (z:= .bool false) (Maps.int_keyed Tryz.underlying3) Tryz.underlying97 (by kernel_rfl) (plainElem_bool Tryz.underlying4 false) (Maps.keyOf_int_mk Tryz.underlying3 (arD h0 h1))
 obtain⟨y,rfl,hy⟩:=azt Tryz.underlying4 hv
 dsimp only at hy
 rw[hat x]at hy
 have:decide (x∈seen)=y:=by injection hy with h;injection h
 rw[hrun,this]
theorem Seen.put{w':World}{b n:Nat}{seen:List Int}{D:DataW Unit}{x:Int}(hm:Maps.IsMap D)(hat:∀y,D.atKey (.int .i64 y) (.lit (.bool false))= .lit (.bool (decide (y∈seen))))
 (hown:w'.ownsMap Tryz.prog 3 (plainElem Tryz.prog 4) b n (D.put (.int .i64 x) (.lit (.bool true)))):Seen w' b n (x::seen):=by
 refine⟨_,hown,?_,fun y=> ?_⟩
 ·obtain⟨es,rfl⟩:=hm
  exact⟨_,rfl⟩
 ·by_cases e:y=x
  ·subst e
   rw[Maps.atKey_put_same hm (show WideAt.IsKeyLit (.int .i64 y)from trivial)]
   simp
  ·rw[Maps.atKey_put_other (by intro h;injection h with _ h;exact e h),hat y]
   simp[e]
theorem azu(A:Option Addr)(c:Nat)(l:List (Int×Int))(w:World)(hS:RX w A l)(hn:l.length<=140737488355328):
 Calls Tryz.prog 117 #[.slice A l.length c] w fun e w'=>e= .returned (.bool (abW l))/\Q w w':=by
 have hmm:= @run_makeMap Tryz.prog
 go_enter Tryz.func117,Tryz.ntmps117
 go_wp2_with fail
 go_loopw [9] (fun i wr=>∃(k n:Nat) (seen:List Int),i= .int .i64 k/\k<=l.length/\n<=k/\abW l=aer seen (l.drop k)/\Seen wr w.heap.size n seen/\Q w wr) (fun i _=>l.length-(intOf i).toNat)
 case atStart=>exact⟨0,0,[],rfl,Nat.zero_le _,Nat.le_refl _,rfl,Seen.made w,Below.alloc (Q.refl w) (Nat.le_refl _) _⟩
 case round=>
  obtain⟨k,n,seen,rfl,hk,hnk,hv,azv,hq⟩:=hrel
  by_cases hlt:k<l.length
  ·obtain⟨b,o,rfl,hb,hc⟩:=(hS.q hq) (by omega)
   obtain⟨c0,c1⟩:=hc k hlt
   rw[List.drop_eq_getElem_cons hlt]at hv
   rw[aer]at hv
   clear hc
   generalize l[k].1=X at*
   generalize l[k].2=Y at*
   have HV:=Lib.hid hv
   clear hv
   have arI:=azv.alloc (.cells #[.int .i64 X, .int .i64 Y] 72)
   by_cases h1:X<1∨2305843009213693951<=X∨Y<0∨2305843009213693951<=Y
   ·have hf:abW l=false:=by rw[HV.out,if_pos (by omega)]
    have HF:=Lib.hid hf
    clear HV hf
    have hcond:(decide (X<1)||decide (2305843009213693951<=X)||decide (Y<0)||decide (2305843009213693951<=Y))=true:=by simp;omega
    go_wp2
    all_goals
     go_ret
     exact⟨by rw[HF.out];rfl,Below.alloc hq hq.size _⟩
   ·have g1:¬X<1:=by omega
    have g2:¬2305843009213693951<=X:=by omega
    have g3:¬Y<0:=by omega
    have g4:¬2305843009213693951<=Y:=by omega
    have hlk:=arI.look X (by omega) (by omega)
    by_cases h5:X∈seen
    ·have hf:abW l=false:=by rw[HV.out,if_pos (by simp[h5])]
     have HF:=Lib.hid hf
     have hd:decide (X∈seen)=true:=by simp[h5]
     rw[hd]at hlk
     clear HV hf
     go_wp2
     all_goals
      go_ret
      exact⟨by rw[HF.out];rfl,Below.alloc hq hq.size _⟩
    ·have hf:abW l=aer (X::seen) (l.drop (k+1)):=by rw[HV.out,if_neg (by simp only[h5,or_false];omega)]
     have HF:=Lib.hid hf
     have hd:decide (X∈seen)=false:=by simp[h5]
     rw[hd]at hlk
     clear HV hf
     obtain⟨D,hown,hm,hat⟩:=arI
     have hkey:=Maps.keyOf_int_mk (P:=Tryz.prog) Tryz.underlying3 (arD (x:=X) (by omega) (by omega))
     go_wp2_with (at_mapUpdate;refine wpList_mapUpdate_own _ rfl _ _ _ 97 rfl 3 4 (Maps.int_keyed Tryz.underlying3) Tryz.underlying97 _ w.heap.size n _ rfl hown (by simp only[maxLen];omega) _ _ _ rfl rfl hkey _ [] (plainElem_bool Tryz.underlying4 true) ?_)
     intro w1 hown1 hgrow1
     have azw:Seen w1 w.heap.size (n+1) (X::seen):=Seen.put hm hat hown1
     have hq1:Q w w1:=Below.trans (Below.alloc hq hq.size _) (below_grown hgrow1 (by have:=hq.size;simp;omega) (fun k e=>by cases e;exact Nat.le_refl _))
     go_wp2
     exact⟨⟨k+1,n+1,X::seen,by go_num,by omega,by omega,HF.out,azw,hq1⟩,by simp only[intOf];omega⟩
  ·have hkl:k=l.length:=by omega
   have hf:abW l=true:=by rw[hv,hkl,List.drop_length];rfl
   have HF:=Lib.hid hf
   clear hv hf
   go_wp2
   go_ret
   exact⟨by rw[HF.out];rfl,hq⟩
end oG
namespace oG
open Go.RowKit aQ Mem
open Sign (aO)
theorem akc:∀(l:List (Int×Int)) (seen:List Int),aer seen l=true->(∀s∈l,1<=s.1/\s.1<2305843009213693951/\0<=s.2/\s.2<2305843009213693951/\s.1∉seen)/\l.Pairwise (fun a b=>a.1≠b.1):=by
 intro l
 induction l with
 |nil=>intro seen _;exact⟨by simp,List.Pairwise.nil⟩
 |cons s r ih=>
  intro seen h
  rw[aer]at h
  split at h
  ·cases h
  ·rename_i hc
   obtain⟨h1,h2⟩:=ih _ h
   refine⟨fun t ht=> ?_,List.pairwise_cons.2 ⟨fun t ht he=>(h1 t ht).2.2.2.2 (by rw[<-he];simp),h2⟩⟩
   rcases List.mem_cons.1 ht with rfl|ht
   ·exact⟨by omega,by omega,by omega,by omega,fun hs=>hc (by simp[hs])⟩
   ·obtain⟨k1,k2,k3,k4,k5⟩:=h1 t ht
    exact⟨k1,k2,k3,k4,fun hs=>k5 (by simp[hs])⟩
theorem arM{l:List (Int×Int)}(h:abW l=true):∀s∈l,1<=s.1/\s.1<2305843009213693951/\0<=s.2/\s.2<2305843009213693951:=fun s hs=>by
 obtain⟨k1,k2,k3,k4,_⟩:=(akc l [] h).1 s hs
 exact⟨k1,k2,k3,k4⟩
theorem asb{l:List (Int×Int)}(h:abW l=true):adV l:=by
 have h1:=(akc l [] h).2
 have h2:=arM h
 unfold adV
 refine List.Pairwise.imp_of_mem (fun ha hb hne he=>hne ?_) h1
 have ka:=h2 _ ha
 have kb:=h2 _ hb
 exact apy he (by omega) (by omega) (by omega) (by omega)
theorem RX.take{w:World}{A:Option Addr}{l:List (Int×Int)}(h:RX w A l)(k:Nat):RX w A (l.take k):=fun h0=>by
 rw[List.length_take]at h0
 obtain⟨b,o,e,hb,hc⟩:=h (by omega)
 refine⟨b,o,e,hb,fun j hj=> ?_⟩
 rw[List.length_take]at hj
 rw[List.getElem_take]
 exact hc j (by omega)
def aeh(l:List (Int×Int))(t:Int):Int×Bool:=if t<1∨(l.length:Int)<t∨abW (l.take t.toNat)=false then(0,false)else(val (interp (l.take t.toNat)) 0,true)
theorem ase(A:Option Addr)(n c:Nat)(l:List (Int×Int))(r:Bool)(w:World)(hn':l.length=n)(hr:abW l=r)(hS:RX w A l)(hn:n<=140737488355328):
 Calls Tryz.prog 117 #[.slice A n c] w fun e w'=>e= .returned (.bool r)/\Q w w':=by
 subst hn' hr
 exact azu A c l w hS hn
theorem azx(b o n c:Nat)(l:List (Int×Int))(w:World)(hn':l.length=n)(hS:RX w (some ⟨b,o,none⟩) l)(h0:0<n)(hn:n<=1000000)(hd:adV l):
 Calls Tryz.prog 119 #[.slice (some ⟨b,o,none⟩) n c] w fun e w'=>∃g,e= .returned (.slice (some ⟨g,0,none⟩) n n)/\ah w' g 72 (cells2 (interp l)).toArray/\Q w w':=by
 subst hn'
 exact azo b o c l w hS h0 hn hd
theorem alr(A:Option Addr)(c:Nat)(l:List (Int×Int))(t:Int)(w:World)(hS:RX w A l)(hlc:l.length<=c)(hcm:c<=maxLen)(hn:l.length<=1000000):
 Calls Tryz.prog 71 #[.slice A l.length c, .int .i64 t] w fun e w'=>e= .returned (.tuple #[.int .i64 (aeh l t).1, .bool (aeh l t).2])/\Q w w':=by
 unfold aeh
 by_cases h1:t<1
 ·rw[if_pos (.inl h1)]
  have e1:decide (t<1)=true:=by simp[h1]
  go_enter Tryz.func71,Tryz.ntmps71
  go_wp2
  go_ret2
  exact⟨rfl,Q.refl _⟩
 ·by_cases h2:(l.length:Int)<t
  ·rw[if_pos (.inr (.inl h2))]
   have e1:decide (t<1)=false:=by simp;omega
   have e2:decide ((l.length:Int)<t)=true:=by simp[h2]
   go_enter Tryz.func71,Tryz.ntmps71
   go_wp2
   go_ret2
   exact⟨rfl,Q.refl _⟩
  ·obtain⟨m,rfl⟩:=Int.eq_ofNat_of_zero_le (show 0<=t by omega)
   have hm0:0<m:=by omega
   have hml:m<=l.length:=by omega
   have hlen:(l.take m).length=m:=by rw[List.length_take];omega
   have htn:((m:Int)).toNat=m:=rfl
   rw[htn]
   have hSt:=hS.take m
   obtain⟨b,o,rfl,hb,-⟩:=hS (by omega)
   have e1:decide ((m:Int)<1)=false:=by simp;omega
   have e2:decide ((l.length:Int)<(m:Int))=false:=by simp;omega
   have b1:(m:Int)<=(c:Int):=by omega
   have b2:(0:Int)<=(m:Int):=by omega
   cases hv:abW (l.take m)with
   |false=>
    rw[if_pos (.inr (.inr rfl))]
    go_enter Tryz.func71,Tryz.ntmps71
    go_wp2_with fail
    refine(ase _ _ _ (l.take m) false _ hlen hv hSt (by omega)).mono ?_
    rintro e w1 ⟨rfl,hq1⟩
    go_wp2
    go_ret2
    exact⟨rfl,hq1⟩
   |true=>
    rw[if_neg (by simp;omega)]
    have hd:=asb hv
    go_enter Tryz.func71,Tryz.ntmps71
    go_wp2_with fail
    refine(ase _ _ _ (l.take m) true _ hlen hv hSt (by omega)).mono ?_
    rintro e w1 ⟨rfl,hq1⟩
    go_wp2_with fail
    refine(azx b o m _ (l.take m) _ hlen (hSt.q hq1) hm0 (by omega) hd).mono ?_
    rintro e w2 ⟨g,rfl,hblk,hq2⟩
    have hSf:RX w2 (some ⟨g,0,none⟩) (interp (l.take m)):=RX.of (m:=[]) (by rw[List.append_nil];exact hblk)
    go_wp2_with fail
    refine(arh _ _ _ (interp (l.take m)) 0 _ (by rw[af7,hlen]) hSf (by omega)).mono ?_
    rintro e w3 ⟨rfl,hq3⟩
    go_wp2
    go_ret2
    exact⟨rfl,Q.trans hq1 (Q.trans hq2 hq3)⟩
end oG
namespace oG
open aQ
theorem azz:∀(l:List (Int×Int)) (seen:List Int),(∀s∈l,1<=s.1/\s.1<2305843009213693951/\0<=s.2/\s.2<2305843009213693951/\s.1∉seen)->l.Pairwise (fun a b=>a.1≠b.1)->aer seen l=true:=by
 intro l
 induction l with
 |nil=>intro seen _ _;rfl
 |cons s r ih=>
  intro seen h hd
  rw[List.pairwise_cons]at hd
  obtain⟨h1,h2,h3,h4,h5⟩:=h s (by simp)
  rw[aer,if_neg (by simp only[h5,or_false];omega)]
  refine ih _ (fun t ht=> ?_) hd.2
  obtain⟨k1,k2,k3,k4,k5⟩:=h t (by simp[ht])
  refine⟨k1,k2,k3,k4,?_⟩
  intro hm
  rcases List.mem_cons.1 hm with e|e
  ·exact hd.1 t ht e.symm
  ·exact k5 e
theorem azA(l:List (Int×Int)):abW l=true↔(∀s∈l,1<=s.1/\s.1<2305843009213693951/\0<=s.2/\s.2<2305843009213693951)/\l.Pairwise (fun a b=>a.1≠b.1):=by
 constructor
 ·intro h
  exact⟨arM h,(akc l [] h).2⟩
 ·rintro⟨h1,h2⟩
  refine azz l [] (fun s hs=> ?_) h2
  obtain⟨k1,k2,k3,k4⟩:=h1 s hs
  exact⟨k1,k2,k3,k4,by simp⟩
theorem azB(l:List (Int×Int))(t:Int)(h1:1<=t)(h2:t<=l.length)(hv:abW (l.take t.toNat)=true):aeh l t=(val (interp (l.take t.toNat)) 0,true):=by
 unfold aeh
 rw[if_neg]
 rw[hv]
 simp
 omega
theorem azC(l:List (Int×Int))(t:Int)(h1:1<=t)(h2:t<=l.length)(hv:abW (l.take t.toNat)=true){f:Int->Int}(hf:Poly t.toNat f)(h:∀s∈l.take t.toNat,zJ (f s.1) s.2):
 ∃v,aeh l t=(v,true)/\zJ v (f 0)/\0<=v/\v<2305843009213693951:=by
 refine⟨_,azB l t h1 h2 hv,?_,ax5 _ _⟩
 have hlt:(l.take t.toNat).length=t.toNat:=by rw[List.length_take];omega
 exact ayQ _ (asb hv) (by rw[hlt];exact hf) h 0
theorem azD:∀cs:List Int,Poly cs.length (hor cs):=by
 intro cs
 induction cs with
 |nil=>exact fun x=>zJ.refl 0
 |cons c r ih=>
  refine aj3 (fun x=> ?_) (apR 0 c ih)
  exact(ajK _ _).trans (((af5 _ _).trans (zJ.of_eq (by rw[Int.mul_comm];simp))).add (zJ.refl _))
theorem azE(s:Int)(seed:ByteArray)(t:Nat)(ht:1<=t):zJ (hor (wK s seed t) 0) s:=by
 obtain⟨n,rfl⟩:∃n,t=n+1:=⟨t-1,by omega⟩
 have h:wK s seed (n+1)=s::(List.range n).map (fun i=>RY s seed (i+1)):=by
  unfold wK
  rw[List.range_succ_eq_map,List.map_cons,List.map_map]
  rfl
 rw[h,hor]
 exact(ajK _ _).trans (((af5 _ _).trans (zJ.of_eq (Int.mul_zero _))).add (zJ.refl _)|>.trans (zJ.of_eq (Int.zero_add _)))
theorem azF(s:Int)(seed:ByteArray)(t:Nat):Poly t (hor (wK s seed t)):=by
 have:=azD (wK s seed t)
 rw[avw]at this
 exact this
structure aex(s:Int)(seed:ByteArray)(t n:Nat)(l:List (Int×Int)):Prop where
 sub:∀p∈l,p∈yH s seed t n
 dist:l.Pairwise fun a b=>a.1≠b.1
theorem aex.valid{s:Int}{seed:ByteArray}{t n:Nat}{l:List (Int×Int)}(h:aex s seed t n l)(hn:n<=64):abW l=true:=
 (azA l).2 ⟨fun p hp=>avN s seed t n hn p (h.sub p hp),h.dist⟩
theorem aex.take{s:Int}{seed:ByteArray}{t n:Nat}{l:List (Int×Int)}(h:aex s seed t n l)(k:Nat):aex s seed t n (l.take k):=
 ⟨fun p hp=>h.sub p (List.mem_of_mem_take hp),List.Pairwise.sublist (List.take_sublist _ _) h.dist⟩
theorem aex.join{s t:Int}{seed:ByteArray}{n:Nat}{l:List (Int×Int)}(h:aex s seed t.toNat n (l.take t.toNat))(hn:n<=64)(ht:1<=t)(hl:t<=l.length)(h0:0<=s)(h1:s<2305843009213693951):aeh l t=(s,true):=by
 obtain⟨v,hv,he,v0,v1⟩:=azC l t ht hl (h.valid hn) (azF s seed t.toNat) (fun p hp=>zJ.of_eq (avM _ _ _ _ p (h.sub p hp)).2.symm)
 rw[hv,apy (he.trans (azE s seed t.toNat (by omega))) v0 v1 h0 h1]
theorem azG(s:Int)(seed:ByteArray)(t n:Nat):(yH s seed t n).Pairwise fun a b=>a.1≠b.1:=by
 unfold yH
 rw[List.pairwise_map]
 refine List.Pairwise.imp ?_ (List.nodup_range (n:=n))
 intro a b hab h
 apply hab
 dsimp only at h
 omega
end oG
end Go.Proofs.YtbemmjnjoabadaaGreatDoor
