/- part 21 -/
import Derived.Test.YtbemmjnjoabadaaGreatDoorK18
import Derived.Test.YtbemmjnjoabadaaGreatDoorK20
set_option linter.unusedVariables false
set_option linter.unusedSimpArgs false
set_option maxHeartbeats 8000000
set_option maxRecDepth 100000
namespace Go.Proofs.YtbemmjnjoabadaaGreatDoor
namespace Rel
open Go.RowKit aQ Mem _root_.Go.Proofs.YtbemmjnjoabadaaGreatDoor.Code aY Sign _root_.Go.Proofs.YtbemmjnjoabadaaGreatDoor.Item _root_.Go.Proofs.YtbemmjnjoabadaaGreatDoor.Known _root_.Go.Proofs.YtbemmjnjoabadaaGreatDoor.bP
structure jV where
 f:List ByteArray
 a:List ByteArray
 b:List ByteArray
 m:List ByteArray
def DU(u:ak)(s:jV):jV:=
 if u.kind==7 then{s with f:=without u.target s.f}
 else if u.kind==8 then{s with a:=without u.target s.a}
 else if u.kind==10 then{s with b:=without u.target s.b}
 else if u.kind==11 then{s with m:=without u.target s.m}
 else s
def xX(c:ay)(i:Nat)(d:ByteArray)(s:jV):jV:=match jF c d with
 |some j=>if decide ((j:Int)<(i:Int))then match c.acts[j]? with
  |some u=>DU u s
  |none=>s
  else s
 |none=>s
def lZ(c:ay)(i:Nat)(x:ak)(s:jV):jV:=
 if x.kind==7 then{s with f:=s.f++[x.target]}
 else if x.kind==8 then{s with a:=s.a++[x.target]}
 else if x.kind==9 then{s with a:=without x.target s.a}
 else if x.kind==10 then⟨without x.target s.f,without x.target s.a,s.b++[x.target],s.m⟩
 else if x.kind==11 then{s with m:=s.m++[x.target]}
 else if x.kind==6 then xX c i x.object s
 else s
def gV(c:ay):Nat->jV
 |0=>⟨[],[],[],[]⟩
 |j+1=>match c.acts[j]? with
  |some x=>lZ c j x (gV c j)
  |none=>gV c j
theorem ape(c:ay)(j:Nat)(h:j<c.acts.length):gV c (j+1)=lZ c j c.acts[j] (gV c j):=by rw[gV,List.getElem?_eq_getElem h]
theorem Yq(d:ByteArray)(l:List ByteArray):(without d l).length<=l.length:=List.length_filter_le _ _
theorem apf(u:ak)(s:jV):(DU u s).a.length<=s.a.length/\(DU u s).b.length<=s.b.length:=by
 unfold DU
 repeat' split
 all_goals exact⟨by first|exact Nat.le_refl _|exact Yq _ _,by first|exact Nat.le_refl _|exact Yq _ _⟩
theorem apg(c:ay)(i:Nat)(d:ByteArray)(s:jV):(xX c i d s).a.length<=s.a.length/\(xX c i d s).b.length<=s.b.length:=by
 unfold xX
 repeat' split
 all_goals first|exact apf _ _|exact⟨Nat.le_refl _,Nat.le_refl _⟩
theorem aph(c:ay)(i:Nat)(x:ak)(s:jV):(lZ c i x s).a.length<=s.a.length+1/\(lZ c i x s).b.length<=s.b.length+1:=by
 have hw:=Yq x.target s.a
 have hu:=apg c i x.object s
 unfold lZ
 repeat' split
 all_goals
  first|omega|(simp only[List.length_append,List.length_cons,List.length_nil];omega)
theorem aew(c:ay):∀j,(gV c j).a.length<=j/\(gV c j).b.length<=j
 |0=>⟨Nat.le_refl _,Nat.le_refl _⟩
 |j+1=>by
  have ih:=aew c j
  rw[gV]
  split
  ·rename_i x _
   have:=aph c j x (gV c j)
   omega
  ·omega
structure iL(h:Nat)(W w:World):Prop where
 low:Below h W w
 size:W.heap.size<=w.heap.size
 blk:∀g,g<W.heap.size->(g<h∨h+4<=g)->w.heap[g]?=W.heap[g]?
theorem iL.refl(h:Nat)(W:World):iL h W W:=⟨Below.refl _ _,Nat.le_refl _,fun _ _ _=>rfl⟩
theorem iL.trans{h:Nat}{u v w:World}(h1:iL h u v)(h2:iL h v w):iL h u w:=⟨h1.low.trans h2.low,Nat.le_trans h1.size h2.size,fun g hg hn=>(h2.blk g (Nat.lt_of_lt_of_le hg h1.size) hn).trans (h1.blk g hg hn)⟩
theorem iL.pV{h:Nat}{v w:World}(hq:Q v w)(hh:h<=v.heap.size):iL h v w:=⟨hq.mono hh,hq.size,fun g hg _=>hq.block g hg⟩
theorem iL.BJ{h b:Nat}{v w:World}(hg:v.grownBy w (some b))(h1:h<=b)(h2:b<h+4)(hs:h<=v.heap.size):iL h v w:=⟨aoT hg h1 hs,hg.size,fun g hl hn=>hg.block g hl (by simp;omega)⟩
theorem iL.cell{h:Nat}{v w:World}(hk:iL h v w){p:Addr}(hp:p.block<v.heap.size)(hn:p.block<h∨h+4<=p.block):w.cell? p=v.cell? p:=by
 unfold World.cell?
 rw[hk.blk p.block hp hn]
theorem iL.JI{h g:Nat}{v w:World}{t:TypeId}{cs:Array Value}(hk:iL h v w)(hb:ah v g t cs)(hn:g<h∨h+4<=g):ah w g t cs:=(hk.blk g hb.lt hn).trans hb
structure Four(h k:Nat)(w:World)(s:jV):Prop where
 f:SSet w h k s.f
 a:SSet w (h+1) k s.a
 b:SSet w (h+2) k s.b
 m:SSet w (h+3) k s.m
theorem Four.q{h k:Nat}{v w:World}{s:jV}(hf:Four h k v s)(hq:Q v w):Four h k w s:=⟨hf.f.q hq,hf.a.q hq,hf.b.q hq,hf.m.q hq⟩
theorem Four.mono{h k m:Nat}{w:World}{s:jV}(hf:Four h k w s)(hm:k<=m):Four h m w s:=⟨hf.f.mono hm,hf.a.mono hm,hf.b.mono hm,hf.m.mono hm⟩
theorem Four.Yr{h k m:Nat}{v w:World}{s:jV}{l:List ByteArray}(hf:Four h k v s)(hm:k<=m)(hg:v.grownBy w (some h))(hn:SSet w h m l):Four h m w {s with f:=l}:=⟨hn,(hf.a.kept hg (by simp)).mono hm,(hf.b.kept hg (by simp)).mono hm,(hf.m.kept hg (by simp)).mono hm⟩
theorem Four.UA{h k m:Nat}{v w:World}{s:jV}{l:List ByteArray}(hf:Four h k v s)(hm:k<=m)(hg:v.grownBy w (some (h+1)))(hn:SSet w (h+1) m l):Four h m w {s with a:=l}:=⟨(hf.f.kept hg (by simp)).mono hm,hn,(hf.b.kept hg (by simp)).mono hm,(hf.m.kept hg (by simp)).mono hm⟩
theorem Four.setB{h k m:Nat}{v w:World}{s:jV}{l:List ByteArray}(hf:Four h k v s)(hm:k<=m)(hg:v.grownBy w (some (h+2)))(hn:SSet w (h+2) m l):Four h m w {s with b:=l}:=⟨(hf.f.kept hg (by simp)).mono hm,(hf.a.kept hg (by simp)).mono hm,hn,(hf.m.kept hg (by simp)).mono hm⟩
theorem Four.DV{h k m:Nat}{v w:World}{s:jV}{l:List ByteArray}(hf:Four h k v s)(hm:k<=m)(hg:v.grownBy w (some (h+3)))(hn:SSet w (h+3) m l):Four h m w {s with m:=l}:=⟨(hf.f.kept hg (by simp)).mono hm,(hf.a.kept hg (by simp)).mono hm,(hf.b.kept hg (by simp)).mono hm,hn⟩
def o9(h:Nat):Array Value:= #[.map (some h), .map (some (h+1)), .map (some (h+2)), .map (some (h+3))]
def JJ(h k:Nat)(s:jV)(w:World)(e:Ending)(w':World):Prop:=e= .returned (.tuple #[])/\Four h k w' s/\iL h w w'
theorem apj(x:Int):(x==7)=true∨((x==7)=false/\(x==8)=true)∨((x==7)=false/\(x==8)=false/\(x==10)=true)∨((x==7)=false/\(x==8)=false/\(x==10)=false/\(x==11)=true)∨((x==7)=false/\(x==8)=false/\(x==10)=false/\(x==11)=false):=by
 cases(x==7)<;>cases(x==8)<;>cases(x==10)<;>cases(x==11)<;>simp
theorem apk(h k:Nat)(s:jV)(u:ak)(w:World)(hF:Four h k w s)(hz:u.target.size<=maxLen):
 Calls Tryz.prog 134 #[.agg (o9 h), .agg (au u)] w (JJ h k (DU u s) w):=by
 obtain⟨w1,x,hx,hq1,hbk⟩:=boxedB w 155 (o9 h).toList
 have hx:w.alloc (.cells (o9 h) 155)=x.w:=hx
 obtain⟨w2,y,hy,hq2,hbk2⟩:=boxedB x.w 37 u.cells
 have hy:x.w.alloc (.cells (au u) 37)=y.w:=hy
 have dR:Q w w2:=Q.trans hq1 (Q.trans x.q hq2)
 have hb1:∀z:Wd w2,ah z.w w.heap.size 155 (o9 h):=fun z=>hbk.q (Q.trans x.q (Q.trans hq2 z.q))
 have hb2:∀z:Wd w2,ah z.w x.w.heap.size 37 (au u):=fun z=>z.blk hbk2
 have s0:∀z:Wd w2,z.w.cell? ⟨w.heap.size,0,none⟩=some (.map (some h)):=fun z=>(hb1 z).cell 0
 have s1:∀z:Wd w2,z.w.cell? ⟨w.heap.size,1,none⟩=some (.map (some (h+1))):=fun z=>(hb1 z).cell 1
 have s2:∀z:Wd w2,z.w.cell? ⟨w.heap.size,2,none⟩=some (.map (some (h+2))):=fun z=>(hb1 z).cell 2
 have s3:∀z:Wd w2,z.w.cell? ⟨w.heap.size,3,none⟩=some (.map (some (h+3))):=fun z=>(hb1 z).cell 3
 have a3:∀z:Wd w2,z.w.cell? ⟨x.w.heap.size,3,none⟩=some (.int .i64 u.kind):=fun z=>(hb2 z).cell 3
 have a6:∀z:Wd w2,z.w.cell? ⟨x.w.heap.size,6,none⟩=some (.string u.target):=fun z=>(hb2 z).cell 6
 have hF2:∀z:Wd w2,Four h k z.w s:=fun z=>hF.q (Q.trans dR z.q)
 have hlt:=hF.m.lt
 have hks:∀z:Wd w2,iL h w z.w:=fun z=>iL.pV (Q.trans dR z.q) (by omega)
 have hzs:∀z:Wd w2,h<=z.w.heap.size:=fun z=>by have:=(Q.trans dR z.q).size;omega
 have hr:∀(b:Nat) (ds:List ByteArray) (z:Wd w2),SSet z.w b k ds->Calls Tryz.prog 133 #[.map (some b), .string u.target] z.w fun e w'=>e= .returned (.tuple #[])/\SSet w' b k (without u.target ds)/\z.w.grownBy w' (some b):=fun b ds z hs=>ael b k ds u.target z.w hs hz
 generalize hT:DU u s=T
 unfold DU at hT
 clear hbk hbk2 hb1 hb2 hq1 hq2 dR hF
 rcases apj u.kind with h1|⟨h0,h1⟩|⟨h0,h2,h1⟩|⟨h0,h2,h3,h1⟩|⟨h0,h2,h3,h1⟩
 ·simp only[h1,if_true]at hT
  have hc:=fun z=>hr h s.f z (hF2 z).f
  have HR:Hid (∀(z:Wd w2) w',SSet w' h k (without u.target s.f)->z.w.grownBy w' (some h)->JJ h k T w (.returned (.tuple #[])) w'):=Lib.hid fun z w' hS hg=>⟨rfl,hT▸(hF2 z).Yr (Nat.le_refl _) hg hS,(hks z).trans (iL.BJ hg (by omega) (by omega) (hzs z))⟩
  clear hr hF2 hks hT
  go_enter Tryz.func134,Tryz.ntmps134
  go_wp2_with (go_at_call 133;refine(hc _).mono ?_;rintro e w' ⟨rfl,hS,hg⟩;have HE:=Lib.hid (HR.out _ _ hS hg))
  go_end0
  exact HE.out
 ·simp only[h1,h0,if_true,Bool.false_eq_true,if_false]at hT
  have hc:=fun z=>hr (h+1) s.a z (hF2 z).a
  have HR:Hid (∀(z:Wd w2) w',SSet w' (h+1) k (without u.target s.a)->z.w.grownBy w' (some (h+1))->JJ h k T w (.returned (.tuple #[])) w'):=Lib.hid fun z w' hS hg=>⟨rfl,hT▸(hF2 z).UA (Nat.le_refl _) hg hS,(hks z).trans (iL.BJ hg (by omega) (by omega) (hzs z))⟩
  clear hr hF2 hks hT
  go_enter Tryz.func134,Tryz.ntmps134
  go_wp2_with (go_at_call 133;refine(hc _).mono ?_;rintro e w' ⟨rfl,hS,hg⟩;have HE:=Lib.hid (HR.out _ _ hS hg))
  go_end0
  exact HE.out
 ·simp only[h1,h0,h2,if_true,Bool.false_eq_true,if_false]at hT
  have hc:=fun z=>hr (h+2) s.b z (hF2 z).b
  have HR:Hid (∀(z:Wd w2) w',SSet w' (h+2) k (without u.target s.b)->z.w.grownBy w' (some (h+2))->JJ h k T w (.returned (.tuple #[])) w'):=Lib.hid fun z w' hS hg=>⟨rfl,hT▸(hF2 z).setB (Nat.le_refl _) hg hS,(hks z).trans (iL.BJ hg (by omega) (by omega) (hzs z))⟩
  clear hr hF2 hks hT
  go_enter Tryz.func134,Tryz.ntmps134
  go_wp2_with (go_at_call 133;refine(hc _).mono ?_;rintro e w' ⟨rfl,hS,hg⟩;have HE:=Lib.hid (HR.out _ _ hS hg))
  go_end0
  exact HE.out
 ·simp only[h1,h0,h2,h3,if_true,Bool.false_eq_true,if_false]at hT
  have hc:=fun z=>hr (h+3) s.m z (hF2 z).m
  have HR:Hid (∀(z:Wd w2) w',SSet w' (h+3) k (without u.target s.m)->z.w.grownBy w' (some (h+3))->JJ h k T w (.returned (.tuple #[])) w'):=Lib.hid fun z w' hS hg=>⟨rfl,hT▸(hF2 z).DV (Nat.le_refl _) hg hS,(hks z).trans (iL.BJ hg (by omega) (by omega) (hzs z))⟩
  clear hr hF2 hks hT
  go_enter Tryz.func134,Tryz.ntmps134
  go_wp2_with (go_at_call 133;refine(hc _).mono ?_;rintro e w' ⟨rfl,hS,hg⟩;have HE:=Lib.hid (HR.out _ _ hS hg))
  go_end0
  exact HE.out
 ·simp only[h1,h0,h2,h3,Bool.false_eq_true,if_false]at hT
  have HE:Hid (JJ h k T w (.returned (.tuple #[])) y.w):=Lib.hid ⟨rfl,hT▸hF2 y,hks y⟩
  clear hr hF2 hks hT
  go_enter Tryz.func134,Tryz.ntmps134
  go_wp2_with fail
  go_end0
  exact HE.out
structure Kw(h:Nat)(W:World) where
 w:World
 k:iL h W w
def Kw.self(h:Nat)(W:World):Kw h W:=⟨W,iL.refl h W⟩
theorem Kw.first(h:Nat)(W:World):∃y:Kw h W,W=y.w:=⟨Kw.self h W,rfl⟩
theorem Kw.next{h:Nat}{W w':World}(y:Kw h W)(hk:iL h y.w w'):∃z:Kw h W,w'=z.w:=⟨⟨w',y.k.trans hk⟩,rfl⟩
theorem Kw.load{h g:Nat}{W:World}{t:TypeId}{cs:Array Value}(hb:ah W g t cs)(hn:g<h∨h+4<=g)(y:Kw h W):ah y.w g t cs:=y.k.JI hb hn
structure BL(c:ay)(w0:World)(g0 g1 h g5 j:Nat)(wr:World):Prop where
 q:Q w0 wr
 lo:w0.heap.size<=h/\h+4<=wr.heap.size
 o0:g0<h
 o1:g1<h
 o5:h+4<=g5
 bc:ah wr g0 41 (aF c)
 r:ah wr g1 155 #[.map none, .map none, .map none, .map none]
 s:ah wr g5 155 (o9 h)
 four:Four h j wr (gV c j)
theorem BL.qs{c:ay}{w0 wr w':World}{g0 g1 h g5 j:Nat}(t:BL c w0 g0 g1 h g5 j wr)(hq:Q wr w'):BL c w0 g0 g1 h g5 j w':=
 have hk:iL h wr w':=iL.pV hq (by have:=t.lo.2;omega)
 ⟨Below.trans t.q (hk.low.mono t.lo.1),⟨t.lo.1,Nat.le_trans t.lo.2 hk.size⟩,t.o0,t.o1,t.o5,hk.JI t.bc (.inl t.o0),hk.JI t.r (.inl t.o1),hk.JI t.s (.inr t.o5),t.four.q hq⟩
theorem BL.step{c:ay}{w0 wr w':World}{g0 g1 h g5 j:Nat}{s':jV}(t:BL c w0 g0 g1 h g5 j wr)(hk:iL h wr w')(hf:Four h (j+1) w' s')(he:gV c (j+1)=s'):BL c w0 g0 g1 h g5 (j+1) w':=
 ⟨Below.trans t.q (hk.low.mono t.lo.1),⟨t.lo.1,Nat.le_trans t.lo.2 hk.size⟩,t.o0,t.o1,t.o5,hk.JI t.bc (.inl t.o0),hk.JI t.r (.inl t.o1),hk.JI t.s (.inr t.o5),he▸hf⟩
def UE(c:ay)(n:Int)(w:World)(e:Ending)(w':World):Prop:=∃h,e= .returned (.agg (o9 h))/\Four h 100000 w' (gV c (fH c n))/\Q w w'
theorem apt(x:Int):(x==7)=true∨((x==7)=false/\(x==8)=true)∨((x==7)=false/\(x==8)=false/\(x==9)=true)∨((x==7)=false/\(x==8)=false/\(x==9)=false/\(x==10)=true)∨((x==7)=false/\(x==8)=false/\(x==9)=false/\(x==10)=false/\(x==11)=true)∨((x==7)=false/\(x==8)=false/\(x==9)=false/\(x==10)=false/\(x==11)=false/\(x==6)=true)∨((x==7)=false/\(x==8)=false/\(x==9)=false/\(x==10)=false/\(x==11)=false/\(x==6)=false):=by
 cases(x==7)<;>cases(x==8)<;>cases(x==9)<;>cases(x==10)<;>cases(x==11)<;>cases(x==6)<;>simp
theorem Yv(h:Nat):(o9 h).toList.toArray.all (·.oneCell')=true:=by simp[o9,Value.oneCell']
theorem apu(c:ay)(i:Nat)(d:ByteArray)(s:jV):xX c i d s=if(jF c d).isSome then(if decide (((((jF c d).getD 0:Nat)):Int)<(i:Int))then(match c.acts[(jF c d).getD 0]? with
 |some u=>DU u s
 |none=>s)else s)else s:=by
 unfold xX
 cases jF c d with
 |none=>rfl
 |some j=>rfl
theorem SSet.m1{w:World}{b k:Nat}{ds:List ByteArray}(h:SSet w b k ds):SSet w b (k+1) ds:=h.mono (by omega)
theorem tie_any(c:ay)(n:Int)(w:World)(hT:Tab w)(hI:gX w c)(hs:∀a∈c.acts,jU a)(hz:∀a∈c.acts,a.target.size<=maxLen)(hn:c.acts.length<=100000):Calls Tryz.prog 87 #[.agg (aF c), .int .i64 n] w (UE c n w):=by
 have hmx:maxLen=9223372036854775807:=by decide
 have hal:=hI.aC
 have hlm:fH c n<=c.acts.length:=by unfold fH;omega
 have sJ:Hid (((fH c n:Nat):Int)=min (max n 0) (c.acts.length:Int)):=Lib.hid (by unfold fH;omega)
 have apv:=Lib.hid (show∀(h:Nat) wr,Four h (fH c n) wr (gV c (fH c n))->Q w wr->UE c n w (.returned (.agg (o9 h))) wr from fun h wr hf hq=>⟨h,rfl,hf.mono (by omega),hq⟩)
 generalize fH c n=m at*
 obtain⟨w1,x,hx,hq1,hbk⟩:=boxedB w 41 c.cells
 have hx:w.alloc (.cells (aF c) 41)=x.w:=hx
 obtain⟨w2,y,hy,hq2,hbk2⟩:=boxedB x.w 155 [.map none, .map none, .map none, .map none]
 have hy:x.w.alloc (.cells #[.map none, .map none, .map none, .map none] 155)=y.w:=hy
 obtain⟨u1,hu1⟩:∃u,y.w.alloc (.map #[] 0)=u:=⟨_,rfl⟩
 obtain⟨u2,hu2⟩:∃u,u1.alloc (.map #[] 0)=u:=⟨_,rfl⟩
 obtain⟨u3,hu3⟩:∃u,u2.alloc (.map #[] 0)=u:=⟨_,rfl⟩
 obtain⟨u4,UF⟩:∃u,u3.alloc (.map #[] 0)=u:=⟨_,rfl⟩
 have hs1:u1.heap.size=y.w.heap.size+1:=by rw[<-hu1];simp
 have hs2:u2.heap.size=y.w.heap.size+2:=by rw[<-hu2];simp[hs1]
 have hs3:u3.heap.size=y.w.heap.size+3:=by rw[<-hu3];simp[hs2]
 have hs4:u4.heap.size=y.w.heap.size+4:=by rw[<-UF];simp[hs3]
 have ho1:Q y.w u1:=hu1▸Below.alloc (Q.refl _) (Nat.le_refl _) _
 have ho2:Q u1 u2:=hu2▸Below.alloc (Q.refl _) (Nat.le_refl _) _
 have ho3:Q u2 u3:=hu3▸Below.alloc (Q.refl _) (Nat.le_refl _) _
 have MB:Q u3 u4:=UF▸Below.alloc (Q.refl _) (Nat.le_refl _) _
 have hF0:Four y.w.heap.size 0 u4 (gV c 0):=by
  refine⟨?_,?_,?_,?_⟩
  ·have h1:SSet u1 y.w.heap.size 0 []:=hu1▸SSet.made y.w
   exact h1.q (Q.trans ho2 (Q.trans ho3 MB))
  ·have h1:SSet u2 u1.heap.size 0 []:=hu2▸SSet.made u1
   rw[hs1]at h1
   exact h1.q (Q.trans ho3 MB)
  ·have h1:SSet u3 u2.heap.size 0 []:=hu3▸SSet.made u2
   rw[hs2]at h1
   exact h1.q MB
  ·have h1:SSet u4 u3.heap.size 0 []:=UF▸SSet.made u3
   rw[hs3]at h1
   exact h1
 have Yw:Q w y.w:=Q.trans (Q.trans hq1 x.q) (Q.trans hq2 y.q)
 have aeD:Q w u4:=Q.trans Yw (Q.trans ho1 (Q.trans ho2 (Q.trans ho3 MB)))
 have UG:Q y.w u4:=Q.trans ho1 (Q.trans ho2 (Q.trans ho3 MB))
 have hB0:ah u4 w.heap.size 41 (aF c):=(hbk.q (Q.trans x.q (Q.trans hq2 y.q))).q UG
 have hB1:ah u4 x.w.heap.size 155 #[.map none, .map none, .map none, .map none]:=(hbk2.q y.q).q UG
 have hl0:w.heap.size<y.w.heap.size:=Nat.lt_of_lt_of_le hbk.lt (Q.trans x.q (Q.trans hq2 y.q)).size
 have hl1:x.w.heap.size<y.w.heap.size:=Nat.lt_of_lt_of_le hbk2.lt y.q.size
 have c1:∀z:Wd w2,z.w.cell? ⟨w.heap.size,1,none⟩=some (.slice c.aA c.acts.length c.aC):=fun z=>((hbk.q (Q.trans x.q hq2)).q z.q).cell 1
 have apw:Q w2 u4:=Q.trans y.q UG
 have HT0:Hid (∀W,ah W u4.heap.size 155 (o9 y.w.heap.size)->Q u4 W->BL c w w.heap.size x.w.heap.size y.w.heap.size u4.heap.size 0 W):=Lib.hid fun W hW hq=>⟨Q.trans aeD hq,⟨Yw.size,by have:=hq.size;omega⟩,hl0,hl1,by omega,hB0.q hq,hB1.q hq,hW,hF0.q hq⟩
 have hmm:= @run_makeMap Tryz.prog
 obtain⟨nl,hnl⟩:∃nl,c.acts.length=nl:=⟨_,rfl⟩
 rw[hnl]at hlm sJ hal
 rw[hnl]at c1
 clear hbk hbk2 hB0 hB1 hF0 ho1 ho2 ho3 MB aeD hq2 Yw
 have HG1:Hid (w.heap.size<=x.w.heap.size):=Lib.hid (Q.trans hq1 x.q).size
 generalize hg1:x.w.heap.size=g1 at*
 generalize hgh:y.w.heap.size=h at*
 go_enter Tryz.func87,Tryz.ntmps87
 go_upto_region 2 with(refine fM (ah.new u4 155 #[.map none, .map none, .map none, .map none]) rfl 155 (.tmp 5) (.tmp 14) (o9 h).toList rfl rfl rfl (by kernel_rfl) (Yv _) (Nat.le_refl 4) ?_)
 have hT0:=HT0.out _ (ah.new' u4 155 (o9 h) rfl) (aO _ _ _)
 rw[hs4]at hT0
 unfold o9 at hT0
 generalize u4.alloc (.cells #[.map (some h), .map (some (h+1)), .map (some (h+2)), .map (some (h+3))] 155)=W at*
 have cW:W.cell? ⟨w.heap.size,1,none⟩=some (.slice c.aA nl c.aC):=by rw[<-hnl];exact hT0.bc.cell 1
 have hmin:min (max n 0) (nl:Int)=(m:Int):=sJ.out.symm
 have HT1:=Lib.hid hT0
 have hRow:=fun wr (hq:Q w wr)=>hI.acts.q hq
 have hcap:m<=c.aC:=by omega
 clear hT0 HT0 c1 hu1 hu2 hu3 UF hs1 hs2 hs3 hs4 UG apw hmm hgh hg1
 go_wp2_with fail
 go_loopw [26] (fun i wr=>∃(j:Nat),i= .int .i64 j/\j<=m/\Hid (BL c w w.heap.size g1 h (h+4) j wr)) (fun i _=>m-(intOf i).toNat)
 case atStart=>exact⟨0,rfl,Nat.zero_le _,HT1⟩
 case round=>
  obtain⟨j,rfl,hj,HTj⟩:=hrel
  have hTj:=HTj.out
  by_cases hlt:j<m
  ·have dM:j<c.acts.length:=by omega
   have pX:(j:Int)<(m:Int):=by omega
   have Uo:j<nl:=by omega
   obtain⟨b,o,eA,hb0,hcs⟩:=hRow wr hTj.q (by omega)
   have hld:=Wd.load (P:=Tryz.prog) (ty:=37) hb0 (hcs j dM) Tryz.underlying37 rfl (by kernel_rfl) (⟨wr,Q.refl wr⟩:Wd wr)
   have hld:(Instr.loadAt 37 (.pointer (some ⟨b,o+j*20,none⟩))).run Tryz.prog wr= .ok (.agg (au c.acts[j])) wr:=hld
   have hSt:=ape c j dM
   have Yx:=hz _ (List.getElem_mem dM)
   have uQ:=hRow
   rw[eA]
   clear hcs
   obtain⟨a,ha⟩:∃a,c.acts[j]=a:=⟨_,rfl⟩
   rw[ha]at hld hSt Yx
   have HTJ:=HTj
   clear hTj
   go_upto_region 6 with(first|(refine kR 38 37 (.tmp 24) (.tmp 26) b o m c.aC j 20 rfl rfl rfl rfl Tryz.underlying38 (by kernel_rfl) Tryz.sizeOf37 hlt ?_)|(refine aI (.tmp 29) hld ?_)|(refine fM (ah.new wr 37 aH.cells.toArray) rfl 37 (.tmp 7) (.tmp 30) a.cells rfl rfl rfl (by kernel_rfl) (dL _) (Nat.le_refl 20) ?_))
   intro W5 mV hbel
   rw[bC _ _ (by rfl)]at mV
   have hq5:Q wr W5:=hbel _ _ (Nat.le_refl _) (aO _ _ _)
   have qc:=HTJ.out.qs hq5
   have hlo:=HTJ.out.lo
   have Yy:h+4<=wr.heap.size:=hlo.2
   have A3:∀y:Kw h W5,y.w.cell? ⟨wr.heap.size,3,none⟩=some (.int .i64 a.kind):=fun y=>(Kw.load mV (.inr Yy) y).cell 3
   have A5:∀y:Kw h W5,y.w.cell? ⟨wr.heap.size,5,none⟩=some (.string a.object):=fun y=>(Kw.load mV (.inr Yy) y).cell 5
   have A6:∀y:Kw h W5,y.w.cell? ⟨wr.heap.size,6,none⟩=some (.string a.target):=fun y=>(Kw.load mV (.inr Yy) y).cell 6
   have S0:∀y:Kw h W5,y.w.cell? ⟨h+4,0,none⟩=some (.map (some h)):=fun y=>(Kw.load qc.s (.inr (Nat.le_refl _)) y).cell 0
   have S1:∀y:Kw h W5,y.w.cell? ⟨h+4,1,none⟩=some (.map (some (h+1))):=fun y=>(Kw.load qc.s (.inr (Nat.le_refl _)) y).cell 1
   have S2:∀y:Kw h W5,y.w.cell? ⟨h+4,2,none⟩=some (.map (some (h+2))):=fun y=>(Kw.load qc.s (.inr (Nat.le_refl _)) y).cell 2
   have S3:∀y:Kw h W5,y.w.cell? ⟨h+4,3,none⟩=some (.map (some (h+3))):=fun y=>(Kw.load qc.s (.inr (Nat.le_refl _)) y).cell 3
   have hQy:∀y:Kw h W5,Q w y.w:=fun y=>Below.trans qc.q (y.k.low.mono hlo.1)
   have HE:Hid (∀(y:Kw h W5) s',Four h (j+1) y.w s'->gV c (j+1)=s'->BL c w w.heap.size g1 h (h+4) (j+1) y.w):=Lib.hid fun y s' hf he=>qc.step y.k hf he
   have hF:Four h j W5 (gV c j):=qc.four
   have uP:∀y:Kw h W5,h+4<=y.w.heap.size:=fun y=>Nat.le_trans qc.lo.2 y.k.size
   obtain⟨v,hv⟩:=Kw.first h W5
   rw[hv]at hF
   rw[hv]
   have hBc:=qc.bc
   have hBs:=qc.s
   have BM:∀(b k:Nat) (ds:List ByteArray) (w:World),SSet w b k ds->k<1000000->Calls Tryz.prog 132 #[.map (some b), .string a.target] w fun e w'=>e= .returned (.tuple #[])/\SSet w' b (k+1) (ds++[a.target])/\w.grownBy w' (some b):=fun b k ds w hs hk=>add_any b k ds a.target w hs (by omega) Yx
   have Fq:∀(b k:Nat) (ds:List ByteArray) (w:World),SSet w b k ds->Calls Tryz.prog 133 #[.map (some b), .string a.target] w fun e w'=>e= .returned (.tuple #[])/\SSet w' b k (without a.target ds)/\w.grownBy w' (some b):=fun b k ds w hs=>ael b k ds a.target w hs Yx
   clear hbel mV hv hld ha eA
   generalize wr.heap.size=g7 at*
   generalize gV c j=s at*
   rcases apt a.kind with h1|⟨h0,h1⟩|⟨h0,h2,h1⟩|⟨h0,h2,h3,h1⟩|⟨h0,h2,h3,h4,h1⟩|⟨h0,h2,h3,h4,h5,h1⟩|⟨h0,h2,h3,h4,h5,h1⟩
   ·unfold lZ at hSt
    simp only[h1,if_true]at hSt
    have hc:=BM h j s.f v.w hF.f (by omega)
    have yU:=Lib.hid hF
    clear hF BM Fq A5 qc
    go_wp2_with fail
    refine hc.mono ?_
    rintro e w9 ⟨rfl,hS,hg⟩
    obtain⟨y9,rfl⟩:=v.next (iL.BJ hg (by omega) (by omega) (by have:=uP v;omega))
    have HX:=Lib.hid (HE.out y9 _ (yU.out.Yr (Nat.le_succ j) hg hS) hSt)
    clear hS hg hc
    go_wp2_with fail
    exact⟨⟨j+1,by go_num,by omega,HX⟩,by simp only[intOf];omega⟩
   ·unfold lZ at hSt
    simp only[h0,h1,if_true,Bool.false_eq_true,if_false]at hSt
    have hc:=BM (h+1) j s.a v.w hF.a (by omega)
    have yU:=Lib.hid hF
    clear hF BM Fq A5 qc
    go_wp2_with fail
    refine hc.mono ?_
    rintro e w9 ⟨rfl,hS,hg⟩
    obtain⟨y9,rfl⟩:=v.next (iL.BJ hg (by omega) (by omega) (by have:=uP v;omega))
    have HX:=Lib.hid (HE.out y9 _ (yU.out.UA (Nat.le_succ j) hg hS) hSt)
    clear hS hg hc
    go_wp2_with fail
    exact⟨⟨j+1,by go_num,by omega,HX⟩,by simp only[intOf];omega⟩
   ·unfold lZ at hSt
    simp only[h0,h2,h1,if_true,Bool.false_eq_true,if_false]at hSt
    have hc:=Fq (h+1) j s.a v.w hF.a
    have yU:=Lib.hid hF
    clear hF BM Fq A5 qc
    go_wp2_with fail
    refine hc.mono ?_
    rintro e w9 ⟨rfl,hS,hg⟩
    obtain⟨y9,rfl⟩:=v.next (iL.BJ hg (by omega) (by omega) (by have:=uP v;omega))
    have HX:=Lib.hid (HE.out y9 _ (yU.out.UA (Nat.le_succ j) hg hS.m1) hSt)
    clear hS hg hc
    go_wp2_with fail
    exact⟨⟨j+1,by go_num,by omega,HX⟩,by simp only[intOf];omega⟩
   ·unfold lZ at hSt
    simp only[h0,h2,h3,h1,if_true,Bool.false_eq_true,if_false]at hSt
    have hc:=BM (h+2) j s.b v.w hF.b (by omega)
    have yU:=Lib.hid hF
    have HFR:=Lib.hid Fq
    clear hF BM Fq A5 qc
    go_wp2_with fail
    refine hc.mono ?_
    rintro e w9 ⟨rfl,hS,hg⟩
    have hF1:=yU.out.setB (Nat.le_succ j) hg hS
    obtain⟨y9,rfl⟩:=v.next (iL.BJ hg (by omega) (by omega) (by have:=uP v;omega))
    clear hS hg hc
    have hc:=HFR.out h (j+1) _ y9.w hF1.f
    have HF1:=Lib.hid hF1
    clear hF1
    go_wp2_with fail
    refine hc.mono ?_
    rintro e w10 ⟨rfl,hS,hg⟩
    have hF2:=HF1.out.Yr (Nat.le_refl _) hg hS
    obtain⟨MC,rfl⟩:=y9.next (iL.BJ hg (by omega) (by omega) (by have:=uP y9;omega))
    clear hS hg hc
    have hc:=HFR.out (h+1) (j+1) _ MC.w hF2.a
    have HF2:=Lib.hid hF2
    clear hF2
    go_wp2_with fail
    refine hc.mono ?_
    rintro e w11 ⟨rfl,hS,hg⟩
    have hF3:=HF2.out.UA (Nat.le_refl _) hg hS
    obtain⟨y11,rfl⟩:=MC.next (iL.BJ hg (by omega) (by omega) (by have:=uP MC;omega))
    have HX:=Lib.hid (HE.out y11 _ hF3 hSt)
    clear hS hg hc hF3
    go_wp2_with fail
    exact⟨⟨j+1,by go_num,by omega,HX⟩,by simp only[intOf];omega⟩
   ·unfold lZ at hSt
    simp only[h0,h2,h3,h4,h1,if_true,Bool.false_eq_true,if_false]at hSt
    have hc:=BM (h+3) j s.m v.w hF.m (by omega)
    have yU:=Lib.hid hF
    clear hF BM Fq A5 qc
    go_wp2_with fail
    refine hc.mono ?_
    rintro e w9 ⟨rfl,hS,hg⟩
    obtain⟨y9,rfl⟩:=v.next (iL.BJ hg (by omega) (by omega) (by have:=uP v;omega))
    have HX:=Lib.hid (HE.out y9 _ (yU.out.DV (Nat.le_succ j) hg hS) hSt)
    clear hS hg hc
    go_wp2_with fail
    exact⟨⟨j+1,by go_num,by omega,HX⟩,by simp only[intOf];omega⟩
   ·unfold lZ at hSt
    simp only[h0,h2,h3,h4,h5,h1,if_true,Bool.false_eq_true,if_false]at hSt
    rw[apu]at hSt
    have hIx:∀y:Kw h W5,Calls Tryz.prog 84 #[.agg (aF c), .string a.object] y.w fun e w'=>e= .returned (.tuple #[.int .i64 (((jF c a.object).getD 0:Nat):Int), .bool (jF c a.object).isSome])/\Q y.w w':=fun y=>bP.Uz c a.object y.w (hT.q (hQy y)) (hI.q (hQy y)) hs
    have LC:∀y:Kw h W5,(Instr.loadAt 41 (.pointer (some ⟨w.heap.size,0,none⟩))).run Tryz.prog y.w= .ok (.agg (aF c)) y.w:=fun y=>Wd.load (Kw.load hBc (.inl hl0) y).lt (ah.range (Kw.load hBc (.inl hl0) y)) Tryz.underlying41 rfl (by kernel_rfl) ⟨y.w,Q.refl _⟩
    have C1:∀y:Kw h W5,y.w.cell? ⟨w.heap.size,1,none⟩=some (.slice c.aA nl c.aC):=fun y=>hnl▸(Kw.load hBc (.inl hl0) y).cell 1
    have LS:∀y:Kw h W5,(Instr.loadAt 155 (.pointer (some ⟨h+4,0,none⟩))).run Tryz.prog y.w= .ok (.agg (o9 h)) y.w:=fun y=>Wd.load (Kw.load hBs (.inr (Nat.le_refl _)) y).lt (ah.range (Kw.load hBs (.inr (Nat.le_refl _)) y)) Tryz.underlying155 rfl (by kernel_rfl) ⟨y.w,Q.refl _⟩
    have aeH:∀j2,jF c a.object=some j2->j2<nl:=fun j2 h=>hnl▸Yt h
    have hRy:=fun(y:Kw h W5)=>hRow y.w (hQy y)
    have hzA:∀(j2:Nat) (h:j2<c.acts.length),c.acts[j2].target.size<=maxLen:=fun j2 h=>hz _ (List.getElem_mem h)
    have yU:=Lib.hid hF
    clear hF BM Fq A6 qc hBc hBs S0 S1 S2 S3
    generalize hix:jF c a.object=ix at*
    cases ix with
    |none=>
     simp only[Option.isSome_none,Bool.false_eq_true,if_false]at hSt hIx
     have HX:Hid (∀y:Kw h W5,Q v.w y.w->BL c w w.heap.size g1 h (h+4) (j+1) y.w):=Lib.hid fun y hq=>HE.out y _ ((yU.out.q hq).mono (Nat.le_succ j)) hSt
     go_wp2_with (first|(refine aI (.tmp 2) (LC _) ?_)|(go_at_call 84;refine(hIx _).mono ?_;rintro e w9 ⟨rfl,bD⟩;have hk9:=iL.pV bD (show h<=v.w.heap.size by have:=uP v;omega);obtain⟨y9,rfl⟩:=v.next hk9;have Yz:=Lib.hid (HX.out y9 bD);clear hk9 bD))
     exact⟨⟨j+1,by go_num,by omega,Yz⟩,by simp only[intOf];omega⟩
    |some j2=>
     simp only[Option.isSome_some,Option.getD_some,if_true]at hSt hIx
     have hj2:=aeH j2 rfl
     by_cases hlj:(j2:Int)<(j:Int)
     ·rw[if_pos (by simpa using hlj)]at hSt
      have YA:j2<c.acts.length:=by omega
      rw[List.getElem?_eq_getElem YA]at hSt
      dsimp only at hSt
      have hzu:=hzA j2 YA
      obtain⟨b,o,eA,hb0,hcs⟩:=hRy v (by omega)
      have LA:∀y:Kw h W5,(Instr.loadAt 37 (.pointer (some ⟨b,o+j2*20,none⟩))).run Tryz.prog y.w= .ok (.agg (au c.acts[j2])) y.w:=fun y=>by
       obtain⟨b2,o2,G9,hb2,hcs2⟩:=hRy y (by omega)
       rw[eA]at G9
       injection G9 with h1
       injection h1 with h1 h2
       subst h1 h2
       exact Wd.load (P:=Tryz.prog) (ty:=37) hb2 (hcs2 j2 YA) Tryz.underlying37 rfl (by kernel_rfl) ⟨y.w,Q.refl _⟩
      rw[eA]at C1
      generalize c.acts[j2]=u at*
      clear hcs hRy hzA aeH
      have aeJ:=fun(W:World) (hF:Four h j W s)=>apk h j s u W hF hzu
      unfold JJ at aeJ
      go_upto_region 22 with(first|(refine aI (.tmp 2) (LC _) ?_)|(go_at_call 84;refine(hIx _).mono ?_;rintro e w9 ⟨rfl,bD⟩;have hk9:=iL.pV bD (show h<=v.w.heap.size by have:=uP v;omega);obtain⟨y9,rfl⟩:=v.next hk9;have HF9:=Lib.hid (yU.out.q bD);clear hk9 bD))
      have hz0:∃y:Kw h W5,y9.w.drew=y.w:=y9.next (iL.pV (Q.refl _).drew (by have:=uP y9;omega))
      have f0:∀z,(∃y:Kw h W5,z=y.w)->(Instr.loadAt 155 (.pointer (some ⟨h+4,0,none⟩))).run Tryz.prog z= .ok (.agg (o9 h)) z:=by rintro _ ⟨y,rfl⟩;exact LS y
      have f1:∀z,(∃y:Kw h W5,z=y.w)->z.cell? ⟨w.heap.size,1,none⟩=some (.slice (some ⟨b,o,none⟩) nl c.aC):=by rintro _ ⟨y,rfl⟩;exact C1 y
      have f2:∀z,(∃y:Kw h W5,z=y.w)->(Instr.loadAt 37 (.pointer (some ⟨b,o+j2*20,none⟩))).run Tryz.prog z= .ok (.agg (au u)) z:=by rintro _ ⟨y,rfl⟩;exact LA y
      refine uT (fun z=>∃y:Kw h W5,z=y.w) (by kernel_rfl) ?_
      refine V7 0 (.agg (o9 h)) rfl hz0 (fun z hz=>oV (f0 z hz)) ?_
      try simp only[aax]
      refine aS 1 (.pointer (some ⟨w.heap.size,1,none⟩)) hz0 ?_
      try simp only[aax]
      refine V7 2 (.slice (some ⟨b,o,none⟩) nl c.aC) rfl hz0 (fun z hz=>oK Tryz.underlying38 (f1 z hz)) ?_
      try simp only[aax]
      refine aS 3 (.int .i64 (j2:Int)) hz0 ?_
      try simp only[aax]
      refine V7 4 (.pointer (some ⟨b,o+j2*20,none⟩)) rfl hz0 (fun z hz=>BK 38 37 (.tmp 95) (.tmp 96) b o nl c.aC j2 20 rfl rfl rfl Tryz.underlying38 (by kernel_rfl) Tryz.sizeOf37 hj2) ?_
      try simp only[aax]
      refine V7 5 (.agg (au u)) rfl hz0 (fun z hz=>oV (f2 z hz)) ?_
      try simp only[aax]
      refine aW 6 fun K' hK'=> ?_
      go_simp
      refine(aeJ _ (HF9.out.q (Q.refl _).drew)).mono ?_
      rintro e w10 ⟨rfl,aeK,hk10⟩
      obtain⟨MC,rfl⟩:=y9.next (iL.trans (iL.pV (Q.refl _).drew (by have:=uP y9;omega)) hk10)
      refine hK' _ _ ⟨MC,rfl⟩ ?_
      clear hK' K'
      try simp only[aax]
      refine wpAnyH_done (by kernel_rfl) ?_ _
      have HX:=Lib.hid (HE.out MC _ (aeK.mono (Nat.le_succ j)) hSt)
      clear aeK hk10 hz0
      go_wp2_with fail
      exact⟨⟨j+1,by go_num,by omega,HX⟩,by simp only[intOf];omega⟩
     ·rw[if_neg (by simpa using hlj)]at hSt
      have HX:Hid (∀y:Kw h W5,Q v.w y.w->BL c w w.heap.size g1 h (h+4) (j+1) y.w):=Lib.hid fun y hq=>HE.out y _ ((yU.out.q hq).mono (Nat.le_succ j)) hSt
      go_wp2_with (first|(refine aI (.tmp 2) (LC _) ?_)|(go_at_call 84;refine(hIx _).mono ?_;rintro e w9 ⟨rfl,bD⟩;have hk9:=iL.pV bD (show h<=v.w.heap.size by have:=uP v;omega);obtain⟨y9,rfl⟩:=v.next hk9;have Yz:=Lib.hid (HX.out y9 bD);clear hk9 bD))
      exact⟨⟨j+1,by go_num,by omega,Yz⟩,by simp only[intOf];omega⟩
   ·unfold lZ at hSt
    simp only[h0,h2,h3,h4,h5,h1,Bool.false_eq_true,if_false]at hSt
    have HX:=Lib.hid (HE.out v _ (hF.mono (Nat.le_succ j)) hSt)
    clear hF BM Fq qc
    go_wp2_with fail
    exact⟨⟨j+1,by go_num,by omega,HX⟩,by simp only[intOf];omega⟩
  ·obtain rfl:j=m:=by omega
   have uO:¬((j:Int)<(j:Int)):=by omega
   have hLS:(Instr.loadAt 155 (.pointer (some ⟨h+4,0,none⟩))).run Tryz.prog wr= .ok (.agg (o9 h)) wr:=Wd.load hTj.s.lt (ah.range hTj.s) Tryz.underlying155 rfl (by kernel_rfl) ⟨wr,Q.refl _⟩
   have hBr:=hTj.r
   have hge:w.heap.size<=g1:=HG1.out
   have HF:Hid (∀V,Below w.heap.size wr V->(∀k,k≠g1->V.heap[k]?=wr.heap[k]?)->UE c n w (.returned (.agg (o9 h))) V):=Lib.hid fun V hl hf=>apv.out h V ⟨hTj.four.f.blk (hf _ (by omega)),hTj.four.a.blk (hf _ (by omega)),hTj.four.b.blk (hf _ (by omega)),hTj.four.m.blk (hf _ (by omega))⟩ (Below.trans hTj.q hl)
   clear hTj
   go_wp2_with (first|(refine aI (.tmp 5) hLS ?_)|(refine eY (cs:=[.map none, .map none, .map none, .map none]) hBr rfl 155 (.tmp 4) (.tmp 101) (o9 h).toList rfl rfl rfl (by kernel_rfl) (Yv _) (Nat.le_refl 4) ?_))
   intro V hV hbel bJ
   rw[bC _ _ (by rfl)]at hV
   have HG:=Lib.hid (HF.out V (hbel _ _ hge (Below.refl _ _)) bJ)
   clear hbel bJ HF
   go_wp2_with fail
   exact bodyPost_ret (results_cell_row rfl _ _ g1 155 (o9 h) (0,0) _ rfl hV Tryz.underlying155 rfl (by kernel_rfl)) rfl HG.out
end Rel
end Go.Proofs.YtbemmjnjoabadaaGreatDoor
