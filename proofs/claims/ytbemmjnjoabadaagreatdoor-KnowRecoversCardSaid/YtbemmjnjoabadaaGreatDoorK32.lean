/- part 32 -/
import Derived.Test.YtbemmjnjoabadaaGreatDoorK31
set_option linter.unusedVariables false
set_option linter.unusedSimpArgs false
set_option maxHeartbeats 8000000
set_option maxRecDepth 100000
namespace Go.Proofs.YtbemmjnjoabadaaGreatDoor
namespace bP
open Go.RowKit aQ Mem _root_.Go.Proofs.YtbemmjnjoabadaaGreatDoor.Code aY Sign _root_.Go.Proofs.YtbemmjnjoabadaaGreatDoor.Item _root_.Go.Proofs.YtbemmjnjoabadaaGreatDoor.Known BQ
attribute [local go_sem] Oper.semAt_some
theorem arQ(A:Option Addr)(nx cx:Nat)(c:ay)(g:Int)(w:World):
 Calls Tryz.prog 46 #[.slice A nx cx, .agg (aF c), .int .i64 g] w fun e w'=>e= .returned (.func (.func 94) #[] #[.pointer (some ⟨w.heap.size+1,0,none⟩), .pointer (some ⟨w.heap.size+1+1,0,none⟩), .pointer (some ⟨w.heap.size,0,none⟩)])/\
  w'=((w.alloc (.cells #[.slice A nx cx] 49)).alloc (.cells (aF c) 41)).alloc (.cells #[.int .i64 g] 3):=by
 go_enter Tryz.func46,Tryz.ntmps46
 go_wp2
 go_ret
 exact⟨rfl,rfl⟩
theorem Zg(b:ByteArray×ByteArray×ByteArray)(l r:List ByteArray):nX b (l++r)=(match nX b l with|some p=>some p|none=>nX b r):=by
 induction l with
 |nil=>rfl
 |cons d t ih=>
  rw[List.cons_append,nX,nX]
  cases h:(bV.nR d b).2
  ·rw[if_neg (by simp),if_neg (by simp)];exact ih
  ·rfl
theorem arR(b:ByteArray×ByteArray×ByteArray)(pre l:List ByteArray)(x:ByteArray)(hn:nX b pre=none)(hp:(pre++[x])<+:l)(hx:(bV.nR x b).2=true):nX b l=some (bV.nR x b).1:=by
 obtain⟨r,rfl⟩:=hp
 rw[Zg,Zg,hn]
 dsimp only
 rw[nX,if_pos hx]
theorem arS(b:ByteArray×ByteArray×ByteArray)(pre:List ByteArray)(x:ByteArray)(hn:nX b pre=none)(hx:(bV.nR x b).2=false):nX b (pre++[x])=none:=by
 rw[Zg,hn]
 dsimp only
 rw[nX,if_neg (by simp[hx])]
 rfl
theorem af4(A:Option Addr)(cx:Nat)(xs:List Int)(c:ay)(m:Nat)(w:World)(hI:gX w c)(hm:m<c.acts.length)(hk:nT c.acts[m].kind=true)(hs:(c.acts[m].scope==0)=false)(hd:(bZ c m c.acts[m].scope c.acts[m].group).2=false∨((bZ c m c.acts[m].scope c.acts[m].group).2=true/\∃h:(bZ c m c.acts[m].scope c.acts[m].group).1<c.acts.length,(c.acts[(bZ c m c.acts[m].scope c.acts[m].group).1].epoch==c.acts[m].epoch)=false)):Calls Tryz.prog 15 #[.slice A xs.length cx, .agg (aF c), .int .i64 m] w (Ku none w):=by
 have hb1:=ah.new w 41 (aF c)
 have hq1:=aO w (aF c) 41
 have hb2:=ah.new' (g:=w.heap.size+1) (w.alloc (.cells (aF c) 41)) 9 #[.string ⟨#[]⟩] (by simp)
 have hq2:=aO (w.alloc (.cells (aF c) 41)) #[.string ⟨#[]⟩] 9
 have hb3:=ah.new' (g:=w.heap.size+1+1) ((w.alloc (.cells (aF c) 41)).alloc (.cells #[.string ⟨#[]⟩] 9)) 4 #[.bool false] (by simp)
 have hq3:=aO ((w.alloc (.cells (aF c) 41)).alloc (.cells #[.string ⟨#[]⟩] 9)) #[.bool false] 4
 have hb1:=(hb1.q hq2).q hq3
 have hb2:=hb2.q hq3
 have hq:=Q.trans (Q.trans hq1 hq2) hq3
 clear hq1 hq2 hq3
 obtain⟨W0,hW0⟩:∃W0,W0=((w.alloc (.cells (aF c) 41)).alloc (.cells #[.string ⟨#[]⟩] 9)).alloc (.cells #[.bool false] 4):=⟨_,rfl⟩
 rw[<-hW0]at hb1 hb2 hb3 hq
 obtain⟨x,hx⟩:=Wd.first W0
 have HX:=Lib.hid (hx.symm.trans hW0)
 have lD:∀y:Wd W0,xw w y.w (w.heap.size+1) (w.heap.size+1+1) ⟨#[]⟩ false:=fun y=>⟨y.blk hb2,y.blk hb3,Q.trans hq y.q⟩
 have c1:=aB (.slice c.aA c.acts.length c.aC) hb1 1
 have f6:∀y:Wd W0,y.w.frozen? ⟨w.heap.size+1,0,none⟩=false:=fun y=>(lD y).s.frozen
 have k6:∀y:Wd W0,y.w.cell? ⟨w.heap.size+1,0,none⟩=some (.string ⟨#[]⟩):=fun y=>(lD y).s.cell
 have f7:∀(y:Wd W0) v,(y.w.setCell ⟨w.heap.size+1,0,none⟩ v).frozen? ⟨w.heap.size+1+1,0,none⟩=false:=fun y v=>((lD y).o.other (by omega) v).frozen
 have k7:∀(y:Wd W0) v,(y.w.setCell ⟨w.heap.size+1,0,none⟩ v).cell? ⟨w.heap.size+1+1,0,none⟩=some (.bool false):=fun y v=>((lD y).o.other (by omega) v).cell
 have uV:Hid (∀(y:Wd W0) d b,xw w ((y.w.setCell ⟨w.heap.size+1,0,none⟩ (.string d)).setCell ⟨w.heap.size+1+1,0,none⟩ (.bool b)) (w.heap.size+1) (w.heap.size+1+1) d b):=Lib.hid (fun y d b=>(lD y).set (by omega) (by omega) (by omega) d b)
 clear lD hx hW0
 have hmx:maxLen=9223372036854775807:=by decide
 have hal:=hI.aC
 have iK:=fun y:Wd W0=>Jt c m c.acts[m].scope c.acts[m].group y.w (hI.q (Q.trans hq y.q))
 have cZ:=dX (P:=Tryz.prog) (aF c) hb1 Tryz.underlying41
 obtain⟨b,o,eA,hb0,hcs⟩:=(hI.acts.q hq) (by omega)
 rw[eA]at c1
 have iU:=fun y:Wd W0=>Qw c.acts[m].kind y.w
 have a3:∀y:Wd W0,y.w.cell? ⟨b,o+m*20+3,none⟩=some (.int .i64 c.acts[m].kind):=fun y=>Wd.get hb0 (hcs m hm) 3 rfl y
 have hld:=Wd.load (P:=Tryz.prog) (ty:=37) hb0 (hcs m hm) Tryz.underlying37 rfl (by kernel_rfl)
 obtain⟨nl,hnl⟩:∃nl,c.acts.length=nl:=⟨_,rfl⟩
 rw[hnl]at c1 hal
 have hmN:m<nl:=by omega
 have PD:(m:Int)<(nl:Int):=by omega
 have hm0:(0:Int)<=(m:Int):=by omega
 have hmn:¬((m:Int)<0):=by omega
 have hmg:¬((nl:Int)<=(m:Int)):=by omega
 have uQ:∀j (h:j<c.acts.length) (y:Wd W0) n v,c.acts[j].cells[n]?=some v->y.w.cell? ⟨b,o+j*20+n,none⟩=some v:=fun j h y n v hv=>Wd.get hb0 (hcs j h) n hv y
 clear hI hcs eA hb1 hb2 hb3
 rw[hk]at iU
 obtain⟨a,ha⟩:∃a,c.acts[m]=a:=⟨_,rfl⟩
 rw[ha]at a3 hld hs iK hd iU
 obtain⟨gi,bo,hgb⟩:∃gi bo,bZ c m a.scope a.group=(gi,bo):=⟨_,_,rfl⟩
 rw[hgb]at hd iK
 dsimp only at hd iK
 go_enter Tryz.func15,Tryz.ntmps15
 go_upto_region 1 with(fail)
 refine(show Code.wp _ _ _ _ x.w->Code.wp _ _ _ _ _ from fun h=>by rw[HX.out]at h;exact h) ?_
 go_upto_region 4 with(first|(refine kR 38 37 (.tmp 25) (.tmp 26) b o nl c.aC m 20 rfl rfl rfl rfl Tryz.underlying38 (by kernel_rfl) Tryz.sizeOf37 hmN ?_)|(go_at_call 44;refine(iU _).mono ?_;rintro e w' ⟨rfl,hq2⟩;obtain⟨y,rfl⟩:=Wd.next x hq2;clear hq2)|(refine kR 38 37 (.tmp 34) (.tmp 35) b o nl c.aC m 20 rfl rfl rfl rfl Tryz.underlying38 (by kernel_rfl) Tryz.sizeOf37 hmN ?_)|(refine aI (.tmp 36) (hld _) ?_)|(refine fM (ah.new y.w 37 aH.cells.toArray) rfl 37 (.tmp 8) (.tmp 37) a.cells rfl rfl rfl (by kernel_rfl) (dL _) (Nat.le_refl 20) ?_))
 intro W1 hW1 CJ
 rw[bC _ _ (by rfl)]at hW1
 have hq1:Q W0 W1:=CJ _ _ y.q.size (Q.trans y.q (aO _ _ _))
 have e7:=aB (.int .i64 a.scope) hW1 7
 have e10:=aB (.string a.text) hW1 10
 have f61:∀z:Wd W1,z.w.frozen? ⟨w.heap.size+1,0,none⟩=false:=fun z=>f6 ⟨z.w,Q.trans hq1 z.q⟩
 have Ze:∀z:Wd W1,z.w.cell? ⟨w.heap.size+1,0,none⟩=some (.string ⟨#[]⟩):=fun z=>k6 ⟨z.w,Q.trans hq1 z.q⟩
 have f71:∀(z:Wd W1) v,(z.w.setCell ⟨w.heap.size+1,0,none⟩ v).frozen? ⟨w.heap.size+1+1,0,none⟩=false:=fun z v=>f7 ⟨z.w,Q.trans hq1 z.q⟩ v
 have Zf:∀(z:Wd W1) v,(z.w.setCell ⟨w.heap.size+1,0,none⟩ v).cell? ⟨w.heap.size+1+1,0,none⟩=some (.bool false):=fun z v=>k7 ⟨z.w,Q.trans hq1 z.q⟩ v
 have Ar:Hid (∀(z:Wd W1) d b,xw w ((z.w.setCell ⟨w.heap.size+1,0,none⟩ (.string d)).setCell ⟨w.heap.size+1+1,0,none⟩ (.bool b)) (w.heap.size+1) (w.heap.size+1+1) d b):=Lib.hid (fun z=>uV.out ⟨z.w,Q.trans hq1 z.q⟩)
 have hgW:=hW1.lt
 have c11:∀z:Wd W1,z.w.cell? ⟨w.heap.size,1,none⟩=some (.slice (some ⟨b,o,none⟩) nl c.aC):=fun z=>c1 ⟨z.w,Q.trans hq1 z.q⟩
 have e8:=aB (.string a.group) hW1 8
 have e14:=aB (.int .i64 a.epoch) hW1 14
 have Qx:∀z:Wd W1,Calls Tryz.prog 45 #[.agg (aF c), .int .i64 m, .int .i64 a.scope, .string a.group] z.w _:=fun z=>iK ⟨z.w,Q.trans hq1 z.q⟩
 have FU:∀z:Wd W1,(Instr.loadAt 41 (.pointer (some ⟨w.heap.size,0,none⟩))).run Tryz.prog z.w= .ok (.agg (aF c)) z.w:=fun z=>cZ ⟨z.w,Q.trans hq1 z.q⟩
 have Qy:∀j (h:j<c.acts.length) (z:Wd W1) n v,c.acts[j].cells[n]?=some v->z.w.cell? ⟨b,o+j*20+n,none⟩=some v:=fun j h z=>uQ j h ⟨z.w,Q.trans hq1 z.q⟩
 clear CJ hW1 hld uV f6 k6 f7 k7 iU c1 a3 hq HX iK cZ uQ
 generalize y.w.heap.size=g3 at*
 obtain⟨z,hz⟩:=Wd.first W1
 rw[hz]
 clear hz
 go_upto_region 7 with(first|(refine aI (.tmp 4) (FU _) ?_)|(go_at_call 45;refine(Qx _).mono ?_;rintro e w' ⟨rfl,hq2⟩;obtain⟨z2,rfl⟩:=Wd.next z hq2;clear hq2))
 clear Qx FU
 rcases hd with rfl|⟨rfl,xA,sH⟩
 ·refine kJ z2 (by kernel_rfl) (by kernel_rfl) ?_
  repeat(go_big_quiet_step (fail))
  refine wpQuiet_nil ?_
  rintro w'' ⟨z3,rfl⟩
  go_wp2_with fail
  exact bodyPost_ret (Kv rfl _ _ _ _ _ _ rfl rfl (Ar.out z3 _ _).s.cell (Ar.out z3 _ _).o.cell) rfl ⟨rfl,(Ar.out z3 _ _).q⟩
 ·have hgN:gi<nl:=by omega
  have hgI:(gi:Int)<(nl:Int):=by omega
  have hg0:(0:Int)<=(gi:Int):=by omega
  have r14:∀z:Wd W1,z.w.cell? ⟨b,o+gi*20+14,none⟩=some (.int .i64 c.acts[gi].epoch):=fun z=>Qy gi xA z 14 _ rfl
  have Uu:(c.acts[gi].epoch !=a.epoch)=true:=by rw[bne,sH];rfl
  clear Qy
  refine kJ z2 (by kernel_rfl) (by kernel_rfl) ?_
  repeat(go_big_quiet_step (fail))
  refine wpQuiet_nil ?_
  rintro w'' ⟨z3,rfl⟩
  go_wp2_with fail
  exact bodyPost_ret (Kv rfl _ _ _ _ _ _ rfl rfl (Ar.out z3 _ _).s.cell (Ar.out z3 _ _).o.cell) rfl ⟨rfl,(Ar.out z3 _ _).q⟩
end bP
namespace bP
open Go.RowKit aQ Mem _root_.Go.Proofs.YtbemmjnjoabadaaGreatDoor.Code aY Sign _root_.Go.Proofs.YtbemmjnjoabadaaGreatDoor.Item _root_.Go.Proofs.YtbemmjnjoabadaaGreatDoor.Known BQ
attribute [local go_sem] Oper.semAt_some
abbrev Sm:={d:ByteArray//d.size<=2000000}
theorem arT(n:Nat)(hn:2<=n)(bc bg bs:Nat)(w0:World)(c:ay)(g:Nat)(hg:g<c.acts.length)(A:Option Addr)(cx:Nat)(xs:List Int)(w:World)(hq0:Q w0 w)(hT:Tab w0)(hI:gX w0 c)(hX:Ints w0 A xs)(hx:∀x∈xs,I64 x)(hlm:xs.length<=maxLen)(hsz:Vk c.acts[g])(hcz:∀d∈jk (eP c g) c.acts[g] xs,d.size<=2000000)
 (hbc:ah w bc 41 (aF c)) (hbg:ah w bg 3 #[.int .i64 g]) (hbs:ah w bs 49 #[.slice A xs.length cx]):
 SeqStopsK Fence.wide n Tryz.prog 94 #[.pointer (some ⟨bc,0,none⟩), .pointer (some ⟨bg,0,none⟩), .pointer (some ⟨bs,0,none⟩)] (fun x:Sm=> #[.string x.1]) (sS w0.heap.size) (fun ys=>ys.map (·.1)=jk (eP c g) c.acts[g] xs) (fun pre=>pre.map (·.1)<+:jk (eP c g) c.acts[g] xs) (jk (eP c g) c.acts[g] xs).length w:=by
 intro l J Jx W hW hJ _ hY h0
 have hR:=arH n hn l bc bg bs w0 c g hg A cx xs (fun ys W=>∃zs:List Sm,zs.map (·.1)=ys/\J zs W) (fun ys W=>∃zs:List Sm,zs.map (·.1)=ys/\Jx zs W) W (Q.trans hq0 hW) hT hI hX hx hlm hsz (hbc.q hW) (hbg.q hW) (hbs.q hW)
  (fun s X Y row hs hg hr=>by obtain⟨zs,e,h⟩:=hs;exact⟨zs,e,hJ _ _ _ _ h hg hr⟩)
  (fun pre x W1 h1 h2=>by
    obtain⟨zs,rfl,hz⟩:=h1
    have hmem:x∈jk (eP c g) c.acts[g] xs:=h2.subset (by simp)
    have hlen:=h2.length_le
    rw[List.length_append,List.length_map]at hlen
    simp at hlen
    refine(hY zs ⟨x,hcz x hmem⟩ W1 hz (by omega)).mono ?_
    rintro e W' (⟨h3,h4,h5⟩|⟨h3,h4⟩)
    ·exact .inl ⟨h3,⟨_,by simp,h4⟩,h5⟩
    ·exact .inr ⟨h3,⟨_,by simp,h4⟩⟩)
  ⟨[],rfl,h0⟩
 refine hR.mono ?_
 rintro e W' ⟨h1,⟨ys,h2,zs,h3,h4⟩|⟨pre,h2,zs,h3,h4⟩⟩
 ·exact⟨h1, .inl ⟨zs,h3.trans h2,h4⟩⟩
 ·exact⟨h1, .inr ⟨zs,(show zs.map (·.1)<+:_ by rw[h3];exact h2),h4⟩⟩
theorem Zh{W W':World}{g:Nat}{t:TypeId}{cs:Array Value}{row:Option Nat}(h:ah W g t cs)(hg:W.grownBy W' row)(hr:∀r,row=some r->∃o:Obj,W.heap[r]?=some o/\o.isCells=false):ah W' g t cs:=(hg.block g h.lt (fun e=>by
 obtain⟨o,ho,hc⟩:=hr g e.symm
 rw[show W.heap[g]?=_ from h]at ho
 cases ho
 cases hc)).trans h
structure Ee(w W:World)(g6 g7 g3:Nat)(a:ak)(d:ByteArray)(b:Bool):Prop where
 s:Boxed W g6 9 (.string d)
 o:Boxed W g7 4 (.bool b)
 a:ah W g3 37 a.cells.toArray
 q:Below w.heap.size w W
theorem Ee.grown{w W W':World}{g6 g7 g3:Nat}{a:ak}{d:ByteArray}{b:Bool}{row:Option Nat}(h:Ee w W g6 g7 g3 a d b)(hg:W.grownBy W' row)(hr:∀r,row=some r->w.heap.size<=r/\∃o:Obj,W.heap[r]?=some o/\o.isCells=false):Ee w W' g6 g7 g3 a d b:=by
 have hr2:=fun r e=>(hr r e).2
 exact⟨Zh h.s hg hr2,Zh h.o hg hr2,Zh h.a hg hr2,h.q.grown hg h.q.size (fun k e=>(hr k e).1)⟩
theorem Ee.set{w W:World}{g6 g7 g3:Nat}{a:ak}{d:ByteArray}{b:Bool}(t:Ee w W g6 g7 g3 a d b)(h1:w.heap.size<=g6)(h2:w.heap.size<=g7)(h3:g6≠g7)(h4:g3≠g6)(h5:g3≠g7)(d':ByteArray)(b':Bool):
 Ee w ((W.setCell ⟨g6,0,none⟩ (.string d')).setCell ⟨g7,0,none⟩ (.bool b')) g6 g7 g3 a d' b'/\KeepsOthers W ((W.setCell ⟨g6,0,none⟩ (.string d')).setCell ⟨g7,0,none⟩ (.bool b')):=by
 have e1:(W.setCell ⟨g6,0,none⟩ (.string d')).heap[g3]?=W.heap[g3]?:=Below.heap_setCell _ _ _ g3 (by simpa using h4)
 have e2:((W.setCell ⟨g6,0,none⟩ (.string d')).setCell ⟨g7,0,none⟩ (.bool b')).heap[g3]?=(W.setCell ⟨g6,0,none⟩ (.string d')).heap[g3]?:=Below.heap_setCell _ _ _ g3 (by simpa using h5)
 exact⟨⟨(t.s.set _).other h3 _,(t.o.other (Ne.symm h3) _).set _,(e2.trans e1).trans t.a,(t.q.setCell (p:=⟨g6,0,none⟩) h1 _).setCell (p:=⟨g7,0,none⟩) h2 _⟩,(KeepsOthers.setCell _ _ _).trans (KeepsOthers.setCell _ _ _)⟩
theorem arU(A:Option Addr)(cx:Nat)(xs:List Int)(c:ay)(m:Nat)(w:World)(hT:Tab w)(hI:gX w c)(hX:Ints w A xs)(hx':∀x∈xs,I64 x)(hlm:xs.length<=maxLen)(hm:m<c.acts.length)(hk:nT c.acts[m].kind=true)(hs:(c.acts[m].scope==0)=false)(gi:Nat)(hgb:bZ c m c.acts[m].scope c.acts[m].group=(gi,true))(xA:gi<c.acts.length)(sH:(c.acts[gi].epoch==c.acts[m].epoch)=true)(hsz:Vk c.acts[gi])(hbz:(c.acts[m].bn).size+(c.acts[m].bd).size<=140737480000000)(hcz:∀d∈jk (eP c gi) c.acts[gi] xs,d.size<=2000000):Calls Tryz.prog 15 #[.slice A xs.length cx, .agg (aF c), .int .i64 m] w (Ku (nX (sV c.acts[m]) (jk (eP c gi) c.acts[gi] xs)) w):=by
 have hb1:=ah.new w 41 (aF c)
 have hq1:=aO w (aF c) 41
 have hb2:=ah.new' (g:=w.heap.size+1) (w.alloc (.cells (aF c) 41)) 9 #[.string ⟨#[]⟩] (by simp)
 have hq2:=aO (w.alloc (.cells (aF c) 41)) #[.string ⟨#[]⟩] 9
 have hb3:=ah.new' (g:=w.heap.size+1+1) ((w.alloc (.cells (aF c) 41)).alloc (.cells #[.string ⟨#[]⟩] 9)) 4 #[.bool false] (by simp)
 have hq3:=aO ((w.alloc (.cells (aF c) 41)).alloc (.cells #[.string ⟨#[]⟩] 9)) #[.bool false] 4
 have hb1:=(hb1.q hq2).q hq3
 have hb2:=hb2.q hq3
 have hq:=Q.trans (Q.trans hq1 hq2) hq3
 clear hq1 hq2 hq3
 obtain⟨W0,hW0⟩:∃W0,W0=((w.alloc (.cells (aF c) 41)).alloc (.cells #[.string ⟨#[]⟩] 9)).alloc (.cells #[.bool false] 4):=⟨_,rfl⟩
 rw[<-hW0]at hb1 hb2 hb3 hq
 have hz0:W0.heap.size=w.heap.size+3:=by rw[hW0];simp
 obtain⟨x,hx⟩:=Wd.first W0
 have HX:=Lib.hid (hx.symm.trans hW0)
 have lD:∀y:Wd W0,xw w y.w (w.heap.size+1) (w.heap.size+1+1) ⟨#[]⟩ false:=fun y=>⟨y.blk hb2,y.blk hb3,Q.trans hq y.q⟩
 have c1:=aB (.slice c.aA c.acts.length c.aC) hb1 1
 have f6:∀y:Wd W0,y.w.frozen? ⟨w.heap.size+1,0,none⟩=false:=fun y=>(lD y).s.frozen
 have k6:∀y:Wd W0,y.w.cell? ⟨w.heap.size+1,0,none⟩=some (.string ⟨#[]⟩):=fun y=>(lD y).s.cell
 have f7:∀(y:Wd W0) v,(y.w.setCell ⟨w.heap.size+1,0,none⟩ v).frozen? ⟨w.heap.size+1+1,0,none⟩=false:=fun y v=>((lD y).o.other (by omega) v).frozen
 have k7:∀(y:Wd W0) v,(y.w.setCell ⟨w.heap.size+1,0,none⟩ v).cell? ⟨w.heap.size+1+1,0,none⟩=some (.bool false):=fun y v=>((lD y).o.other (by omega) v).cell
 have uV:Hid (∀(y:Wd W0) d b,xw w ((y.w.setCell ⟨w.heap.size+1,0,none⟩ (.string d)).setCell ⟨w.heap.size+1+1,0,none⟩ (.bool b)) (w.heap.size+1) (w.heap.size+1+1) d b):=Lib.hid (fun y d b=>(lD y).set (by omega) (by omega) (by omega) d b)
 have hT0:=Lib.hid lD
 clear lD hx hW0
 have hmx:maxLen=9223372036854775807:=by decide
 have hal:=hI.aC
 have iK:=fun y:Wd W0=>Jt c m c.acts[m].scope c.acts[m].group y.w (hI.q (Q.trans hq y.q))
 have cZ:=dX (P:=Tryz.prog) (aF c) hb1 Tryz.underlying41
 obtain⟨b,o,eA,hb0,hcs⟩:=(hI.acts.q hq) (by omega)
 rw[eA]at c1
 have iU:=fun y:Wd W0=>Qw c.acts[m].kind y.w
 have a3:∀y:Wd W0,y.w.cell? ⟨b,o+m*20+3,none⟩=some (.int .i64 c.acts[m].kind):=fun y=>Wd.get hb0 (hcs m hm) 3 rfl y
 have hld:=Wd.load (P:=Tryz.prog) (ty:=37) hb0 (hcs m hm) Tryz.underlying37 rfl (by kernel_rfl)
 obtain⟨nl,hnl⟩:∃nl,c.acts.length=nl:=⟨_,rfl⟩
 rw[hnl]at c1 hal
 have hmN:m<nl:=by omega
 have PD:(m:Int)<(nl:Int):=by omega
 have hm0:(0:Int)<=(m:Int):=by omega
 have hmn:¬((m:Int)<0):=by omega
 have hmg:¬((nl:Int)<=(m:Int)):=by omega
 have uQ:∀j (h:j<c.acts.length) (y:Wd W0) n v,c.acts[j].cells[n]?=some v->y.w.cell? ⟨b,o+j*20+n,none⟩=some v:=fun j h y n v hv=>Wd.get hb0 (hcs j h) n hv y
 clear hcs eA hb1 hb2 hb3
 rw[hk]at iU
 obtain⟨a,ha⟩:∃a,c.acts[m]=a:=⟨_,rfl⟩
 rw[ha]at a3 hld hs iK iU hgb sH hbz⊢
 rw[hgb]at iK
 dsimp only at iK
 refine(callsIn_wide (n:=6)).1 ?_
 refine callsIn_of_wp_marks Tryz.func15 rfl trivial ?_ rfl
 simp only[Tryz.ntmps15,List.size_toArray,List.length_cons,List.length_nil,Nat.reduceAdd,Nat.reduceSub,Array.replicate_succ,Array.replicate_zero,List.push_toArray,List.append_toArray,List.nil_append,List.cons_append]
 refine wpIn_wide.2 ?_
 go_upto_region 1 with(fail)
 refine(show Code.wp _ _ _ _ x.w->Code.wp _ _ _ _ _ from fun h=>by rw[HX.out]at h;exact h) ?_
 go_upto_region 4 with(first|(refine kR 38 37 (.tmp 25) (.tmp 26) b o nl c.aC m 20 rfl rfl rfl rfl Tryz.underlying38 (by kernel_rfl) Tryz.sizeOf37 hmN ?_)|(go_at_call 44;refine(iU _).mono ?_;rintro e w' ⟨rfl,hq2⟩;obtain⟨y,rfl⟩:=Wd.next x hq2;clear hq2)|(refine kR 38 37 (.tmp 34) (.tmp 35) b o nl c.aC m 20 rfl rfl rfl rfl Tryz.underlying38 (by kernel_rfl) Tryz.sizeOf37 hmN ?_)|(refine aI (.tmp 36) (hld _) ?_)|(refine fM (ah.new y.w 37 aH.cells.toArray) rfl 37 (.tmp 8) (.tmp 37) a.cells rfl rfl rfl (by kernel_rfl) (dL _) (Nat.le_refl 20) ?_))
 intro W1 hW1 CJ
 rw[bC _ _ (by rfl)]at hW1
 have hq1:Q W0 W1:=CJ _ _ y.q.size (Q.trans y.q (aO _ _ _))
 have e7:=aB (.int .i64 a.scope) hW1 7
 have e10:=aB (.string a.text) hW1 10
 have f61:∀z:Wd W1,z.w.frozen? ⟨w.heap.size+1,0,none⟩=false:=fun z=>f6 ⟨z.w,Q.trans hq1 z.q⟩
 have Ze:∀z:Wd W1,z.w.cell? ⟨w.heap.size+1,0,none⟩=some (.string ⟨#[]⟩):=fun z=>k6 ⟨z.w,Q.trans hq1 z.q⟩
 have f71:∀(z:Wd W1) v,(z.w.setCell ⟨w.heap.size+1,0,none⟩ v).frozen? ⟨w.heap.size+1+1,0,none⟩=false:=fun z v=>f7 ⟨z.w,Q.trans hq1 z.q⟩ v
 have Zf:∀(z:Wd W1) v,(z.w.setCell ⟨w.heap.size+1,0,none⟩ v).cell? ⟨w.heap.size+1+1,0,none⟩=some (.bool false):=fun z v=>k7 ⟨z.w,Q.trans hq1 z.q⟩ v
 have Ar:Hid (∀(z:Wd W1) d b,xw w ((z.w.setCell ⟨w.heap.size+1,0,none⟩ (.string d)).setCell ⟨w.heap.size+1+1,0,none⟩ (.bool b)) (w.heap.size+1) (w.heap.size+1+1) d b):=Lib.hid (fun z=>uV.out ⟨z.w,Q.trans hq1 z.q⟩)
 have hgW:=hW1.lt
 have c11:∀z:Wd W1,z.w.cell? ⟨w.heap.size,1,none⟩=some (.slice (some ⟨b,o,none⟩) nl c.aC):=fun z=>c1 ⟨z.w,Q.trans hq1 z.q⟩
 have e8:=aB (.string a.group) hW1 8
 have e14:=aB (.int .i64 a.epoch) hW1 14
 have Qx:∀z:Wd W1,Calls Tryz.prog 45 #[.agg (aF c), .int .i64 m, .int .i64 a.scope, .string a.group] z.w _:=fun z=>iK ⟨z.w,Q.trans hq1 z.q⟩
 have FU:∀z:Wd W1,(Instr.loadAt 41 (.pointer (some ⟨w.heap.size,0,none⟩))).run Tryz.prog z.w= .ok (.agg (aF c)) z.w:=fun z=>cZ ⟨z.w,Q.trans hq1 z.q⟩
 have Qy:∀j (h:j<c.acts.length) (z:Wd W1) n v,c.acts[j].cells[n]?=some v->z.w.cell? ⟨b,o+j*20+n,none⟩=some v:=fun j h z=>uQ j h ⟨z.w,Q.trans hq1 z.q⟩
 have af6:=Q.trans hq hq1
 have hT1:Hid (∀z:Wd W1,xw w z.w (w.heap.size+1) (w.heap.size+1+1) ⟨#[]⟩ false):=Lib.hid (fun z=>hT0.out ⟨z.w,Q.trans hq1 z.q⟩)
 have HW1:=Lib.hid hW1
 clear CJ hW1 hld uV f6 k6 f7 k7 iU c1 a3 hq HX iK cZ uQ
 have hg3:W0.heap.size<=y.w.heap.size:=y.q.size
 generalize y.w.heap.size=g3 at*
 obtain⟨z,hz⟩:=Wd.first W1
 rw[hz]
 clear hz
 go_upto_region 7 with(first|(refine aI (.tmp 4) (FU _) ?_)|(go_at_call 45;refine(Qx _).mono ?_;rintro e w' ⟨rfl,hq2⟩;obtain⟨z2,rfl⟩:=Wd.next z hq2;clear hq2))
 clear Qx
 have hgN:gi<nl:=by omega
 have hgI:(gi:Int)<(nl:Int):=by omega
 have hg0:(0:Int)<=(gi:Int):=by omega
 have r14:∀z:Wd W1,z.w.cell? ⟨b,o+gi*20+14,none⟩=some (.int .i64 c.acts[gi].epoch):=fun z=>Qy gi xA z 14 _ rfl
 have Uu:(c.acts[gi].epoch !=a.epoch)=false:=by rw[bne,sH];rfl
 clear Qy
 refine kJ z2 (by kernel_rfl) (by kernel_rfl) ?_
 repeat(go_big_quiet_step (fail))
 refine wpQuiet_nil ?_
 rintro w'' ⟨z3,rfl⟩
 go_wp2_with (first|(refine aI (.tmp 4) (FU _) ?_)|(go_at_call 46;refine(arQ A xs.length cx c gi _).mono ?_;rintro e w' ⟨rfl,hw4⟩))
 rename_i KK Vm
 obtain⟨Z,hZ⟩:∃Z,z3.w=Z:=⟨_,rfl⟩
 have gI:Q w Z:=hZ▸Q.trans af6 z3.q
 have Zi:=hT1.out z3
 have hB3:=z3.blk HW1.out
 have hsz1:=z3.q.size
 have hw1:=af6.size
 rw[hZ]at hw4 Zi hB3 hsz1⊢
 have b1:=ah.new Z 49 #[.slice A xs.length cx]
 have q1:=aO Z #[.slice A xs.length cx] 49
 have b2:=ah.new' (g:=Z.heap.size+1) (Z.alloc (.cells #[.slice A xs.length cx] 49)) 41 (aF c) (by simp)
 have q2:=aO (Z.alloc (.cells #[.slice A xs.length cx] 49)) (aF c) 41
 have b3:=ah.new' (g:=Z.heap.size+1+1) ((Z.alloc (.cells #[.slice A xs.length cx] 49)).alloc (.cells (aF c) 41)) 3 #[.int .i64 gi] (by simp)
 have q3:=aO ((Z.alloc (.cells #[.slice A xs.length cx] 49)).alloc (.cells (aF c) 41)) #[.int .i64 gi] 3
 have b1:=(b1.q q2).q q3
 have b2:=b2.q q3
 have hp:=Q.trans (Q.trans q1 q2) q3
 rw[<-hw4]at b1 b2 b3 hp⊢
 clear q1 q2 q3 hw4 hT1 HW1 hT0 f61 Ze f71 Zf Ar c11 FU e7 e8 e10 e14 r14 Uu hZ
 have hq4:=Q.trans gI hp
 have Vo:=hq4.size
 have zu:Ee w w' (w.heap.size+1) (w.heap.size+1+1) g3 a ⟨#[]⟩ false:=⟨Zi.s.kept (CG hp) (by simp),Zi.o.kept (CG hp) (by simp),hB3.q hp,hq4⟩
 refine(wpIn_wide (n:=6)).1 ?_
 refine wpIn_rangeFunc_ownH rfl (by decide) (gf:=94) (lb:= #[.pointer (some ⟨Z.heap.size+1,0,none⟩), .pointer (some ⟨Z.heap.size+1+1,0,none⟩), .pointer (some ⟨Z.heap.size,0,none⟩)]) rfl trivial (enters_of Tryz.func94 (by kernel_rfl) rfl)
  (arT 5 (by decide) _ _ _ w c gi xA A cx xs w' hq4 hT hI hX hx' hlm hsz hcz b2 b3 b1) sS.trans (fun W l o o' hl h hc hw=>sS.putObj (w:=w') (by omega) W l o o' hl h hc hw) (Below.refl _ _) (fun _=>rfl)
  (fun pre W=>nX (sV a) (pre.map (·.1))=none/\Ee w W (w.heap.size+1) (w.heap.size+1+1) g3 a ⟨#[]⟩ false)
  (fun cd pre W=>∃d,cd= .ret/\(∀l,pre.map (·.1)<+:l->nX (sV a) l=some d)/\Ee w W (w.heap.size+1) (w.heap.size+1+1) g3 a d true)
  (fun s A B row hs hg hr=>⟨hs.1,hs.2.grown hg (fun r e=>⟨by have:=(hr r e).1;have:=hq4.size;omega,(hr r e).2⟩)⟩)
  (fun _ s A B row hs hg hr=>by obtain⟨d,h1,h2,h3⟩:=hs;exact⟨d,h1,h2,h3.grown hg (fun r e=>⟨by have:=(hr r e).1;have:=hq4.size;omega,(hr r e).2⟩)⟩)
  ⟨rfl,zu⟩
  (fun(x:Sm) a' W=>a'={tmps:= #[Value.slice A xs.length cx,Value.agg (aF c),Value.int IntKind.i64 ↑m,undef,Value.pointer (some {block:=w.heap.size,off:=0}),undef,Value.pointer (some {block:=w.heap.size+1,off:=0}),Value.pointer (some {block:=w.heap.size+1+1,off:=0}),Value.pointer (some {block:=g3,off:=0}),Value.int IntKind.i64 ↑gi,Value.bool true,Value.string x.1,undef,undef,Value.int IntKind.i64 ↑m,Value.bool false,Value.bool false,Value.int IntKind.i64 ↑m,Value.pointer (some {block:=w.heap.size,off:=1}),Value.slice (some {block:=b,off:=o}) nl c.aC,Value.int IntKind.i64 ↑nl,Value.bool false,Value.bool false,Value.bool false,Value.pointer (some {block:=w.heap.size,off:=1}),Value.slice (some {block:=b,off:=o}) nl c.aC,Value.int IntKind.i64 ↑m,Value.pointer (some {block:=b,off:=o+m*20}),Value.pointer (some {block:=b,off:=o+m*20+3}),Value.int IntKind.i64 a.kind,Value.bool true,Value.bool false,Value.bool false,Value.pointer (some {block:=w.heap.size,off:=1}),Value.slice (some {block:=b,off:=o}) nl c.aC,Value.int IntKind.i64 ↑m,Value.pointer (some {block:=b,off:=o+m*20}),Value.agg (au a),Value.pointer (some {block:=g3,off:=7}),Value.int IntKind.i64 a.scope,Value.bool false,undef,undef,Value.tuple #[Value.int IntKind.i64 ↑gi,Value.bool true],Value.agg (aF c),Value.int IntKind.i64 ↑m,Value.pointer (some {block:=g3,off:=7}),Value.int IntKind.i64 a.scope,Value.pointer (some {block:=g3,off:=8}),Value.string a.group,Value.tuple #[Value.int IntKind.i64 ↑gi,Value.bool true],Value.int IntKind.i64 ↑gi,Value.bool true,Value.bool true,Value.bool false,Value.bool false,Value.pointer (some {block:=w.heap.size,off:=1}),Value.slice (some {block:=b,off:=o}) nl c.aC,Value.int IntKind.i64 ↑gi,Value.pointer (some {block:=b,off:=o+gi*20}),Value.pointer (some {block:=b,off:=o+gi*20+14}),Value.int IntKind.i64 c.acts[gi].epoch,Value.pointer (some {block:=g3,off:=14}),Value.int IntKind.i64 a.epoch,Value.bool false,Value.bool false,Value.slice A xs.length cx,Value.agg (aF c),Value.int IntKind.i64 ↑gi,Value.func (Fn.func 94) #[] #[Value.pointer (some {block:=Z.heap.size+1,off:=0}),Value.pointer (some {block:=Z.heap.size+1+1,off:=0}),Value.pointer (some {block:=Z.heap.size,off:=0})],Value.string x.1,undef,undef,undef,undef,undef,undef,undef,undef,undef],defers:=[]})
  (fun _ _ _ _ _ _ hs _ _=>hs) ?assign ?body ?done ?stop
 case assign=>
  rintro l pre x W K hi hK
  refine Vh (by rintro⟨a,w,h⟩;exact h) (by kernel_rfl) ?_
  go_wp2_with fail
  exact hK _ _ ((KeepsOthers.refl _).from _) (sS.refl _ _) hi rfl
 case body=>
  rintro l pre x a' W hl ⟨r,hr⟩ ⟨hno,mZ⟩ rfl hlt
  obtain⟨u,hu⟩:=Wd.first W
  have hx2:=x.2
  have hLb:∀u:Wd W,(Instr.loadAt 32 (.pointer (some ⟨g3,11,none⟩))).run Tryz.prog u.w= .ok (.agg #[.string a.bn, .string a.bd, .string a.bt]) u.w:=fun u=>Wd.load mZ.a.lt (OB (ah.range mZ.a) 11 3) Tryz.underlying32 rfl (by kernel_rfl) u
  have Ky:=fun u:Wd W=>bV.UR x.1 a.bn a.bd a.bt u.w (hT.q (Q.trans mZ.q u.q)) (by omega)
  have hU:∀u:Wd W,Ee w u.w (w.heap.size+1) (w.heap.size+1+1) g3 a ⟨#[]⟩ false:=fun u=>mZ.grown (CG u.q) (fun r e=>by cases e)
  have k6:∀u:Wd W,u.w.cell? ⟨w.heap.size+1,0,none⟩=some (.string ⟨#[]⟩):=fun u=>(hU u).s.cell
  have f6:∀u:Wd W,u.w.frozen? ⟨w.heap.size+1,0,none⟩=false:=fun u=>(hU u).s.frozen
  have f7:∀(u:Wd W) v,(u.w.setCell ⟨w.heap.size+1,0,none⟩ v).frozen? ⟨w.heap.size+1+1,0,none⟩=false:=fun u v=>((hU u).o.other (by omega) v).frozen
  have k7:∀(u:Wd W) v,(u.w.setCell ⟨w.heap.size+1,0,none⟩ v).cell? ⟨w.heap.size+1+1,0,none⟩=some (.bool false):=fun u v=>((hU u).o.other (by omega) v).cell
  have Zj:Hid (∀v:Wd W,KeepsOthers u.w v.w/\sS w.heap.size u.w v.w):=Lib.hid (fun u'=>(show KeepsOthers W u'.w/\sS w.heap.size W u'.w->_ from fun h=>hu▸h) ⟨KeepsOthers.of_grownBy (CG u'.q) (fun j o e _=>by cases e),sS.pV u'.q mZ.q.size⟩)
  have HU:=Lib.hid hU
  have HM:=Lib.hid (fun h=>arS (sV a) (pre.map (·.1)) x.1 hno h)
  have HH:=Lib.hid (fun l hp h=>arR (sV a) (pre.map (·.1)) l x.1 hno hp h)
  have hme:(pre++[x]).map (·.1)=pre.map (·.1)++[x.1]:=by simp
  have HME:=Lib.hid hme
  clear mZ hU hme hr b1 b2 b3 Vm hx2
  refine(show Code.wpIn _ _ _ _ _ _ u.w->Code.wpIn _ _ _ _ _ _ W from fun h=>by rw[hu];exact h) ?_
  obtain⟨pt,ok,hpo⟩:∃pt ok,bV.nR x.1 (a.bn,a.bd,a.bt)=(pt,ok):=⟨_,_,rfl⟩
  have Zk:=Lib.hid hpo
  rw[hpo]at Ky
  dsimp only at Ky
  refine wpIn_block ?_
  refine wpIn_seq ?_
  refine Vh (by rintro⟨a,w,h⟩;exact h) (by kernel_rfl) ?_
  go_wp2_with (first|(refine aI (.tmp 73) (hLb _) ?_)|(go_at_call 47;refine(Ky _).mono ?_;rintro e w5 ⟨rfl,hq2⟩;obtain⟨u2,rfl⟩:=Wd.next u hq2;clear hq2))
  clear Ky hLb
  refine wpIn_seq ?_
  refine Vh (by rintro⟨a,w,h⟩;exact h) (by kernel_rfl) ?_
  cases ok
  ·go_wp2_with fail
   refine wpIn_cond_false rfl ?_
   refine wpIn_skip ?_
   exact⟨(Zj.out u2).1.from _,(Zj.out u2).2,by rw[HME.out];exact HM.out (by rw[show sV a=(a.bn,a.bd,a.bt)from rfl,Zk.out]),HU.out u2⟩
  ·go_wp2_with fail
   refine wpIn_cond_true rfl ?_
   refine wpIn_seq ?_
   refine Vh (by rintro⟨a,w,h⟩;exact h) (by kernel_rfl) ?_
   go_wp2_with fail
   gi_wp2
   have hST:=(HU.out u2).set (by omega) (by omega) (by omega) (by omega) (by omega) pt true
   exact⟨((Zj.out u2).1.trans hST.2).from _,pt,rfl,fun l hp=>by rw[HH.out l (by rw[<-HME.out];exact hp) (by rw[show sV a=(a.bn,a.bd,a.bt)from rfl,Zk.out]),show sV a=(a.bn,a.bd,a.bt)from rfl,Zk.out],hST.1⟩
 case done=>
  rintro D ys W hD hS ⟨hno,mZ⟩ hK
  have yV:nX (sV a) (jk (eP c gi) c.acts[gi] xs)=none:=by rw[<-hS];exact hno
  dsimp only[Exit.inBlock,Exit.then]
  refine Vm _ _ ?_
  have k6:=mZ.s.cell
  have f6:=mZ.s.frozen
  have k7:=(mZ.o.other (B':=w.heap.size+1) (by omega) (.string ⟨#[]⟩)).cell
  have f7:=(mZ.o.other (B':=w.heap.size+1) (by omega) (.string ⟨#[]⟩)).frozen
  have hST:=mZ.set (by omega) (by omega) (by omega) (by omega) (by omega) ⟨#[]⟩ false
  have hK':=hST.2.same D _ hK rfl
  have Qz:=hST.1.grown (grownBy_putObj' _ D (.deferred none)) (fun r e=>by cases e;exact⟨by omega,_,hK',rfl⟩)
  have HF:=Lib.hid Qz
  have HN:=Lib.hid yV
  clear mZ b1 b2 b3 Vm Qz hST hno yV
  go_wp2_with fail
  refine⟨by simp, .inl ⟨_,_,rfl,run_takeDeferred hK',?_⟩⟩
  exact⟨_,Kv rfl _ _ _ _ _ _ rfl rfl HF.out.s.cell HF.out.o.cell,by rw[HN.out];exact⟨rfl,HF.out.q⟩⟩
 case stop=>
  rintro D cd pre W hD hpre ⟨d,rfl,hh,mZ⟩ hK
  have yV:nX (sV a) (jk (eP c gi) c.acts[gi] xs)=some d:=hh _ hpre
  have Qz:=mZ.grown (grownBy_putObj' _ D (.deferred none)) (fun r e=>by cases e;exact⟨by omega,_,hK,rfl⟩)
  have HF:=Lib.hid Qz
  have HN:=Lib.hid yV
  clear mZ b1 b2 b3 Vm Qz hh yV
  gi_wp2
  refine⟨by simp, .inl ⟨_,_,rfl,run_takeDeferred hK,?_⟩⟩
  exact⟨_,Kv rfl _ _ _ _ _ _ rfl rfl HF.out.s.cell HF.out.o.cell,by rw[HN.out];exact⟨rfl,HF.out.q⟩⟩
end bP
namespace bP
open Go.RowKit aQ Mem _root_.Go.Proofs.YtbemmjnjoabadaaGreatDoor.Code aY Sign _root_.Go.Proofs.YtbemmjnjoabadaaGreatDoor.Item _root_.Go.Proofs.YtbemmjnjoabadaaGreatDoor.Known BQ
structure Zl(c:ay)(xs:List Int):Prop where
 acts:∀a∈c.acts,Vk a/\a.bn.size+a.bd.size<=140737480000000
 arV:∀a∈c.acts,∀k,∀d∈jk k a xs,d.size<=2000000
theorem UR(A:Option Addr)(cx:Nat)(xs:List Int)(c:ay)(i:Int)(w:World)(hT:Tab w)(hI:gX w c)(hX:Ints w A xs)(hx:∀x∈xs,I64 x)(hlm:xs.length<=maxLen)(hz:Zl c xs):Calls Tryz.prog 15 #[.slice A xs.length cx, .agg (aF c), .int .i64 i] w (Ku (oO c xs i) w):=by
 by_cases hneg:i<0
 ·have e:oO c xs i=none:=by unfold oO uf;rw[if_pos (by simpa using hneg)]
  rw[e]
  exact afZ A cx xs c i w hI (.inl hneg)
 by_cases hge:(c.acts.length:Int)<=i
 ·have e:oO c xs i=none:=by unfold oO uf;rw[if_neg (by simpa using hneg),List.getElem?_eq_none (by omega)]
  rw[e]
  exact afZ A cx xs c i w hI (.inr ⟨hneg,hge⟩)
 obtain⟨m,rfl⟩:∃m:Nat,i=(m:Int):=⟨i.toNat,by omega⟩
 have hm:m<c.acts.length:=by omega
 have e:oO c xs m=FW c xs m c.acts[m]:=by
  unfold oO uf
  rw[if_neg (by simp),Int.toNat_natCast,List.getElem?_eq_getElem hm]
 rw[e]
 unfold FW
 cases hk:nT c.acts[m].kind
 ·rw[if_neg (by simp)]
  have h:=af0 A cx xs c m w hI hm (.inl hk)
  rwa[hk,if_neg (by simp)]at h
 rw[if_pos rfl]
 cases hs:(c.acts[m].scope==0)
 rotate_left 1
 ·rw[if_pos rfl]
  have h:=af0 A cx xs c m w hI hm (.inr ⟨hk,hs⟩)
  rwa[hk,if_pos rfl]at h
 rw[if_neg (by simp)]
 unfold Ih
 obtain⟨gi,bo,hgb⟩:∃gi bo,bZ c m c.acts[m].scope c.acts[m].group=(gi,bo):=⟨_,_,rfl⟩
 cases bo
 ·rw[hgb,if_neg (by simp)]
  exact af4 A cx xs c m w hI hm hk hs (.inl (by rw[hgb]))
 have hgl:=O8 c.acts[m].scope c.acts[m].group c.acts (fH c m)
 have ax6:fH c m=m:=by unfold fH;omega
 have xA:gi<c.acts.length:=by
  unfold bZ at hgb
  injection hgb with h1 h2
  have:=hgl.2.2 (of_decide_eq_true h2)
  omega
 rw[hgb,if_pos rfl]
 dsimp only
 rw[List.getElem?_eq_getElem xA]
 dsimp only
 cases sH:(c.acts[gi].epoch==c.acts[m].epoch)
 ·rw[if_neg (by simp)]
  exact af4 A cx xs c m w hI hm hk hs (.inr (by rw[hgb];exact⟨rfl,xA,sH⟩))
 ·rw[if_pos rfl]
  exact arU A cx xs c m w hT hI hX hx hlm hm hk hs gi hgb xA sH (hz.acts _ (List.getElem_mem xA)).1 (hz.acts _ (List.getElem_mem hm)).2 (hz.arV _ (List.getElem_mem xA) _)
theorem arW(k:Option iJ)(x:Int)(h:Ie k x=true):∃kk,k=some kk/\xW x=true/\dW 37 x=kk.pub:=by
 unfold Ie at h
 cases k with
 |none=>simp at h
 |some kk=>
  refine⟨kk,rfl,?_⟩
  simp at h
  obtain⟨h1,h2⟩:=h
  unfold iP at h1
  simp at h1
  have hx:¬(x<1∨x>2305843009213693949):=by
   intro hx
   have:Sign.keyOf x=(0,0):=by unfold Sign.keyOf;rw[if_pos hx]
   rw[this]at h1
   omega
  have hko:Sign.keyOf x=(x,dW 37 x):=by unfold Sign.keyOf;rw[if_neg hx]
  rw[hko]at h2
  refine⟨?_,h2⟩
  unfold xW
  simp
  omega
theorem arX(x:Int)(v:bQ)(h:nK x v≠[]):xW x=true/\dW 37 x=v.to:=by
 unfold nK at h
 by_cases hu:bV.xg x v.kH=true
 ·unfold bV.xg at hu
  simp at hu
  obtain⟨⟨h1,h2⟩,-⟩:=hu
  refine⟨?_,?_⟩
  ·unfold bV.um at h1
   unfold xW
   exact h1
  ·exact h2.symm
 ·have:=bV.Qs x v.kH (by simpa using hu)
  rw[this]at h
  simp at h
theorem af8(xs:List Int)(x:Int)(h:x∈xs)(hp:xW x=true):dW 37 x∈iZ xs:=List.mem_map.2 ⟨x,List.mem_filter.2 ⟨h,hp⟩,rfl⟩
theorem arY(b:ByteArray×ByteArray×ByteArray)(l:List ByteArray)(h:(nX b l).isSome=true):l≠[]:=by
 rintro rfl
 simp[nX]at h
theorem ax7(c:ay)(xs:List Int)(i:Int)(h:(oO c xs i).isSome=true):jA (iZ xs) c i=true:=by
 unfold oO at h
 unfold jA
 cases ha:uf c.acts i with
 |none=>rw[ha]at h;simp at h
 |some a=>
  rw[ha]at h
  dsimp only at h⊢
  unfold FW at h
  unfold Bz
  cases hk:nT a.kind
  ·rw[hk]at h;simp at h
  rw[hk,if_pos rfl]at h
  cases hs:(a.scope==0)
  rotate_left 1
  ·rfl
  rw[hs,if_neg (by simp)]at h
  rw[Bool.true_and,Bool.false_or]
  unfold Ih at h
  unfold DR
  cases hg:(bZ c i a.scope a.group).2
  ·rw[hg]at h;simp at h
  rw[hg,if_pos rfl]at h
  rw[Bool.true_and]
  cases hga:c.acts[(bZ c i a.scope a.group).1]? with
  |none=>rw[hga]at h;simp at h
  |some ga=>
   rw[hga]at h
   dsimp only at h⊢
   cases he:(ga.epoch==a.epoch)
   ·rw[he]at h;simp at h
   rw[he,if_pos rfl]at h
   rw[Bool.true_and]
   have hne:=arY _ _ h
   unfold jk at hne
   obtain⟨d,hd⟩:=List.exists_mem_of_ne_nil _ hne
   obtain⟨x,hx,hd⟩:=List.mem_flatMap.1 hd
   unfold Kr at hd
   rcases List.mem_append.1 hd with hd|hd
   ·unfold vk at hd
    cases hb:Ie (eP c (bZ c i a.scope a.group).1) x
    ·rw[hb]at hd;simp at hd
    ·obtain⟨kk,h1,h2,h3⟩:=arW _ _ hb
     have:wY (iZ xs) c (bZ c i a.scope a.group).1=true:=by
      unfold wY
      rw[h1]
      dsimp only
      have:=af8 xs x hx h2
      rw[h3]at this
      unfold iR
      simpa using this
     rw[this];rfl
   ·obtain⟨v,hv,hd⟩:=List.mem_flatMap.1 hd
    obtain⟨h2,h3⟩:=arX x v (List.ne_nil_of_mem hd)
    have:yS (iZ xs) ga=true:=by
     unfold yS
     refine List.any_eq_true.2 ⟨v,hv,?_⟩
     have:=af8 xs x hx h2
     rw[h3]at this
     unfold iR
     simpa using this
    rw[this,Bool.or_true]
end bP
end Go.Proofs.YtbemmjnjoabadaaGreatDoor
