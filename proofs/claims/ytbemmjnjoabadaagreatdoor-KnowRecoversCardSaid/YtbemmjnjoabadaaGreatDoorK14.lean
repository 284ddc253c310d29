/- part 14 -/
import Derived.Laws.ResultCell
import Derived.Deep.MidRow
import Derived.Test.YtbemmjnjoabadaaGreatDoorK13
set_option linter.unusedVariables false
set_option linter.unusedSimpArgs false
set_option maxHeartbeats 4000000
set_option maxRecDepth 100000
namespace Go.Proofs.YtbemmjnjoabadaaGreatDoor
namespace bV
open Go.RowKit aQ Mem _root_.Go.Proofs.YtbemmjnjoabadaaGreatDoor.Code aY
open Sign (aO Strs.of)
theorem aqt{P:Program}{fn:Func}{p u:Tmp}{ty:TypeId}(h:fn.results= #[.cell p ty, .tmp u])(tmps:Array Value)(w:World)(g:Nat)(t:TypeId)(cs:Array Value)(fr:Nat×Nat)(d:TypeDesc)(v:Value)
 (hp:tmps.getD p undef= .pointer (some ⟨g,0,none⟩)) (hv:tmps.getD u undef=v) (hg:w.heap[g]?=some (.cells cs t fr))
 (hu:P.underlying ty=some d) (hd:(match d with| .struct _| .array _ _=>true|_=>false)=true) (hi:(P.info? ty).map (·.size)=some cs.size):
 (results fn tmps).run P w= .ok (.tuple #[.agg cs,v]) w:=by
 rw[results_cell_tmp h,hp,hv]
 simp[asAddr,Result.andThen,run_loadVar_row w g t ty cs fr d hg hu hd hi]
def Ht(v:bQ):Array Value:= #[.int .i64 v.1, .int .i64 v.2.1, .string v.2.2.1, .string v.2.2.2.1, .string v.2.2.2.2]
def YT(v:bQ):Value:= .agg (Ht v)
theorem DT(v:bQ):(Ht v).all (·.oneCell')=true:=by simp[Ht,Value.oneCell']
def o7:bQ:=(0,0,⟨#[]⟩,⟨#[]⟩,⟨#[]⟩)
theorem MR(a e r:Int)(w:World)(h:dW a e=r)(h0: -9223372036854775808<=e)(h1:e<=9223372036854775807):Calls Tryz.prog 28 #[.int .i64 a, .int .i64 e] w fun e' w'=>e'= .returned (.int .i64 r)/\Q w w':=h▸Tv a e w h0 h1
theorem aqu(seed:ByteArray)(pub:Int)(h:seed.size<=140737488354000):(lF [FI,seed,aU pub]).length<=140737488355100:=by
 have h4:=ap2 FI seed (aU pub)
 have h5:FI.size=3:=rfl
 have k1:=iI pub
 omega
theorem Xx(k:ByteArray)(h:k.size=32):(lF [zU,k]).length<=140737488355100:=by
 have h4:=ap3 zU k
 have h5:zU.size=5:=rfl
 omega
theorem afk(a b c:Int):(DX a b c).size=32:=JO _
theorem afl(pub:Int)(seed plain:ByteArray)(w:World)(hT:Tab w)(h:xZ pub=true)(hs:seed.size<=140737488354000)(hp:plain.size<=140737488354000)(afm:pub<=9223372036854775807):
 Calls Tryz.prog 64 #[.int .i64 pub, .string seed, .string plain] w fun e w'=>e= .returned (.tuple #[YT (wZ pub seed plain), .bool true])/\Q w w':=by
 have hb:=ah.new w 115 (Ht o7)
 have hq0:=aO w (Ht o7) 115
 have hk:=Lib.hid (DT (wZ pub seed plain))
 have HE:=Lib.hid (aqu seed pub hs)
 obtain⟨E,hE⟩:∃E,BO seed pub=E:=⟨_,rfl⟩
 have UU:=hE▸YP seed pub
 obtain⟨G,hG⟩:∃G,dW 37 E=G:=⟨_,rfl⟩
 have hGb:=hG▸Ll 37 E
 obtain⟨Z,hZ⟩:∃Z,dW pub E=Z:=⟨_,rfl⟩
 have hZb:=hZ▸Ll pub E
 obtain⟨K,hK⟩:∃K,DX pub G Z=K:=⟨_,rfl⟩
 have hKs:K.size=32:=hK▸afk pub G Z
 obtain⟨N,hN⟩:∃N,uX [zU,K]=N:=⟨_,rfl⟩
 have hNs:N.size=32:=hN▸JO [zU,K]
 have HN:=Lib.hid (Xx K hKs)
 have hW:wZ pub seed plain=(pub,G,sK K N plain):=by unfold wZ;rw[hE,hG,hZ,hK,hN]
 rw[hW]at hk⊢
 clear hW
 obtain⟨⟨b1,b2,b3⟩,hB⟩:∃B,sK K N plain=B:=⟨_,rfl⟩
 rw[hB]at hk⊢
 have HH:=Lib.hid hE
 go_enter Tryz.func64,Tryz.ntmps64
 go_wp2_with fail
 refine(ae4 _ _).mono ?_
 rintro e w1 ⟨rfl,rfl⟩
 rw[h]
 go_wp2_with fail
 refine(kM _ _ afm).mono ?_
 rintro e w2 ⟨rfl,hq2⟩
 have hb:=hb.q hq2
 have hq2:=Q.trans hq0 hq2
 go_wp2_with fail
 refine(PU [FI,seed,aU pub] 3 _ _ _ (hT.q hq2) rfl rfl (by decide) (Nat.le_trans HE.out (by decide))).mono ?_
 rintro e w3 ⟨rfl,hq3⟩
 have hb:=hb.q hq3
 have hq3:=Q.trans hq2 hq3
 clear hq0 hq2
 have hsz:=JO [FI,seed,aU pub]
 have hnb:=acd (uX [FI,seed,aU pub])
 have hEE:1+numOf (uX [FI,seed,aU pub])%2305843009213693949=E:=HH.out
 generalize uX [FI,seed,aU pub]=H at*
 generalize hn:numOf H=n at*
 have f2:n.tmod 2305843009213693949=E-1:=by rw[Int.tmod_eq_emod_of_nonneg (by omega)];omega
 have f3:IntKind.i64.wrap (E-1)=E-1:=IntWalk.i64_in _ ⟨by omega,by omega⟩
 have f4:1+(E-1)=E:=by omega
 have f5:IntKind.i64.wrap E=E:=IntWalk.i64_in _ ⟨by omega,by omega⟩
 clear hEE
 go_wp2_with fail
 refine(Xn _ _ (by omega)).mono ?_
 rintro e w4 ⟨rfl,rfl⟩
 rw[hn]
 clear hsz hn
 go_wp2_with fail
 refine(MR 37 E G _ hG (by omega) (by omega)).mono ?_
 rintro e w5 ⟨rfl,hq4⟩
 have hb:=hb.q hq4
 have hq4:=Q.trans hq3 hq4
 clear hq3
 go_wp2_with fail
 refine(MR pub E Z _ hZ (by omega) (by omega)).mono ?_
 rintro e w6 ⟨rfl,hq5⟩
 have hb:=hb.q hq5
 have hq5:=Q.trans hq4 hq5
 clear hq4
 go_wp2_with fail
 refine(ae3 pub G Z _ (hT.q hq5) afm (by omega) (by omega)).mono ?_
 rintro e w7 ⟨rfl,hq6⟩
 rw[hK]
 have hb:=hb.q hq6
 have hq6:=Q.trans hq5 hq6
 clear hq5
 go_wp2_with fail
 refine(PU [zU,K] 2 _ _ _ (hT.q hq6) rfl rfl (by decide) (Nat.le_trans HN.out (by decide))).mono ?_
 rintro e w8 ⟨rfl,hq7⟩
 rw[hN]
 have hb:=hb.q hq7
 have hq7:=Q.trans hq6 hq7
 clear hq6
 go_wp2_with fail
 refine(afi K N plain _ (hT.q hq7) (by omega)).mono ?_
 rintro e w9 ⟨rfl,hq8⟩
 rw[hB]
 have hb:=hb.q hq8
 have hq8:=Q.trans hq7 hq8
 clear hq7
 unfold YS DZ
 go_wp2_with (refine wpList_store_row rfl 115 _ _ rfl w.heap.size (Ht (pub,G,b1,b2,b3)) rfl rfl 115 (Ht o7) hb (by kernel_rfl) (by kernel_rfl) hk.out ?_)
 exact bodyPost_ret (aqt rfl _ _ w.heap.size 115 (Ht (pub,G,b1,b2,b3)) (0,0) _ _ rfl rfl (ah.setRow hb _) Tryz.underlying115 rfl (by kernel_rfl)) rfl ⟨rfl,below_setRow hq8 (Nat.le_refl _) _⟩
def NH(w0 w:World)(g1:Nat)(c1:Array Value)(g2:Nat)(c2:Array Value):Prop:=Q w0 w/\ah w g1 115 c1/\ah w g2 115 c2
theorem NH.q{w0 w w':World}{g1 g2:Nat}{c1 c2:Array Value}(h:NH w0 w g1 c1 g2 c2)(hq:Q w w'):NH w0 w' g1 c1 g2 c2:=⟨Q.trans h.1 hq,h.2.1.q hq,h.2.2.q hq⟩
theorem NH.step{w0 w w':World}{g1 g2:Nat}{c1 c2:Array Value}{v:Value}{i:Nat}(h:w.cell? ⟨g2,i,none⟩=some v/\NH w0 w g1 c1 g2 c2)(hq:Q w w'):w'.cell? ⟨g2,i,none⟩=some v/\NH w0 w' g1 c1 g2 c2:=
 ⟨by rw[(h.2.q hq).2.2.cell,<-h.2.2.2.cell];exact h.1,h.2.q hq⟩
end bV
namespace Mem
open Go.RowKit aQ
theorem aaz:(∀(a:Act) (n:Nat) (v:Value),a.put (some n) v={a with tmps:=a.tmps.setIfInBounds n v})/\(∀(a:Act) (v:Value),a.put none v=a)/\(∀(α:Type) (l:List α) (i:Nat) (x:α),l.toArray.setIfInBounds i x=(l.set i x).toArray)/\(∀(α:Type) (x y:α) (l:List α) (n:Nat),(x::l).set (n+1) y=x::l.set n y)/\(∀(α:Type) (x y:α) (l:List α),(x::l).set 0 y=y::l):=⟨fun _ _ _=>rfl,fun _ _=>rfl,fun _ _ _ _=>List.setIfInBounds_toArray ..,fun _ _ _ _ _=>rfl,fun _ _ _ _=>rfl⟩
end Mem
namespace bV
open Go.RowKit aQ Mem _root_.Go.Proofs.YtbemmjnjoabadaaGreatDoor.Code aY
open Sign (aO Strs.of)
def lu(w0 w:World)(g:Nat)(a b:Int)(n d t:ByteArray):Prop:=Q w0 w/\Tab w/\ah w g 115 #[.int .i64 a, .int .i64 b, .string n, .string d, .string t]
theorem lu.q{w0 w w':World}{g:Nat}{a b:Int}{n d t:ByteArray}(h:lu w0 w g a b n d t)(hq:Q w w'):lu w0 w' g a b n d t:=⟨Q.trans h.1 hq,h.2.1.q hq,h.2.2.q hq⟩
theorem lu.held{w0 w:World}{g:Nat}{a b:Int}{n d t:ByteArray}(h:lu w0 w g a b n d t):w.cell? ⟨g,0,none⟩=some (.int .i64 a)/\w.cell? ⟨g,1,none⟩=some (.int .i64 b)/\w.cell? ⟨g,2,none⟩=some (.string n)/\w.cell? ⟨g,3,none⟩=some (.string d)/\w.cell? ⟨g,4,none⟩=some (.string t)/\lu w0 w g a b n d t:=⟨h.2.2.cell 0,h.2.2.cell 1,h.2.2.cell 2,h.2.2.cell 3,h.2.2.cell 4,h⟩
theorem lu.step{w0 w w':World}{g:Nat}{a b:Int}{n d t:ByteArray}(h:w.cell? ⟨g,0,none⟩=some (.int .i64 a)/\w.cell? ⟨g,1,none⟩=some (.int .i64 b)/\w.cell? ⟨g,2,none⟩=some (.string n)/\w.cell? ⟨g,3,none⟩=some (.string d)/\w.cell? ⟨g,4,none⟩=some (.string t)/\lu w0 w g a b n d t)(hq:Q w w'):w'.cell? ⟨g,0,none⟩=some (.int .i64 a)/\w'.cell? ⟨g,1,none⟩=some (.int .i64 b)/\w'.cell? ⟨g,2,none⟩=some (.string n)/\w'.cell? ⟨g,3,none⟩=some (.string d)/\w'.cell? ⟨g,4,none⟩=some (.string t)/\lu w0 w' g a b n d t:=(h.2.2.2.2.2.q hq).held
theorem lu.new(w:World)(hT:Tab w)(a b:Int)(n d t:ByteArray):lu w (w.alloc (.cells #[.int .i64 a, .int .i64 b, .string n, .string d, .string t] 115)) w.heap.size a b n d t:=⟨aO w _ _,hT.q (aO w _ _),ah.new w _ _⟩
theorem LJ(n:Int)(r:Bool)(w:World)(h:xZ n=r):Calls Tryz.prog 106 #[.int .i64 n] w fun e w'=>e= .returned (.bool r)/\w=w':=h▸ae4 n w
theorem Vj(n:Int)(r:Bool)(w:World)(h:um n=r):Calls Tryz.prog 115 #[.int .i64 n] w fun e w'=>e= .returned (.bool r)/\w=w':=h▸ap5 n w
theorem aru{w0 w:World}{g:Nat}{a b:Int}{n d t:ByteArray}(x y z:Int)(r:ByteArray)(h:w.cell? ⟨g,0,none⟩=some (.int .i64 a)/\w.cell? ⟨g,1,none⟩=some (.int .i64 b)/\w.cell? ⟨g,2,none⟩=some (.string n)/\w.cell? ⟨g,3,none⟩=some (.string d)/\w.cell? ⟨g,4,none⟩=some (.string t)/\lu w0 w g a b n d t)(hr:DX x y z=r)(ha:x<=9223372036854775807)(hb:y<=9223372036854775807)(hc:z<=9223372036854775807):
 Calls Tryz.prog 109 #[.int .i64 x, .int .i64 y, .int .i64 z] w fun e w'=>e= .returned (.string r)/\Q w w':=hr▸ae3 x y z w h.2.2.2.2.2.2.1 ha hb hc
theorem arv{w0 w:World}{g:Nat}{a b:Int}{n d t:ByteArray}(key x y z p:ByteArray)(o:Bool)(h:w.cell? ⟨g,0,none⟩=some (.int .i64 a)/\w.cell? ⟨g,1,none⟩=some (.int .i64 b)/\w.cell? ⟨g,2,none⟩=some (.string n)/\w.cell? ⟨g,3,none⟩=some (.string d)/\w.cell? ⟨g,4,none⟩=some (.string t)/\lu w0 w g a b n d t)(hr:nR key (x,y,z)=(p,o))(hz:key.size+x.size+y.size<=140737488355000):
 Calls Tryz.prog 47 #[.string key, .agg #[.string x, .string y, .string z]] w fun e w'=>e= .returned (.tuple #[.string p, .bool o])/\Q w w':=by
 have:=UR key x y z w h.2.2.2.2.2.2.1 hz
 rw[hr]at this
 exact this
theorem Qs(s:Int)(v:bQ)(h:xg s v=false):BP s v=(lit [],false):=by unfold BP;rw[h];rfl
theorem arw(s:Int)(v:bQ)(h:xg s v=true):BP s v=nR (DX v.1 v.2.1 (dW v.2.1 s)) v.2.2:=by unfold BP;rw[h];rfl
theorem take_at{P:Program}{md:Region.Mode}{l:List Oper}{Q':Exit->Act->World->Prop}{S:World->Prop}(i:Nat){oi:Oper}{v:Value}{fuel:Nat}{listed:Array Bool}{a:Act}{w:World}(hi:l[i]?=some oi)
 (hs:Region.noSelect l.toArray=true) (hf:Region.free md l.toArray listed i=true) (hr:(Region.ready md l.toArray listed).contains i=true)
 (hQ:∀c a w,Q' (.panic c) (a.put oi.dst v) w->Q' (.panic c) a w) (hS:S w) (hw:Region.wanted oi (yielded l.toArray a.tmps)=true) (hy:∀w,S w->(execOp a.eval oi).run P w= .ok (.value v) w)
 (h:wpAnyH P md l.toArray Q' S fuel (listed.setIfInBounds i true) (a.put oi.dst v) w):wpAnyH P md l.toArray Q' S (fuel+1) listed a w:=
 wpAnyH_take (by simpa using hi) hs hf hr hQ (Or.inl ⟨hw,hy⟩) hS h
theorem zo{P:Program}{md:Region.Mode}{l:List Oper}{Q':Exit->Act->World->Prop}{S:World->Prop}(i:Nat){oi:Oper}{fuel:Nat}{listed:Array Bool}{a:Act}{w:World}(hi:l[i]?=some oi)
 (hs:Region.noSelect l.toArray=true) (hf:Region.free md l.toArray listed i=true) (hr:(Region.ready md l.toArray listed).contains i=true)
 (hQ:∀c a w,Q' (.panic c) (a.put oi.dst undef) w->Q' (.panic c) a w) (hS:S w) (hw:Region.wanted oi (yielded l.toArray a.tmps)=false)
 (h:wpAnyH P md l.toArray Q' S fuel (listed.setIfInBounds i true) (a.put oi.dst undef) w):wpAnyH P md l.toArray Q' S (fuel+1) listed a w:=
 wpAnyH_take (by simpa using hi) hs hf hr hQ (Or.inr ⟨hw,rfl⟩) hS h
theorem Zb{P:Program}{md:Region.Mode}{l:List Oper}{Q':Exit->Act->World->Prop}{S:World->Prop}{fuel:Nat}{listed:Array Bool}{a:Act}{w:World}{i:Nat}{o:Oper}(ho:l[i]?=some o)
 (h:∀K':Act->World->Prop,Shut (∀a w,S w->(S w->wpAnyH P md l.toArray Q' S fuel (listed.setIfInBounds i true) a w)->K' a w)->if Region.wanted o (yielded l.toArray a.tmps)=true then Oper.wp P o a w K' Q' else K' (a.put o.dst undef) w):
 AllReadyH P md l.toArray Q' S fuel listed a w [i]:=AllReadyH.cons (by simpa using ho) h AllReadyH.nil
theorem arx(s a b:Int)(n d t:ByteArray)(w:World)(hT:Tab w)(h1:um s=false):
 Calls Tryz.prog 67 #[.int .i64 s, .agg #[.int .i64 a, .int .i64 b, .string n, .string d, .string t]] w fun e w'=>e= .returned (.tuple #[.string (lit []), .bool false])/\Q w w':=by
 have hX:=lu.new w hT a b n d t
 obtain⟨c0,c1,c2,c3,c4,-⟩:=hX.held
 go_enter Tryz.func67,Tryz.ntmps67
 go_wp2_with fail
 refine wp_region_held_drew (S:=(fun w'=>w'.cell? ⟨w.heap.size,0,none⟩=some (.int .i64 a)/\w'.cell? ⟨w.heap.size,1,none⟩=some (.int .i64 b)/\w'.cell? ⟨w.heap.size,2,none⟩=some (.string n)/\w'.cell? ⟨w.heap.size,3,none⟩=some (.string d)/\w'.cell? ⟨w.heap.size,4,none⟩=some (.string t)/\lu w w' w.heap.size a b n d t)) (by kernel_rfl) (hX.q (Q.refl _).drew).held (fun hHeld=> ?_)
 refine take_at 0 (v:= ?_) rfl (by kernel_rfl) (by kernel_rfl) (by kernel_rfl) (fun _ _ _ h=>h) (by assumption) (by rfl) ?_ ?_
 rotate_left
 ·intro w hSw
  (try dsimp only at hSw)
  go_simp
  try with_reducible rfl
 try simp only[aaz]
 refine wpAnyH_ready (rs:=[1]) (by kernel_rfl) (by simp) (Zb rfl ?_)
 intro K hK
 go_simp
 refine(Vj _ _ _ h1).mono ?_
 rintro e w' ⟨rfl,rfl⟩
 refine hK.out _ _ (by assumption) (fun hHeld=> ?_)
 clear hK K
 try simp only[aaz]
 refine take_at 2 (v:= ?_) rfl (by kernel_rfl) (by kernel_rfl) (by kernel_rfl) (fun _ _ _ h=>h) (by assumption) (by rfl) ?_ ?_
 rotate_left
 ·intro w hSw
  (try dsimp only at hSw)
  go_simp
  try with_reducible rfl
 try simp only[aaz]
 refine take_at 3 (v:= ?_) rfl (by kernel_rfl) (by kernel_rfl) (by kernel_rfl) (fun _ _ _ h=>h) (by assumption) (by rfl) ?_ ?_
 rotate_left
 ·intro w hSw
  (try dsimp only at hSw)
  go_simp
  try with_reducible rfl
 try simp only[aaz]
 refine zo 4 rfl (by kernel_rfl) (by kernel_rfl) (by kernel_rfl) (fun _ _ _ h=>h) (by assumption) (by rfl) ?_
 try simp only[aaz]
 refine zo 5 rfl (by kernel_rfl) (by kernel_rfl) (by kernel_rfl) (fun _ _ _ h=>h) (by assumption) (by rfl) ?_
 try simp only[aaz]
 refine zo 6 rfl (by kernel_rfl) (by kernel_rfl) (by kernel_rfl) (fun _ _ _ h=>h) (by assumption) (by rfl) ?_
 try simp only[aaz]
 refine zo 7 rfl (by kernel_rfl) (by kernel_rfl) (by kernel_rfl) (fun _ _ _ h=>h) (by assumption) (by rfl) ?_
 try simp only[aaz]
 refine zo 8 rfl (by kernel_rfl) (by kernel_rfl) (by kernel_rfl) (fun _ _ _ h=>h) (by assumption) (by rfl) ?_
 try simp only[aaz]
 refine take_at 9 (v:= ?_) rfl (by kernel_rfl) (by kernel_rfl) (by kernel_rfl) (fun _ _ _ h=>h) (by assumption) (by rfl) ?_ ?_
 rotate_left
 ·intro w hSw
  (try dsimp only at hSw)
  go_simp
  try with_reducible rfl
 try simp only[aaz]
 refine take_at 10 (v:= ?_) rfl (by kernel_rfl) (by kernel_rfl) (by kernel_rfl) (fun _ _ _ h=>h) (by assumption) (by rfl) ?_ ?_
 rotate_left
 ·intro w hSw
  (try dsimp only at hSw)
  go_simp
  try with_reducible rfl
 try simp only[aaz]
 refine zo 11 rfl (by kernel_rfl) (by kernel_rfl) (by kernel_rfl) (fun _ _ _ h=>h) (by assumption) (by rfl) ?_
 try simp only[aaz]
 refine zo 12 rfl (by kernel_rfl) (by kernel_rfl) (by kernel_rfl) (fun _ _ _ h=>h) (by assumption) (by rfl) ?_
 try simp only[aaz]
 refine zo 13 rfl (by kernel_rfl) (by kernel_rfl) (by kernel_rfl) (fun _ _ _ h=>h) (by assumption) (by rfl) ?_
 try simp only[aaz]
 refine zo 14 rfl (by kernel_rfl) (by kernel_rfl) (by kernel_rfl) (fun _ _ _ h=>h) (by assumption) (by rfl) ?_
 try simp only[aaz]
 refine take_at 15 (v:= ?_) rfl (by kernel_rfl) (by kernel_rfl) (by kernel_rfl) (fun _ _ _ h=>h) (by assumption) (by rfl) ?_ ?_
 rotate_left
 ·intro w hSw
  (try dsimp only at hSw)
  go_simp
  try with_reducible rfl
 try simp only[aaz]
 refine wpAnyH_done (by kernel_rfl) ?_ _
 all_goals
  have hZ:=(lu.q hX (Q.refl _).drew).1
  go_wp2
  go_ret2
  exact⟨rfl,hZ⟩
theorem arz(s a b G:Int)(n d t:ByteArray)(w:World)(hT:Tab w)(h1:um s=true)(hs0:1<=s)(hs1:s<=2305843009213693949)(hG:dW 37 s=G)(h2:¬a=G)(h2':(a==G)=false):
 Calls Tryz.prog 67 #[.int .i64 s, .agg #[.int .i64 a, .int .i64 b, .string n, .string d, .string t]] w fun e w'=>e= .returned (.tuple #[.string (lit []), .bool false])/\Q w w':=by
 have hX:=lu.new w hT a b n d t
 obtain⟨c0,c1,c2,c3,c4,-⟩:=hX.held
 go_enter Tryz.func67,Tryz.ntmps67
 go_wp2_with fail
 refine wp_region_held_drew (S:=(fun w'=>w'.cell? ⟨w.heap.size,0,none⟩=some (.int .i64 a)/\w'.cell? ⟨w.heap.size,1,none⟩=some (.int .i64 b)/\w'.cell? ⟨w.heap.size,2,none⟩=some (.string n)/\w'.cell? ⟨w.heap.size,3,none⟩=some (.string d)/\w'.cell? ⟨w.heap.size,4,none⟩=some (.string t)/\lu w w' w.heap.size a b n d t)) (by kernel_rfl) (hX.q (Q.refl _).drew).held (fun hHeld=> ?_)
 refine take_at 0 (v:= ?_) rfl (by kernel_rfl) (by kernel_rfl) (by kernel_rfl) (fun _ _ _ h=>h) (by assumption) (by rfl) ?_ ?_
 rotate_left
 ·intro w hSw
  (try dsimp only at hSw)
  go_simp
  try with_reducible rfl
 try simp only[aaz]
 refine wpAnyH_ready (rs:=[1]) (by kernel_rfl) (by simp) (Zb rfl ?_)
 intro K hK
 go_simp
 refine(Vj _ _ _ h1).mono ?_
 rintro e w' ⟨rfl,rfl⟩
 refine hK.out _ _ (by assumption) (fun hHeld=> ?_)
 clear hK K
 try simp only[aaz]
 refine take_at 2 (v:= ?_) rfl (by kernel_rfl) (by kernel_rfl) (by kernel_rfl) (fun _ _ _ h=>h) (by assumption) (by rfl) ?_ ?_
 rotate_left
 ·intro w hSw
  (try dsimp only at hSw)
  go_simp
  try with_reducible rfl
 try simp only[aaz]
 refine take_at 3 (v:= ?_) rfl (by kernel_rfl) (by kernel_rfl) (by kernel_rfl) (fun _ _ _ h=>h) (by assumption) (by rfl) ?_ ?_
 rotate_left
 ·intro w hSw
  (try dsimp only at hSw)
  go_simp
  try with_reducible rfl
 try simp only[aaz]
 refine take_at 4 (v:= ?_) rfl (by kernel_rfl) (by kernel_rfl) (by kernel_rfl) (fun _ _ _ h=>h) (by assumption) (by rfl) ?_ ?_
 rotate_left
 ·intro w hSw
  (try dsimp only at hSw)
  go_simp
  try with_reducible rfl
 try simp only[aaz]
 refine take_at 5 (v:= ?_) rfl (by kernel_rfl) (by kernel_rfl) (by kernel_rfl) (fun _ _ _ h=>h) (by assumption) (by rfl) ?_ ?_
 rotate_left
 ·intro w hSw
  (try dsimp only at hSw)
  go_simp
  try with_reducible rfl
 try simp only[aaz]
 refine take_at 6 (v:= ?_) rfl (by kernel_rfl) (by kernel_rfl) (by kernel_rfl) (fun _ _ _ h=>h) (by assumption) (by rfl) ?_ ?_
 rotate_left
 ·intro w hSw
  (try dsimp only at hSw)
  go_simp
  try with_reducible rfl
 try simp only[aaz]
 refine wpAnyH_ready (rs:=[7]) (by kernel_rfl) (by simp) (Zb rfl ?_)
 intro K hK
 go_simp
 refine(MR _ _ _ _ hG (by omega) (by omega)).mono ?_
 rintro e w' ⟨rfl,hq⟩
 refine hK.out _ _ (lu.step hHeld hq) (fun arA=> ?_)
 clear hK K
 try simp only[aaz]
 refine take_at 8 (v:= .bool true) rfl (by kernel_rfl) (by kernel_rfl) (by kernel_rfl) (fun _ _ _ h=>h) (by assumption) (by rfl) ?_ ?_
 ·intro w hSw
  (try dsimp only at hSw)
  go_simp
  all_goals (try simp[h2])
 try simp only[aaz]
 refine take_at 9 (v:= ?_) rfl (by kernel_rfl) (by kernel_rfl) (by kernel_rfl) (fun _ _ _ h=>h) (by assumption) (by rfl) ?_ ?_
 rotate_left
 ·intro w hSw
  (try dsimp only at hSw)
  go_simp
  try with_reducible rfl
 try simp only[aaz]
 refine take_at 10 (v:= ?_) rfl (by kernel_rfl) (by kernel_rfl) (by kernel_rfl) (fun _ _ _ h=>h) (by assumption) (by rfl) ?_ ?_
 rotate_left
 ·intro w hSw
  (try dsimp only at hSw)
  go_simp
  try with_reducible rfl
 try simp only[aaz]
 refine zo 11 rfl (by kernel_rfl) (by kernel_rfl) (by kernel_rfl) (fun _ _ _ h=>h) (by assumption) (by rfl) ?_
 try simp only[aaz]
 refine zo 12 rfl (by kernel_rfl) (by kernel_rfl) (by kernel_rfl) (fun _ _ _ h=>h) (by assumption) (by rfl) ?_
 try simp only[aaz]
 refine zo 13 rfl (by kernel_rfl) (by kernel_rfl) (by kernel_rfl) (fun _ _ _ h=>h) (by assumption) (by rfl) ?_
 try simp only[aaz]
 refine zo 14 rfl (by kernel_rfl) (by kernel_rfl) (by kernel_rfl) (fun _ _ _ h=>h) (by assumption) (by rfl) ?_
 try simp only[aaz]
 refine take_at 15 (v:= ?_) rfl (by kernel_rfl) (by kernel_rfl) (by kernel_rfl) (fun _ _ _ h=>h) (by assumption) (by rfl) ?_ ?_
 rotate_left
 ·intro w hSw
  (try dsimp only at hSw)
  go_simp
  try with_reducible rfl
 try simp only[aaz]
 refine wpAnyH_done (by kernel_rfl) ?_ _
 all_goals
  have hZ:Q w w':=arA.2.2.2.2.2.1
  go_wp2
  go_ret2
  exact⟨rfl,hZ⟩
theorem arB(s a b:Int)(n d t:ByteArray)(w:World)(hT:Tab w)(h1:um s=true)(hs0:1<=s)(hs1:s<=2305843009213693949)(hG:dW 37 s=a)(h3:xZ b=false):
 Calls Tryz.prog 67 #[.int .i64 s, .agg #[.int .i64 a, .int .i64 b, .string n, .string d, .string t]] w fun e w'=>e= .returned (.tuple #[.string (lit []), .bool false])/\Q w w':=by
 have hX:=lu.new w hT a b n d t
 obtain⟨c0,c1,c2,c3,c4,-⟩:=hX.held
 go_enter Tryz.func67,Tryz.ntmps67
 go_wp2_with fail
 go_region_held3 (fun w'=>w'.cell? ⟨w.heap.size,0,none⟩=some (.int .i64 a)/\w'.cell? ⟨w.heap.size,1,none⟩=some (.int .i64 b)/\w'.cell? ⟨w.heap.size,2,none⟩=some (.string n)/\w'.cell? ⟨w.heap.size,3,none⟩=some (.string d)/\w'.cell? ⟨w.heap.size,4,none⟩=some (.string t)/\lu w w' w.heap.size a b n d t)
  (first|exact(hX.q (Q.refl _).drew).held|(with_reducible assumption)|exact lu.step (by assumption) hq)
  (first
    |(go_at_call 115;refine(Vj _ _ _ h1).mono ?_;rintro e w' ⟨rfl,rfl⟩)
    |(go_at_call 28;refine(MR _ _ _ _ hG (by omega) (by omega)).mono ?_;rintro e w' ⟨rfl,hq⟩)
    |(go_at_call 106;refine(LJ _ _ _ h3).mono ?_;rintro e w' ⟨rfl,rfl⟩))
 all_goals
  have hZ:Q w w':=by rename_i hh;exact hh.2.2.2.2.2.1
  go_wp2
  go_ret2
  exact⟨rfl,hZ⟩
theorem arC(s a b Z:Int)(K n d t p:ByteArray)(o:Bool)(w:World)(hT:Tab w)(h1:um s=true)(hs0:1<=s)(hs1:s<=2305843009213693949)(hG:dW 37 s=a)(h3:xZ b=true)(ha:a<=9223372036854775807)(hb:b<=9223372036854775807)(hZ:dW b s=Z)(hZ1:Z<=9223372036854775807)
 (hK:DX a b Z=K) (hO:nR K (n,d,t)=(p,o)) (hz:K.size+n.size+d.size<=140737488355000):
 Calls Tryz.prog 67 #[.int .i64 s, .agg #[.int .i64 a, .int .i64 b, .string n, .string d, .string t]] w fun e w'=>e= .returned (.tuple #[.string p, .bool o])/\Q w w':=by
 have hX:=lu.new w hT a b n d t
 obtain⟨c0,c1,c2,c3,c4,-⟩:=hX.held
 go_enter Tryz.func67,Tryz.ntmps67
 go_wp2_with fail
 go_region_held3 (fun w'=>w'.cell? ⟨w.heap.size,0,none⟩=some (.int .i64 a)/\w'.cell? ⟨w.heap.size,1,none⟩=some (.int .i64 b)/\w'.cell? ⟨w.heap.size,2,none⟩=some (.string n)/\w'.cell? ⟨w.heap.size,3,none⟩=some (.string d)/\w'.cell? ⟨w.heap.size,4,none⟩=some (.string t)/\lu w w' w.heap.size a b n d t)
  (first|exact(hX.q (Q.refl _).drew).held|(with_reducible assumption)|exact lu.step (by assumption) hq)
  (first
    |(go_at_call 115;refine(Vj _ _ _ h1).mono ?_;rintro e w' ⟨rfl,rfl⟩)
    |(go_at_call 28;refine(MR _ _ _ _ hG (by omega) (by omega)).mono ?_;rintro e w' ⟨rfl,hq⟩)
    |(go_at_call 106;refine(LJ _ _ _ h3).mono ?_;rintro e w' ⟨rfl,rfl⟩))
 all_goals
  have hY:lu w w' w.heap.size a b n d t:=by rename_i hh;exact hh.2.2.2.2.2
  generalize w'=W1 at*
  clear c0 c1 c2 c3 c4 hX
  obtain⟨c0,c1,c2,c3,c4,-⟩:=hY.held
  go_wp2_with fail
  go_region_held3 (fun w'=>w'.cell? ⟨w.heap.size,0,none⟩=some (.int .i64 a)/\w'.cell? ⟨w.heap.size,1,none⟩=some (.int .i64 b)/\w'.cell? ⟨w.heap.size,2,none⟩=some (.string n)/\w'.cell? ⟨w.heap.size,3,none⟩=some (.string d)/\w'.cell? ⟨w.heap.size,4,none⟩=some (.string t)/\lu w w' w.heap.size a b n d t)
   (first|exact(hY.q (Q.refl _).drew).held|exact lu.step (by assumption) hq)
   (first
     |(go_at_call 28;refine(MR _ _ _ _ hZ (by omega) (by omega)).mono ?_;rintro e w' ⟨rfl,hq⟩)
     |(go_at_call 109;refine(aru _ _ _ _ (by assumption) hK ha hb hZ1).mono ?_;rintro e w' ⟨rfl,hq⟩)
     |(go_at_call 47;refine(arv _ _ _ _ _ _ (by assumption) hO hz).mono ?_;rintro e w' ⟨rfl,hq⟩))
  all_goals
   have hZZ:Q w w':=by rename_i hh;exact hh.2.2.2.2.2.1
   go_wp2
   go_ret2
   exact⟨rfl,hZZ⟩
theorem arE(s a b:Int)(n d t p:ByteArray)(o:Bool)(w:World)(hT:Tab w)(ha:a<=9223372036854775807)(hb:b<=9223372036854775807)(hz:n.size+d.size<=140737488353000)(hr:BP s (a,b,n,d,t)=(p,o)):
 Calls Tryz.prog 67 #[.int .i64 s, .agg #[.int .i64 a, .int .i64 b, .string n, .string d, .string t]] w fun e w'=>e= .returned (.tuple #[.string p, .bool o])/\Q w w':=by
 by_cases h1:um s=true
 ·have hs:1<=s/\s<=2305843009213693949:=by simpa[um]using h1
  by_cases h2:a=dW 37 s
  ·by_cases h3:xZ b=true
   ·rw[arw _ _ (show xg s (a,b,n,d,t)=true by simp[xg,h1,h2,h3])]at hr
    have hzb:=Ll b s
    exact arC s a b _ _ n d t p o w hT h1 hs.1 hs.2 h2.symm h3 ha hb rfl (by omega) rfl hr (by rw[afk];omega)
   ·rw[Qs _ _ (show xg s (a,b,n,d,t)=false by simp[xg,h3])]at hr
    cases hr
    exact arB s a b n d t w hT h1 hs.1 hs.2 h2.symm (by simpa using h3)
  ·rw[Qs _ _ (show xg s (a,b,n,d,t)=false by simp[xg,h2])]at hr
   cases hr
   exact arz s a b _ n d t w hT h1 hs.1 hs.2 rfl h2 (by simpa using h2)
 ·rw[Qs _ _ (show xg s (a,b,n,d,t)=false by simp[xg,h1])]at hr
  cases hr
  exact arx s a b n d t w hT (by simpa using h1)
end bV
end Go.Proofs.YtbemmjnjoabadaaGreatDoor
