/-
  Reading a varint, as plain data: one digit after the other. No walk in this text.
-/
import Derived.Test.YtbemmjnjoabadaaGreatDoorXV
import Derived.Test.YtbemmjnjoabadaaGreatDoorK42
import Derived.Test.YtbemmjnjoabadaaGreatDoorK43
set_option linter.unusedVariables false
set_option linter.unusedSimpArgs false
set_option maxHeartbeats 2000000
set_option maxRecDepth 100000
namespace Go.Proofs.YtbemmjnjoabadaaGreatDoor
namespace Code
structure RdN(S tail:List UInt8)(n i f m acc:Nat):Prop where
 fuel:i+f=9
 val:n=m*128^i+acc
 low:acc<128^i
 pos:0<i->0<m
 at_:S.drop i=Ba f m++tail
theorem RdN.start{S tail:List UInt8}{n:Nat}(h:S=varint n++tail):RdN S tail n 0 9 n 0:=⟨rfl,by simp,by simp,fun h=>absurd h (by omega),by rw[h];rfl⟩
theorem RdN.small{S tail:List UInt8}{n i f m acc:Nat}(h:RdN S tail n i f m acc)(hn:n<9223372036854775808):i<=8:=by
 rcases Nat.lt_or_ge i 9 with h1|h1
 ·omega
 ·have h2:i=9:=by have:=h.fuel;omega
  have h3:=h.pos (by omega)
  have h4:=h.val
  subst h2
  rw[show(128:Nat)^9=9223372036854775808 from by decide]at h4
  omega
theorem RdN.step{S tail:List UInt8}{n i f m acc:Nat}(h:RdN S tail n i f m acc)(hn:n<9223372036854775808)(hm:128<=m):∃f',S[i]?=some (UInt8.ofNat (128+m%128))/\RdN S tail n (i+1) f' (m/128) (acc+m%128*128^i):=by
 have h8:=h.small hn
 obtain⟨f',rfl⟩:∃f',f=f'+1:=⟨f-1,by have:=h.fuel;omega⟩
 have ha:=h.at_
 rw[Ba,if_neg (by omega),List.cons_append]at ha
 refine⟨f',?_,by have:=h.fuel;omega,?_,?_,fun _=>by omega,?_⟩
 ·have:=congrArg (fun l:List UInt8=>l[0]?) ha
  simpa using this
 ·have h1:=h.val
  have h2:m/128*128^(i+1)=m/128*128*128^i:=by rw[Nat.pow_succ,Nat.mul_comm (128^i) 128,<-Nat.mul_assoc]
  have h3:m*128^i=(m/128*128+m%128)*128^i:=by congr 1;omega
  rw[Nat.add_mul]at h3
  omega
 ·have h1:=h.low
  have h2:m%128*128^i<=127*128^i:=Nat.mul_le_mul_right _ (by omega)
  rw[Nat.pow_succ]
  omega
 ·have:=congrArg (List.drop 1) ha
  rw[List.drop_drop]at this
  simpa[Nat.add_comm]using this
theorem RdN.last{S tail:List UInt8}{n i f m acc:Nat}(h:RdN S tail n i f m acc)(hm:m<128):S[i]?=some (UInt8.ofNat m)/\n=acc+m*128^i/\S.drop (i+1)=tail:=by
 have ha:=h.at_
 have hv:Ba f m=[UInt8.ofNat m]:=by
  cases f with
  |zero=>rfl
  |succ f=>rw[Ba,if_pos hm]
 rw[hv]at ha
 refine⟨?_,by have:=h.val;omega,?_⟩
 ·have:=congrArg (fun l:List UInt8=>l[0]?) ha
  simpa using this
 ·have:=congrArg (List.drop 1) ha
  rw[List.drop_drop]at this
  simpa[Nat.add_comm]using this
theorem RdN.len{S tail:List UInt8}{n i f m acc:Nat}(h:RdN S tail n i f m acc):i<S.length:=by
 have ha:=congrArg List.length h.at_
 rw[List.length_drop,List.length_append]at ha
 have:0<(Ba f m).length:=by
  cases f with
  |zero=>simp[Ba]
  |succ f=>rw[Ba];split<;>simp
 omega
end Code
end Go.Proofs.YtbemmjnjoabadaaGreatDoor
namespace Go.Proofs.YtbemmjnjoabadaaGreatDoor
namespace Dec
open Go.RowKit aQ Mem _root_.Go.Proofs.YtbemmjnjoabadaaGreatDoor.Code aY Sign _root_.Go.Proofs.YtbemmjnjoabadaaGreatDoor.Item _root_.Go.Proofs.YtbemmjnjoabadaaGreatDoor.Known _root_.Go.Proofs.YtbemmjnjoabadaaGreatDoor.bP
theorem asf(a r j:Nat)(ha:a<128^j)(hs:a+r*128^j<9223372036854775808):bits .or .i64 (a:Int) (wrap64 ((r:Int)*2^(7*j)))=((a+r*128^j:Nat):Int):=by
 have hp:(2:Nat)^(7*j)=128^j:=by rw[Nat.pow_mul]
 have hb:(r:Int)*2^(7*j)=((r*128^j:Nat):Int):=by
  rw[<-hp]
  push_cast
  rfl
 rw[hb]
 have hor:a+r*128^j=a|||r*128^j:=by
  have h:=Nat.shiftLeft_add_eq_or_of_lt (a:=r) (i:=7*j) (b:=a) (by rw[hp];exact ha)
  rw[Nat.shiftLeft_eq,hp,Nat.or_comm]at h
  omega
 generalize r*128^j=b at*
 rw[show wrap64 (b:Int)=(b:Int)from by unfold wrap64;omega]
 have h1:(BitVec.ofInt 64 (a:Int)).toNat=a:=by
  rw[BitVec.ofInt_natCast,BitVec.toNat_ofNat];exact Nat.mod_eq_of_lt (by omega)
 have h2:(BitVec.ofInt 64 (b:Int)).toNat=b:=by
  rw[BitVec.ofInt_natCast,BitVec.toNat_ofNat];exact Nat.mod_eq_of_lt (by omega)
 show IntKind.i64.wrap ((BitVec.ofInt 64 (a:Int)|||BitVec.ofInt 64 (b:Int)).toNat:Int)=_
 rw[BitVec.toNat_or,h1,h2,<-hor,IntKind.wrap_i64]
 omega
structure Rd(g:Nat)(t:ByteArray)(w w':World):Prop where
 blk:ah w' g 181 #[.string t, .bool false]
 far:∀b,b≠g->w'.heap[b]?=w.heap[b]?
 below:∀B w0,B<=g->Below B w0 w->Below B w0 w'
theorem azH(g:Nat)(s t:ByteArray)(n:Nat)(w:World)(hB:ah w g 181 #[.string s, .bool false])(hs:s.data.toList=varint n++t.data.toList)(hn:n<9223372036854775808)(hz:s.size<=9223372036854775807):
 Calls Tryz.prog 69 #[.pointer (some ⟨g,0,none⟩)] w fun e w'=>e= .returned (.int .i64 (n:Int))/\Rd g t w w':=by
 have c0:w.cell? ⟨g,0,none⟩=some (.string s):=hB.cell 0
 have hst:=RdN.start hs
 have HB:=Lib.hid hB
 clear hB hs
 go_enter Tryz.func69,Tryz.ntmps69
 go_wp2_with fail
 go_loopw [3,4] (fun a i wr=>∃(j f m acc:Nat),a= .int .i64 (acc:Int)/\i= .int .i64 (j:Int)/\wr=w/\RdN s.data.toList t.data.toList n j f m acc) (fun _ i _=>9-(intOf i).toNat)
 case atStart=>exact⟨0,9,n,0,rfl,rfl,rfl,hst⟩
 case round=>
  obtain⟨j,f,m,acc,rfl,rfl,rfl,hr⟩:=hrel
  have h8:=hr.small hn
  have hln:=hr.len
  have hsz:j<s.size:=by rwa[ny]at hln
  have hjI:(j:Int)<(s.size:Int):=by omega
  have hj9:(j:Int)<9:=by omega
  have hj0:(0:Int)<=(j:Int):=by omega
  by_cases hm:128<=m
  ·obtain⟨f',hd,hnx⟩:=hr.step hn hm
   go_upto_region 6 with(fail)
   have hdv:(s[j]'hsz).toNat=128+m%128:=by
    have h1:s.data.toList[j]?=some (s[j]'hsz):=by
     rw[List.getElem?_eq_getElem hln]
     rfl
    rw[h1]at hd
    rw[Option.some.inj hd]
    simp
    omega
   generalize (s[j]'hsz).toNat=dv at*
   subst hdv
   clear hd
   generalize hr2:m%128=r at*
   have hr3:r<128:=by omega
   have hge:(128:Int)<=((128+r:Nat):Int):=by omega
   have hsb:((128+r:Nat):Int)-128=(r:Int):=by omega
   have hle:acc+r*128^j<9223372036854775808:=by
    have h1:=hr.val
    have h2:r*128^j<=m*128^j:=Nat.mul_le_mul_right _ (by omega)
    omega
   have hor:=asf acc r j hr.low hle
   have HN:=Lib.hid hnx
   have HO:=Lib.hid hor
   clear hnx hor hr hln
   go_wp2_with fail
   refine⟨⟨j+1,f',m/128,acc+r*128^j,?_,by go_num,trivial,HN.out⟩,by simp only[intOf];omega⟩
   rw[show(128+(r:Int)-128)=(r:Int) by omega,HO.out]
  ·have hm':m<128:=by omega
   obtain⟨hd,hv,ht⟩:=hr.last hm'
   go_upto_region 6 with(fail)
   have hdv:(s[j]'hsz).toNat=m:=by
    have h1:s.data.toList[j]?=some (s[j]'hsz):=by
     rw[List.getElem?_eq_getElem hln]
     rfl
    rw[h1]at hd
    rw[Option.some.inj hd]
    simp
    omega
   generalize (s[j]'hsz).toNat=dv at*
   subst hdv
   clear hd
   have hge:¬(128:Int)<=(dv:Int):=by omega
   have hle:acc+dv*128^j<9223372036854775808:=by omega
   have HO:=Lib.hid (asf acc dv j hr.low hle)
   have hz0:decide ((dv:Int)=0)=true->decide (0<j)=false:=by
    intro h1
    have h2:=of_decide_eq_true h1
    refine decide_eq_false fun h3=> ?_
    have:=hr.pos h3
    omega
   have HV:=Lib.hid hv
   have HT:=Lib.hid ht
   clear hv ht hr hln hle
   have Ye:(((dv:Int)==0)=true/\¬0<j)∨((dv:Int)==0)=false:=by
    cases h:((dv:Int)==0)
    ·exact .inr rfl
    ·refine .inl ⟨rfl,?_⟩
     have:=hz0 (decide_eq_true (by simpa using h))
     simpa using this
   clear hz0
   rcases Ye with⟨hq1,hq2⟩|hq1
   all_goals
    go_upto_region 9 with(fail)
    have hfz:wr.frozen? ⟨g,0,none⟩=false:=HB.out.frozen 0
    have hj1:(j:Int)+1<=(s.size:Int):=by omega
    have hj2:(0:Int)<=(j:Int)+1:=by omega
    go_upto_region 10 with(fail)
    have hex:s.extract (j+1) s.size=t:=by
     have h1:(s.extract (j+1) s.size).data.toList=t.data.toList:=by
      rw[<-HT.out]
      rw[ByteArray.data_extract,Array.toList_extract,List.extract_eq_take_drop]
      exact List.take_of_length_le (by rw[List.length_drop,ny];exact Nat.le_refl _)
     exact ByteArray.ext (Array.ext' h1)
    rw[hex]
    have hW:Rd g t wr (wr.setCell ⟨g,0,none⟩ (.string t)):=by
     have h1:=ah.setCells [.string t] 0 _ wr HB.out (show 1<=2 by decide)
     exact⟨h1,fun b hne=>tY (g:=g) hne [.string t] 0 wr,fun B w0 hb hw=>below_setCells hb [.string t] 0 w0 wr hw⟩
    generalize wr.setCell ⟨g,0,none⟩ (.string t)=W at*
    have HW:=Lib.hid hW
    clear hW hfz hex c0 hst
    go_wp2_with fail
    go_ret
    exact⟨by rw[HO.out,HV.out];rfl,HW.out⟩
theorem azI(s:ByteArray)(w:World):(Instr.build 181 #[(0, .string s)]).run Tryz.prog w= .ok (.agg #[.string s, .bool false]) w:=by kernel_rfl
theorem azJ(s:ByteArray)(w:World):Calls Tryz.prog 68 #[.string s] w fun e w'=>e= .returned (.pointer (some ⟨w.heap.size,0,none⟩))/\ah w' w.heap.size 181 #[.string s, .bool false]/\Q w w':=by
 have hb:=ah.new w 181 #[.string s, .bool false]
 have hq:=aO w #[.string s, .bool false] 181
 obtain⟨W,hW⟩:∃W,W=w.alloc (.cells #[.string s, .bool false] 181):=⟨_,rfl⟩
 rw[<-hW]at hb hq
 have HB:=Lib.hid hb
 have HQ:=Lib.hid hq
 have HX:=Lib.hid hW
 clear hb hq hW
 go_enter Tryz.func68,Tryz.ntmps68
 go_wp2_with (refine LQ 181 _ #[(0, .string s)] (.agg #[.string s, .bool false]) rfl rfl (by simp only[List.map_toArray,List.map_cons,List.map_nil];rfl) (azI s _) ?_)
 go_ret
 refine⟨rfl,?_⟩
 rw[<-HX.out]
 exact⟨HB.out,HQ.out⟩
theorem azK(g:Nat)(w:World)(hB:ah w g 181 #[.string ⟨#[]⟩, .bool false]):Calls Tryz.prog 70 #[.pointer (some ⟨g,0,none⟩)] w fun e w'=>e= .returned (.bool true)/\w'=w:=by
 have c0:w.cell? ⟨g,0,none⟩=some (.string ⟨#[]⟩):=hB.cell 0
 have c1:w.cell? ⟨g,1,none⟩=some (.bool false):=hB.cell 1
 clear hB
 go_enter Tryz.func70,Tryz.ntmps70
 go_wp2_with fail
 go_ret
 exact⟨rfl,rfl⟩
theorem ash(g:Nat)(s t:ByteArray)(n:Int)(w:World)(hB:ah w g 181 #[.string s, .bool false])(hs:s=aU n++t)(hn:0<=n/\n<=4611686018427387904)(hz:s.size<=9223372036854775807):
 Calls Tryz.prog 69 #[.pointer (some ⟨g,0,none⟩)] w fun e w'=>e= .returned (.int .i64 n)/\Rd g t w w':=by
 have h:=azH g s t n.toNat w hB (by rw[hs,ByteArray.data_append,Array.toList_append];unfold aU;rw[if_neg (by omega)]) (by omega) hz
 rwa[Int.toNat_of_nonneg hn.1]at h
end Dec
end Go.Proofs.YtbemmjnjoabadaaGreatDoor
namespace Go.Proofs.YtbemmjnjoabadaaGreatDoor
namespace Rel
open Go.RowKit aQ Mem _root_.Go.Proofs.YtbemmjnjoabadaaGreatDoor.Code aY Sign _root_.Go.Proofs.YtbemmjnjoabadaaGreatDoor.Item _root_.Go.Proofs.YtbemmjnjoabadaaGreatDoor.Known _root_.Go.Proofs.YtbemmjnjoabadaaGreatDoor.bP
theorem azL{α:Type}(p q:α->Bool)(l:List α)(h:∀x∈l,p x=true->q x=false):(l.filter fun x=>p x||q x).Perm (l.filter p++l.filter q):=by
 induction l with
 |nil=>exact List.Perm.refl _
 |cons x l ih=>
  have ih:=ih fun y hy=>h y (List.mem_cons_of_mem _ hy)
  have hx:=h x (List.mem_cons_self ..)
  cases hp:p x with
  |true=>
   have hq:=hx hp
   rw[List.filter_cons_of_pos (by simp[hp]),List.filter_cons_of_pos hp,List.filter_cons_of_neg (by simp[hq])]
   exact ih.cons x
  |false=>
   cases hq:q x with
   |true=>
    rw[List.filter_cons_of_pos (by simp[hq]),List.filter_cons_of_neg (by simp[hp]),List.filter_cons_of_pos hq]
    exact(ih.cons x).trans List.perm_middle.symm
   |false=>
    rw[List.filter_cons_of_neg (by simp[hp,hq]),List.filter_cons_of_neg (by simp[hp]),List.filter_cons_of_neg (by simp[hq])]
    exact ih
def aaE(K:List Nat)(L:List (Int×Int))(i j:Nat):List (Int×Int):=(((K.zip L).take j).filter fun z=>z.1==i).map fun z=>z.2
def aaJ(mask:Int)(K:List Nat)(L:List (Int×Int)):Nat->List (Int×Int)
 |0=>[]
 |i+1=>aaJ mask K L i++if FX mask i then[]else aaE K L i K.length
def aaL(mask:Int):Nat->List Int
 |0=>[]
 |i+1=>aaL mask i++if FX mask i then[]else[(aG i).1]
def aa1(mask:Int)(m k:Nat):Bool:=decide (k<m)&& !FX mask k
theorem akA(K:List Nat)(L:List (Int×Int))(i:Nat):aaE K L i 0=[]:=rfl
theorem azM(K:List Nat)(L:List (Int×Int))(i j:Nat)(h:j<K.length)(hL:L.length=K.length):aaE K L i (j+1)=aaE K L i j++if K[j]==i then[L[j]'(by omega)]else[]:=by
 have hz:j<(K.zip L).length:=by rw[List.length_zip];omega
 unfold aaE
 rw[List.take_succ_eq_append_getElem hz,List.filter_append,List.map_append,List.getElem_zip]
 congr 1
 rw[List.filter_cons,List.filter_nil]
 dsimp only
 split<;>rfl
theorem asi(mask:Int):∀m,∀x∈aaL mask m,∃i,i<m/\x=(aG i).1
 |0,x,h=>by cases h
 |m+1,x,h=>by
  rcases List.mem_append.1 (show x∈aaL mask m++(if FX mask m then[]else[(aG m).1])from h)with h|h
  ·obtain⟨i,hi,e⟩:=asi mask m x h
   exact⟨i,by omega,e⟩
  ·split at h
   ·cases h
   ·exact⟨m,by omega,List.mem_singleton.1 h⟩
theorem azN(a b:List Int):iZ (a++b)=iZ a++iZ b:=by
 unfold iZ
 rw[List.filter_append,List.map_append]
theorem asz(mask:Int):∀m,m<=4->∀k,k<4->iR (iZ (aaL mask m)) (aG k).2=aa1 mask m k
 |0,_,k,_=>by
  show false=_
  unfold aa1
  simp
 |m+1,hm,k,hk=>by
  have ih:=asz mask m (by omega) k hk
  show iR (iZ (aaL mask m++if FX mask m then[]else[(aG m).1])) _=_
  have ha:∀a b:List Int,iR (a++b) (aG k).2=(iR a (aG k).2||iR b (aG k).2):=fun a b=>List.any_append ..
  rw[azN,ha,ih]
  have he:∀b:Bool,b=decide (k=m)->(aa1 mask m k||(!FX mask m&&b))=aa1 mask (m+1) k:=by
   rintro b rfl
   unfold aa1
   by_cases e:k=m
   ·subst e
    simp
   ·have:decide (k<m+1)=decide (k<m):=by
     rw[decide_eq_decide]
     omega
    rw[this]
    simp[e]
  rw[<-he _ rfl]
  congr 1
  cases FX mask m with
  |true=>rfl
  |false=>
   show iR (iZ [(aG m).1]) _=_
   rw[ahV]
   show([(aG m).2].any fun o=>decide (o=(aG k).2))=_
   rw[List.any_cons,List.any_nil,Bool.or_false,Bool.not_false,Bool.true_and,decide_eq_decide]
   exact⟨fun e=>(ahW m (by omega) k hk e).symm,fun e=>by rw[e]⟩
theorem akN(mask:Int)(K:List Nat)(L:List (Int×Int))(hL:L.length=K.length):∀m,(aaJ mask K L m).Perm (((K.zip L).filter fun z=>aa1 mask m z.1).map fun z=>z.2)
 |0=>by
  have h:((K.zip L).filter fun z=>aa1 mask 0 z.1)=[]:=List.filter_eq_nil_iff.2 fun z _=>by simp[aa1]
  rw[h]
  exact List.Perm.refl _
 |m+1=>by
  have ih:=akN mask K L hL m
  show(aaJ mask K L m++if FX mask m then[]else aaE K L m K.length).Perm _
  have ht:(K.zip L).take K.length=K.zip L:=List.take_of_length_le (by rw[List.length_zip];omega)
  cases ho:FX mask m with
  |true=>
   have h:((K.zip L).filter fun z=>aa1 mask (m+1) z.1)=((K.zip L).filter fun z=>aa1 mask m z.1):=List.filter_congr fun z _=>by
    unfold aa1
    by_cases e:z.1=m
    ·rw[e,ho]
     simp
    ·have:decide (z.1<m+1)=decide (z.1<m):=by
      rw[decide_eq_decide]
      omega
     rw[this]
   rw[h,if_pos rfl,List.append_nil]
   exact ih
  |false=>
   have h:((K.zip L).filter fun z=>aa1 mask (m+1) z.1)=((K.zip L).filter fun z=>aa1 mask m z.1||z.1==m):=List.filter_congr fun z _=>by
    unfold aa1
    by_cases e:z.1=m
    ·rw[e,ho]
     simp
    ·have:decide (z.1<m+1)=decide (z.1<m):=by
      rw[decide_eq_decide]
      omega
     rw[this]
     simp[e]
   rw[h,if_neg (by simp)]
   refine List.Perm.trans ?_ ((azL (fun z:Nat×Int×Int=>aa1 mask m z.1) (fun z=>z.1==m) (K.zip L) fun z _ hz=> ?_).map _).symm
   ·rw[List.map_append]
    refine List.Perm.append ih ?_
    unfold aaE
    rw[ht]
   ·unfold aa1 at hz
    rw[Bool.and_eq_true,decide_eq_true_eq]at hz
    rw[beq_eq_false_iff_ne]
    omega
theorem azO(mask:Int)(K:List Nat)(L:List (Int×Int))(hL:L.length=K.length)(hK:∀k∈K,k<4):(aaJ mask K L 4).length=(K.map fun k=>(aG k).2).countP (iR (iZ (aaL mask 4))):=by
 rw[(akN mask K L hL 4).length_eq,List.length_map,<-List.countP_eq_length_filter,List.countP_map]
 have h1:((K.zip L).map fun z=>z.1)=K:=List.map_fst_zip (by omega)
 have h2:(K.zip L).countP (fun z=>aa1 mask 4 z.1)=K.countP (aa1 mask 4):=by
  rw[show(K.countP (aa1 mask 4))=(((K.zip L).map fun z=>z.1).countP (aa1 mask 4)) by rw[h1],List.countP_map]
  rfl
 rw[h2]
 refine List.countP_congr fun k hk=> ?_
 rw[Function.comp_apply,asz mask 4 (by omega) k (hK k hk)]
theorem azP(mask:Int)(K:List Nat)(s:Int)(seed:ByteArray)(t n:Nat)(hn:n=K.length):oG.aex s seed t n (aaJ mask K (oG.yH s seed t n) 4):=by
 have hL:(oG.yH s seed t n).length=K.length:=by rw[oG.avF];exact hn
 have hp:=akN mask K (oG.yH s seed t n) hL 4
 have h2:((K.zip (oG.yH s seed t n)).map fun z=>z.2)=oG.yH s seed t n:=List.map_snd_zip (by omega)
 have hs:(((K.zip (oG.yH s seed t n)).filter fun z=>aa1 mask 4 z.1).map fun z=>z.2).Sublist (oG.yH s seed t n):=by
  have:=(List.filter_sublist (p:=fun z:Nat×Int×Int=>aa1 mask 4 z.1) (l:=K.zip (oG.yH s seed t n))).map fun z=>z.2
  rwa[h2]at this
 refine⟨fun p hm=>hs.subset (hp.mem_iff.1 hm),?_⟩
 exact(hp.pairwise_iff fun h e=>h e.symm).2 (List.Pairwise.sublist hs (oG.azG s seed t n))
theorem azQ(x P:Int)(seed plain:ByteArray)(h:P≠dW 37 x):bV.BP x (bV.wZ P seed plain)=(bV.lit [],false):=by
 unfold bV.BP
 rw[if_neg]
 unfold bV.xg bV.wZ
 simp[h]
theorem azR(x p:Int)(seed plain:ByteArray)(b:Bool)(hs:bV.um x=true)(hb:b=decide (p=dW 37 x)):bV.BP x (je (bV.wZ p seed plain)).kH=if b then(plain,true)else(bV.lit [],false):=by
 show bV.BP x (bV.wZ p seed plain)=_
 by_cases e:p=dW 37 x
 ·subst e
  rw[hb,if_pos (by simp)]
  exact bV.apZ _ _ _ hs
 ·rw[hb,if_neg (by simp[e])]
  exact azQ _ _ _ _ e
theorem azS(r:Nat)(hr:r<4)(k:Nat)(hk:k<4):(k==r)=decide ((aG k).2=dW 37 (aG r).1):=by
 rw[Rh]
 by_cases e:k=r
 ·rw[e]
  simp
 ·rw[beq_eq_false_iff_ne.2 e,eq_comm,decide_eq_false_iff_not]
  exact fun h=>e (ahW k hk r hr h)
theorem azT(r:Nat)(hr:r<4)(k:Nat)(hk:k<4)(seed plain:ByteArray):bV.BP (aG r).1 (je (bV.wZ (aG k).2 seed plain)).kH=if k==r then(plain,true)else(bV.lit [],false):=
 azR _ _ _ _ _ (atg r) (azS r hr k hk)
theorem azU(s:ByteArray)(ps:List Int)(L:List (Int×Int))(n j:Nat)(h1:j<ps.length)(h2:j<L.length)(h3:j<(jM s ps L n).length):(jM s ps L n)[j]=je (bV.wZ ps[j] (s++aU (j:Int)) (WH L[j])):=by
 have e2:ps.getD j 0=ps[j]:=by
  rw[List.getD_eq_getElem?_getD,List.getElem?_eq_getElem h1]
  rfl
 have e3:L.getD j (0,0)=L[j]:=by
  rw[List.getD_eq_getElem?_getD,List.getElem?_eq_getElem h2]
  rfl
 have h:(jM s ps L n)[j]?=some (RZ s ps L j):=by
  have h4:=h3
  rw[KZ]at h4
  unfold jM
  rw[List.getElem?_map,List.getElem?_range h4]
  rfl
 rw[List.getElem?_eq_getElem h3]at h
 injection h with h
 rw[h]
 unfold RZ
 rw[e2,e3]
structure azV(i:Nat)(c:ay)(K:List Nat)(L:List (Int×Int))(s:ak):Prop where
 kn:K.length<=4
 lt:∀k∈K,k<4
 len:L.length=K.length
 wl:s.wraps.length=K.length
 bd:∀p∈L,1<=p.1/\p.1<2305843009213693951/\0<=p.2/\p.2<2305843009213693951
 un:∀r,r<4->∀j (h:j<K.length) (h1:j<s.wraps.length) (h2:j<L.length),bV.BP (aG r).1 s.wraps[j].kH=if K[j]==r then(WH L[j],true)else(bV.lit [],false)
theorem azW(K:List Nat)(f:Nat->Int×Int)(s:ByteArray)(L:List (Int×Int))(W:List bQ)(hW:W=jM s (K.map fun k=>(f k).2) L K.length)(hlt:∀k∈K,k<4)
 (hf:∀r,r<4->∀k,k<4->∀seed plain:ByteArray,bV.BP (f r).1 (je (bV.wZ (f k).2 seed plain)).kH=if k==r then(plain,true)else(bV.lit [],false)):
 ∀r,r<4->∀j (h:j<K.length) (h1:j<W.length) (h2:j<L.length),bV.BP (f r).1 W[j].kH=if K[j]==r then(WH L[j],true)else(bV.lit [],false):=by
 intro r hr j hj h1 h2
 subst hW
 rw[azU s _ L K.length j (by rw[List.length_map];exact hj) h2 h1,List.getElem_map]
 exact hf r hr _ (hlt _ (List.getElem_mem hj)) _ _
theorem azX{i:Nat}{c:ay}{t:Int}{s:ak}(fr:Int)(h:ajt i c (lK fr) t s):azV i c (Sj fr) (Dn (nN (aG i) c) (keyS (aG i) c).1 t (Sj fr).length) s:=by
 have hp:=av9 fr
 have hl:(dZ (lK fr)).length=(Sj fr).length:=by rw[hp,List.length_map]
 have hlt:=av7 fr
 have hk:(Sj fr).length<=4:=by
  unfold Sj
  exact List.length_filter_le _ _
 have hL:(Dn (nN (aG i) c) (keyS (aG i) c).1 t (Sj fr).length).length=(Sj fr).length:=oG.avF _ _ _ _
 have hw:=h.wraps
 rw[hl,hp]at hw
 have hwl:s.wraps.length=(Sj fr).length:=by rw[hw,KZ]
 have hbd:∀p∈Dn (nN (aG i) c) (keyS (aG i) c).1 t (Sj fr).length,1<=p.1/\p.1<2305843009213693951/\0<=p.2/\p.2<2305843009213693951:=fun p hm=>oG.avN _ _ _ _ (by omega) p hm
 generalize Dn (nN (aG i) c) (keyS (aG i) c).1 t (Sj fr).length=L at*
 generalize Sj fr=K at*
 generalize nN (aG i) c=sd at*
 exact⟨hk,hlt,hL,hwl,hbd,azW K aG sd L s.wraps hw hlt azT⟩
theorem azY{i:Nat}{c:ay}(mask:Int)(K:List Nat)(hK:K.length<=4)(t:Int)(ht:1<=t)(hs:1<=(keyS (aG i) c).1/\(keyS (aG i) c).1<=2305843009213693949)(hl:t<=((aaJ mask K (Dn (nN (aG i) c) (keyS (aG i) c).1 t K.length) 4).length:Int)):
 oG.aeh (aaJ mask K (Dn (nN (aG i) c) (keyS (aG i) c).1 t K.length) 4) t=((keyS (aG i) c).1,true):=by
 have h:=azP mask K (keyS (aG i) c).1 (nN (aG i) c) t.toNat K.length rfl
 exact oG.aex.join (h.take t.toNat) (by omega) ht hl (by omega) (by omega)
end Rel
end Go.Proofs.YtbemmjnjoabadaaGreatDoor
