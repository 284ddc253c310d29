/- part 29 -/
import Derived.Test.YtbemmjnjoabadaaGreatDoorK24
set_option linter.unusedVariables false
set_option linter.unusedSimpArgs false
set_option maxHeartbeats 16000000
set_option maxRecDepth 100000
namespace Go.Proofs.YtbemmjnjoabadaaGreatDoor
namespace bP
open Go.RowKit aQ Mem _root_.Go.Proofs.YtbemmjnjoabadaaGreatDoor.Code aY Sign _root_.Go.Proofs.YtbemmjnjoabadaaGreatDoor.Item _root_.Go.Proofs.YtbemmjnjoabadaaGreatDoor.Known _root_.Go.Proofs.YtbemmjnjoabadaaGreatDoor.Rel
def FX(mask:Int)(k:Nat):Bool:=bits .and .i64 (mask/2^k) 1==0
def xC(l:List ByteArray)(id:ByteArray):Nat->Nat
 |0=>0
 |n+1=>match l[n]? with
  |some x=>if iq id x then xC l id n else n+1
  |none=>n+1
def jw(l:List ByteArray)(id:ByteArray):List ByteArray:=l.take (xC l id l.length)++id::l.drop (xC l id l.length)
def sW(mask:Int):Nat->List ByteArray
 |0=>[]
 |k+1=>if FX mask k then sW mask k else jw (sW mask k) (dn k)
def lK(mask:Int):List ByteArray:=sW mask 4
theorem aga(l:List ByteArray)(id:ByteArray):∀n,xC l id n<=n
 |0=>Nat.le_refl _
 |n+1=>by
  rw[xC]
  have:=aga l id n
  split
  ·split<;>omega
  ·omega
theorem zx(l:List ByteArray)(id:ByteArray):(jw l id).length=l.length+1:=by
 have:=aga l id l.length
 unfold jw
 rw[List.length_append,List.length_cons,List.length_take,List.length_drop]
 omega
theorem Vq(mask:Int):∀k,(sW mask k).length<=k
 |0=>Nat.le_refl _
 |k+1=>by
  have:=Vq mask k
  rw[sW]
  split
  ·omega
  ·rw[zx];omega
theorem Kz(x:ByteArray)(w:World):(Instr.buildSlice 30 1 #[(0, .string x)]).run Tryz.prog w= .ok (.slice (some ⟨w.heap.size,0,none⟩) 1 1) (w.alloc (.cells #[.string x] 9)):=by kernel_rfl
theorem Vr(w:World):(Instr.buildSlice 30 0 #[]).run Tryz.prog w= .ok (.slice (some ⟨w.heap.size,0,none⟩) 0 0) (w.alloc (.cells #[] 9)):=by kernel_rfl
theorem Zm(mask:Int)(w:World)(hT:Tab w):Calls Tryz.prog 21 #[.int .i64 mask] w (yR (lK mask) w):=by
 have hmx:maxLen=9223372036854775807:=by decide
 obtain⟨i0,hi,jq,hz1,hz2⟩:=info_parts Un
 have hId:=fun(k:Nat) (hk:k<4) (y:Wd w)=>Vb k y.w (hT.q y.q) (by omega)
 obtain⟨v0,hv0⟩:=Wd.first w
 refine(show Calls Tryz.prog 21 #[.int .i64 mask] v0.w _->_ from fun h=>by rwa[<-hv0]at h) ?_
 clear hv0 hT
 go_enter Tryz.func21,Tryz.ntmps21
 go_wp2_with fail
 go_loopw [3,4] (fun a i wr=>∃(k:Nat) (D:Option Addr) (cd:Nat) (ss:List ByteArray) (z:Wd w),a= .slice D ss.length cd/\i= .int .i64 k/\wr=z.w/\k<=4/\ss.length<=k/\ss.length<=cd/\cd<=maxLen/\Hid (ss=sW mask k)/\aV z.w w.heap.size 9 1 (.slice D ss.length cd) ss.length (ss.flatMap dP)) (fun _ i _=>4-(intOf i).toNat)
 case atStart=>exact⟨0,none,0,[],v0,rfl,rfl,rfl,Nat.zero_le _,Nat.zero_le _,Nat.zero_le _,Nat.zero_le _,Lib.hid rfl,aV.nil_ _ _ _ _⟩
 case round=>
  obtain⟨k,D,cd,ss,z,rfl,rfl,rfl,hk,hsk,hsc,hcm,hss,hown⟩:=hrel
  by_cases hkl:k<4
  ·have Vf:(k:Int)<4:=by omega
   have hk0:(0:Int)<=(k:Int):=by omega
   have hck:sW mask (k+1)=if FX mask k then sW mask k else jw (sW mask k) (dn k):=rfl
   have mZ:=hId k hkl
   have hoff:(bits .and .i64 (mask/2^k) 1==0)=FX mask k:=rfl
   rw[<-hss.out]at hck
   generalize dn k=id at*
   cases ho:FX mask k
   ·rw[ho]at hck hoff
    rw[if_neg (by simp)]at hck
    go_wp2_with (go_at_call 11;refine(mZ _).mono ?_;rintro e w5 ⟨rfl,q5⟩)
    have hown5:=hown.q q5
    have Ii:=Q.trans z.q q5
    clear mZ hId
    obtain⟨nl,hnl⟩:∃nl,ss.length=nl:=⟨_,rfl⟩
    have hS5:Strs w5 D ss:=gB (aV.rows kZ hown5 rfl)
    rw[hnl]at hsk hsc hown5⊢
    go_loopw [6] (fun a wr=>wr=w5/\∃(n:Nat),a= .int .i64 n/\n<=nl/\Hid (xC ss id nl=xC ss id n)) (fun a _=>(intOf a).toNat)
    case atStart=>exact⟨rfl,nl,rfl,Nat.le_refl _,Lib.hid rfl⟩
    case round=>
     obtain⟨rfl,n,rfl,hn,Ef⟩:=hrel
     have hrest:n=0∨∃m,n=m+1:=by cases n with
      |zero=>exact .inl rfl
      |succ m=>exact .inr ⟨m,rfl⟩
     rcases hrest with hn0|⟨m,hm⟩
     ·have hneg:¬(0:Int)<(n:Int):=by omega
      have hat:Hid (xC ss id nl=n):=Lib.hid (by rw[Ef.out,hn0];rfl)
      clear Ef hn0
      go_upto_region 10 with(fail)
      refine uT (fun z=>Q wr z) (by kernel_rfl) ?_
      have hz0:Q wr wr.drew:=(Q.refl _).drew
      have hRS:=aV.rows kZ hown5 hnl.symm
      have gJ:∀z,Q wr z->dS z D 1 dP (ss.take n):=fun z hz=>aeB (hRS.q hz) n
      have iw:∀z,Q wr z->dS z (if cd=n then D else D.map (·.add (n*1))) 1 dP (ss.drop n):=fun z hz=>adJ (hRS.q hz) n cd (by omega)
      obtain⟨DD,hDD⟩:∃DD,(if cd=n then D else D.map (·.add (n*1)))=DD:=⟨_,rfl⟩
      rw[hDD]at iw
      have hlt:(ss.take n).length=n:=by rw[List.length_take];omega
      have hld:(ss.drop n).length=nl-n:=by rw[List.length_drop];omega
      have KA:=Ii.size
      obtain⟨z0,QA⟩:∃z0,wr.drew=z0:=⟨_,rfl⟩
      rw[QA]at hz0⊢
      clear QA
      refine aS 1 (.slice D nl cd) hz0 ?_
      try simp only[aax]
      refine aS 2 (.int .i64 (n:Int)) hz0 ?_
      try simp only[aax]
      refine V7 3 (.slice D n cd) rfl hz0 (fun z hz=>aeA 30 9 (.tmp 34) (.tmp 35) D nl cd n 1 rfl Tryz.underlying30 (by kernel_rfl) Tryz.sizeOf9 rfl rfl (by omega)) ?_
      try simp only[aax]
      refine aS 5 (.string id) hz0 ?_
      try simp only[aax]
      refine aS 8 (.slice D nl cd) hz0 ?_
      try simp only[aax]
      refine aS 9 (.int .i64 (n:Int)) hz0 ?_
      try simp only[aax]
      refine V7 10 (.slice DD (nl-n) (cd-n)) rfl hz0 (fun z hz=>hDD▸aez 30 9 (.tmp 41) (.tmp 42) D nl cd n 1 rfl Tryz.underlying30 (by kernel_rfl) Tryz.sizeOf9 rfl rfl (by omega) (by omega)) ?_
      try simp only[aax]
      refine kL 0 6 (fun K' hK'=> ?_) fun K' hK'=> ?_
      ·refine dY (fQ 30 0 #[] #[] _ rfl (by simp) (Vr z0)) ?_
       have hq1:Q wr (z0.alloc (.cells #[] 9)):=Q.trans hz0 (Below.alloc (Q.refl _) (Nat.le_refl _) _)
       have D5:=aV.empty_ z0 wr.heap.size 1 9 (hz0).size
       have YV:(z0.alloc (.cells #[] 9)).heap.size=z0.heap.size+1:=by simp
       refine hK' _ _ hq1 ?_
       clear hK' K'
       try simp only[aax]
       obtain⟨z1,hz1⟩:∃z1,z0.alloc (.cells #[] 9)=z1:=⟨_,rfl⟩
       rw[hz1]at hq1 D5 YV⊢
       clear hz1
       refine kL 4 6 (fun K' hK'=> ?_) fun K' hK'=> ?_
       ·refine jB kZ oZ (.tmp 33) (.tmp 36) 30 9 i0 _ 16 rfl Tryz.underlying30 hi jq hz1 hz2 rfl (by decide) (by decide) wr.heap.size (.slice (some ⟨z0.heap.size,0,none⟩) 0 0) (0) [] rfl D5 D n cd (ss.take n) rfl (gJ z1 hq1) hlt (by omega) (hq1).size ?_
        intro A2 n2 z2 c12 c22 ow2 hg2
        have hq2:Q wr z2:=fB hq1 (Nat.le_refl _) D5 hg2
        refine hK' _ _ hq2 ?_
        clear hK' K'
        try simp only[aax]
        clear hg2
        refine aW 6 fun K' hK'=> ?_
        refine dY (fQ 30 1 _ #[(0, .string id)] _ rfl (by simp only[List.map_toArray,List.map_cons,List.map_nil];rfl) (Kz id z2)) ?_
        have hq3:Q wr (z2.alloc (.cells #[.string id] 9)):=Q.trans hq2 (Below.alloc (Q.refl _) (Nat.le_refl _) _)
        have QB:=ah.new z2 9 #[.string id]
        have PX:=ow2.alloc (.cells #[.string id] 9)
        have sz3:(z2.alloc (.cells #[.string id] 9)).heap.size=z2.heap.size+1:=by simp
        refine hK' _ _ hq3 ?_
        clear hK' K'
        try simp only[aax]
        obtain⟨z3,hz3⟩:∃z3,z2.alloc (.cells #[.string id] 9)=z3:=⟨_,rfl⟩
        rw[hz3]at hq3 QB sz3 PX⊢
        clear hz3
        refine aW 7 fun K' hK'=> ?_
        refine jB kZ oZ (.tmp 37) (.tmp 39) 30 9 i0 _ 16 rfl Tryz.underlying30 hi jq hz1 hz2 rfl (by decide) (by decide) wr.heap.size (.slice A2 (0+n) n2) (0+n) ([]++(ss.take n)) rfl PX (some ⟨z2.heap.size,0,none⟩) 1 1 [id] rfl (jW (f:=dP) QB) rfl (by omega) (hq3).size ?_
        intro A4 n4 z4 c14 c24 MS hg4
        have hq4:Q wr z4:=fB hq3 (Nat.le_refl _) PX hg4
        refine hK' _ _ hq4 ?_
        clear hK' K'
        try simp only[aax]
        clear hg4
        refine aW 11 fun K' hK'=> ?_
        refine jB kZ oZ (.tmp 40) (.tmp 43) 30 9 i0 _ 16 rfl Tryz.underlying30 hi jq hz1 hz2 rfl (by decide) (by decide) wr.heap.size (.slice A4 (0+n+1) n4) (0+n+1) (([]++(ss.take n))++[id]) rfl MS DD (nl-n) (cd-n) (ss.drop n) rfl (iw z4 hq4) hld (by omega) (hq4).size ?_
        intro A5 n5 z5 c15 c25 YW hg5
        have hq5:Q wr z5:=fB hq4 (Nat.le_refl _) MS hg5
        refine hK' _ _ hq5 ?_
        clear hK' K'
        try simp only[aax]
        clear hg5
        refine aS 12 (.slice A5 (0+n+1+(nl-n)) n5) hq5 ?_
        try simp only[aax]
        refine wpAnyH_done (by kernel_rfl) ?_ _
        have hlen:0+n+1+(nl-n)=(jw ss id).length:=by rw[zx];omega
        have hrow:((([]++(ss.take n))++[id])++(ss.drop n))=jw ss id:=by unfold jw;rw[hnl,hat.out];simp
        have eX:=YW
        rw[hrow,hlen]at eX
        rw[hlen]
        have kU:=c15
        rw[hlen]at kU
        have HO:=Lib.hid (eX.low KA)
        have HS:Hid (jw ss id=sW mask (k+1)):=Lib.hid hck.symm
        have hil:=zx ss id
        have CO:Q w z5:=Q.trans Ii hq5
        have CP:=c25
        clear eX hown5 gJ iw hRS hS5 hrow hck hat
        go_wp2_with fail
        exact⟨⟨k+1,A5,n5,jw ss id,⟨z5,CO⟩,rfl,by go_num,rfl,by omega,by omega,kU,CP,HS,HO.out⟩,by simp only[intOf];omega⟩
       ·refine dY (fQ 30 1 _ #[(0, .string id)] _ rfl (by simp only[List.map_toArray,List.map_cons,List.map_nil];rfl) (Kz id z1)) ?_
        have hq6:Q wr (z1.alloc (.cells #[.string id] 9)):=Q.trans hq1 (Below.alloc (Q.refl _) (Nat.le_refl _) _)
        have PY:=ah.new z1 9 #[.string id]
        have JR:=D5.alloc (.cells #[.string id] 9)
        have YX:(z1.alloc (.cells #[.string id] 9)).heap.size=z1.heap.size+1:=by simp
        refine hK' _ _ hq6 ?_
        clear hK' K'
        try simp only[aax]
        obtain⟨z6,lg⟩:∃z6,z1.alloc (.cells #[.string id] 9)=z6:=⟨_,rfl⟩
        rw[lg]at hq6 PY YX JR⊢
        clear lg
        refine aW 4 fun K' hK'=> ?_
        refine jB kZ oZ (.tmp 33) (.tmp 36) 30 9 i0 _ 16 rfl Tryz.underlying30 hi jq hz1 hz2 rfl (by decide) (by decide) wr.heap.size (.slice (some ⟨z0.heap.size,0,none⟩) 0 0) (0) [] rfl JR D n cd (ss.take n) rfl (gJ z6 hq6) hlt (by omega) (hq6).size ?_
        intro A7 n7 z7 c17 c27 PZ Hy
        have hq7:Q wr z7:=fB hq6 (Nat.le_refl _) JR Hy
        have MV:=PY.grown (h:=z0.heap.size) Hy rfl (by omega)
        refine hK' _ _ hq7 ?_
        clear hK' K'
        try simp only[aax]
        clear Hy
        refine aW 7 fun K' hK'=> ?_
        refine jB kZ oZ (.tmp 37) (.tmp 39) 30 9 i0 _ 16 rfl Tryz.underlying30 hi jq hz1 hz2 rfl (by decide) (by decide) wr.heap.size (.slice A7 (0+n) n7) (0+n) ([]++(ss.take n)) rfl PZ (some ⟨z1.heap.size,0,none⟩) 1 1 [id] rfl (jW (f:=dP) MV) rfl (by omega) (hq7).size ?_
        intro A8 n8 z8 c18 c28 UY Hz
        have hq8:Q wr z8:=fB hq7 (Nat.le_refl _) PZ Hz
        refine hK' _ _ hq8 ?_
        clear hK' K'
        try simp only[aax]
        clear Hz
        refine aW 11 fun K' hK'=> ?_
        refine jB kZ oZ (.tmp 40) (.tmp 43) 30 9 i0 _ 16 rfl Tryz.underlying30 hi jq hz1 hz2 rfl (by decide) (by decide) wr.heap.size (.slice A8 (0+n+1) n8) (0+n+1) (([]++(ss.take n))++[id]) rfl UY DD (nl-n) (cd-n) (ss.drop n) rfl (iw z8 hq8) hld (by omega) (hq8).size ?_
        intro A9 n9 z9 c19 c29 jJ bW
        have bD:Q wr z9:=fB hq8 (Nat.le_refl _) UY bW
        refine hK' _ _ bD ?_
        clear hK' K'
        try simp only[aax]
        clear bW
        refine aS 12 (.slice A9 (0+n+1+(nl-n)) n9) bD ?_
        try simp only[aax]
        refine wpAnyH_done (by kernel_rfl) ?_ _
        have hlen:0+n+1+(nl-n)=(jw ss id).length:=by rw[zx];omega
        have hrow:((([]++(ss.take n))++[id])++(ss.drop n))=jw ss id:=by unfold jw;rw[hnl,hat.out];simp
        have eX:=jJ
        rw[hrow,hlen]at eX
        rw[hlen]
        have kU:=c19
        rw[hlen]at kU
        have HO:=Lib.hid (eX.low KA)
        have HS:Hid (jw ss id=sW mask (k+1)):=Lib.hid hck.symm
        have hil:=zx ss id
        have CO:Q w z9:=Q.trans Ii bD
        have CP:=c29
        clear eX hown5 gJ iw hRS hS5 hrow hck hat
        go_wp2_with fail
        exact⟨⟨k+1,A9,n9,jw ss id,⟨z9,CO⟩,rfl,by go_num,rfl,by omega,by omega,kU,CP,HS,HO.out⟩,by simp only[intOf];omega⟩
      ·refine dY (fQ 30 1 _ #[(0, .string id)] _ rfl (by simp only[List.map_toArray,List.map_cons,List.map_nil];rfl) (Kz id z0)) ?_
       have hq10:Q wr (z0.alloc (.cells #[.string id] 9)):=Q.trans hz0 (Below.alloc (Q.refl _) (Nat.le_refl _) _)
       have QC:=ah.new z0 9 #[.string id]
       have agc:(z0.alloc (.cells #[.string id] 9)).heap.size=z0.heap.size+1:=by simp
       refine hK' _ _ hq10 ?_
       clear hK' K'
       try simp only[aax]
       obtain⟨z10,Au⟩:∃z10,z0.alloc (.cells #[.string id] 9)=z10:=⟨_,rfl⟩
       rw[Au]at hq10 QC agc⊢
       clear Au
       refine aW 0 fun K' hK'=> ?_
       refine dY (fQ 30 0 #[] #[] _ rfl (by simp) (Vr z10)) ?_
       have hq11:Q wr (z10.alloc (.cells #[] 9)):=Q.trans hq10 (Below.alloc (Q.refl _) (Nat.le_refl _) _)
       have MX:=aV.empty_ z10 wr.heap.size 1 9 (hq10).size
       have MZ:=QC.alloc (.cells #[] 9)
       have ar4:(z10.alloc (.cells #[] 9)).heap.size=z10.heap.size+1:=by simp
       refine hK' _ _ hq11 ?_
       clear hK' K'
       try simp only[aax]
       obtain⟨z11,zy⟩:∃z11,z10.alloc (.cells #[] 9)=z11:=⟨_,rfl⟩
       rw[zy]at hq11 MX ar4 MZ⊢
       clear zy
       refine aW 4 fun K' hK'=> ?_
       refine jB kZ oZ (.tmp 33) (.tmp 36) 30 9 i0 _ 16 rfl Tryz.underlying30 hi jq hz1 hz2 rfl (by decide) (by decide) wr.heap.size (.slice (some ⟨z10.heap.size,0,none⟩) 0 0) (0) [] rfl MX D n cd (ss.take n) rfl (gJ z11 hq11) hlt (by omega) (hq11).size ?_
       intro zi n12 z12 aqB c212 U0 JU
       have hq12:Q wr z12:=fB hq11 (Nat.le_refl _) MX JU
       have ar5:=MZ.grown (h:=z10.heap.size) JU rfl (by omega)
       refine hK' _ _ hq12 ?_
       clear hK' K'
       try simp only[aax]
       clear JU
       refine aW 7 fun K' hK'=> ?_
       refine jB kZ oZ (.tmp 37) (.tmp 39) 30 9 i0 _ 16 rfl Tryz.underlying30 hi jq hz1 hz2 rfl (by decide) (by decide) wr.heap.size (.slice zi (0+n) n12) (0+n) ([]++(ss.take n)) rfl U0 (some ⟨z0.heap.size,0,none⟩) 1 1 [id] rfl (jW (f:=dP) ar5) rfl (by omega) (hq12).size ?_
       intro A13 n13 z13 ax9 c213 agd agf
       have wH:Q wr z13:=fB hq12 (Nat.le_refl _) U0 agf
       refine hK' _ _ wH ?_
       clear hK' K'
       try simp only[aax]
       clear agf
       refine aW 11 fun K' hK'=> ?_
       refine jB kZ oZ (.tmp 40) (.tmp 43) 30 9 i0 _ 16 rfl Tryz.underlying30 hi jq hz1 hz2 rfl (by decide) (by decide) wr.heap.size (.slice A13 (0+n+1) n13) (0+n+1) (([]++(ss.take n))++[id]) rfl agd DD (nl-n) (cd-n) (ss.drop n) rfl (iw z13 wH) hld (by omega) (wH).size ?_
       intro A14 n14 xq ar7 ar8 Na Zn
       have jX:Q wr xq:=fB wH (Nat.le_refl _) agd Zn
       refine hK' _ _ jX ?_
       clear hK' K'
       try simp only[aax]
       clear Zn
       refine aS 12 (.slice A14 (0+n+1+(nl-n)) n14) jX ?_
       try simp only[aax]
       refine wpAnyH_done (by kernel_rfl) ?_ _
       have hlen:0+n+1+(nl-n)=(jw ss id).length:=by rw[zx];omega
       have hrow:((([]++(ss.take n))++[id])++(ss.drop n))=jw ss id:=by unfold jw;rw[hnl,hat.out];simp
       have eX:=Na
       rw[hrow,hlen]at eX
       rw[hlen]
       have kU:=ar7
       rw[hlen]at kU
       have HO:=Lib.hid (eX.low KA)
       have HS:Hid (jw ss id=sW mask (k+1)):=Lib.hid hck.symm
       have hil:=zx ss id
       have CO:Q w xq:=Q.trans Ii jX
       have CP:=ar8
       clear eX hown5 gJ iw hRS hS5 hrow hck hat
       go_wp2_with fail
       exact⟨⟨k+1,A14,n14,jw ss id,⟨xq,CO⟩,rfl,by go_num,rfl,by omega,by omega,kU,CP,HS,HO.out⟩,by simp only[intOf];omega⟩
     ·have hmL:m<ss.length:=by omega
      obtain⟨b,o,eD,hb0,hcs⟩:=hS5 (by omega)
      have cx:wr.cell? ⟨b,o+m,none⟩=some (.string ss[m]):=hcs m hmL
      have hcr:xC ss id n=if iq id ss[m]then xC ss id m else n:=by rw[hm,xC,List.getElem?_eq_getElem hmL]
      clear hcs
      obtain⟨x,hx⟩:∃x,ss[m]=x:=⟨_,rfl⟩
      rw[hx]at cx hcr
      have hmp:(0:Int)<(n:Int):=by omega
      have hsub:(n:Int)-1=(m:Int):=by omega
      have hm0:(0:Int)<=(m:Int):=by omega
      have hml:(m:Int)<(nl:Int):=by omega
      rw[eD]
      cases hl:iq id x
      ·rw[hl]at hcr
       have hat:Hid (xC ss id nl=n):=Lib.hid (by rw[Ef.out,hcr];rfl)
       have hw:Op.bytesLess x.toList id.toList=true∨(x.toList==id.toList)=true:=by
        rcases OI id x with h|h|h
        ·rw[hl]at h;cases h
        ·right;rw[h];exact beq_self_eq_true _
        ·exact .inl h
       clear Ef hcr hx
       rcases hw with h1|h1
       all_goals
        go_upto_region 10 with(fail)
        rw[<-eD]
        clear h1 cx hsub hml hm0 hmp
        refine uT (fun z=>Q wr z) (by kernel_rfl) ?_
        have hz0:Q wr wr.drew:=(Q.refl _).drew
        have hRS:=aV.rows kZ hown5 hnl.symm
        have gJ:∀z,Q wr z->dS z D 1 dP (ss.take n):=fun z hz=>aeB (hRS.q hz) n
        have iw:∀z,Q wr z->dS z (if cd=n then D else D.map (·.add (n*1))) 1 dP (ss.drop n):=fun z hz=>adJ (hRS.q hz) n cd (by omega)
        obtain⟨DD,hDD⟩:∃DD,(if cd=n then D else D.map (·.add (n*1)))=DD:=⟨_,rfl⟩
        rw[hDD]at iw
        have hlt:(ss.take n).length=n:=by rw[List.length_take];omega
        have hld:(ss.drop n).length=nl-n:=by rw[List.length_drop];omega
        have KA:=Ii.size
        obtain⟨z0,QA⟩:∃z0,wr.drew=z0:=⟨_,rfl⟩
        rw[QA]at hz0⊢
        clear QA
        refine aS 1 (.slice D nl cd) hz0 ?_
        try simp only[aax]
        refine aS 2 (.int .i64 (n:Int)) hz0 ?_
        try simp only[aax]
        refine V7 3 (.slice D n cd) rfl hz0 (fun z hz=>aeA 30 9 (.tmp 34) (.tmp 35) D nl cd n 1 rfl Tryz.underlying30 (by kernel_rfl) Tryz.sizeOf9 rfl rfl (by omega)) ?_
        try simp only[aax]
        refine aS 5 (.string id) hz0 ?_
        try simp only[aax]
        refine aS 8 (.slice D nl cd) hz0 ?_
        try simp only[aax]
        refine aS 9 (.int .i64 (n:Int)) hz0 ?_
        try simp only[aax]
        refine V7 10 (.slice DD (nl-n) (cd-n)) rfl hz0 (fun z hz=>hDD▸aez 30 9 (.tmp 41) (.tmp 42) D nl cd n 1 rfl Tryz.underlying30 (by kernel_rfl) Tryz.sizeOf9 rfl rfl (by omega) (by omega)) ?_
        try simp only[aax]
        refine kL 0 6 (fun K' hK'=> ?_) fun K' hK'=> ?_
        ·refine dY (fQ 30 0 #[] #[] _ rfl (by simp) (Vr z0)) ?_
         have pz:Q wr (z0.alloc (.cells #[] 9)):=Q.trans hz0 (Below.alloc (Q.refl _) (Nat.le_refl _) _)
         have Nb:=aV.empty_ z0 wr.heap.size 1 9 (hz0).size
         have ar9:(z0.alloc (.cells #[] 9)).heap.size=z0.heap.size+1:=by simp
         refine hK' _ _ pz ?_
         clear hK' K'
         try simp only[aax]
         obtain⟨qg,Ij⟩:∃qg,z0.alloc (.cells #[] 9)=qg:=⟨_,rfl⟩
         rw[Ij]at pz Nb ar9⊢
         clear Ij
         refine kL 4 6 (fun K' hK'=> ?_) fun K' hK'=> ?_
         ·refine jB kZ oZ (.tmp 33) (.tmp 36) 30 9 i0 _ 16 rfl Tryz.underlying30 hi jq hz1 hz2 rfl (by decide) (by decide) wr.heap.size (.slice (some ⟨z0.heap.size,0,none⟩) 0 0) (0) [] rfl Nb D n cd (ss.take n) rfl (gJ qg pz) hlt (by omega) (pz).size ?_
          intro A16 n16 Aj c116 aya P5 agi
          have JV:Q wr Aj:=fB pz (Nat.le_refl _) Nb agi
          refine hK' _ _ JV ?_
          clear hK' K'
          try simp only[aax]
          clear agi
          refine aW 6 fun K' hK'=> ?_
          refine dY (fQ 30 1 _ #[(0, .string id)] _ rfl (by simp only[List.map_toArray,List.map_cons,List.map_nil];rfl) (Kz id Aj)) ?_
          have pF:Q wr (Aj.alloc (.cells #[.string id] 9)):=Q.trans JV (Below.alloc (Q.refl _) (Nat.le_refl _) _)
          have agj:=ah.new Aj 9 #[.string id]
          have P6:=P5.alloc (.cells #[.string id] 9)
          have agk:(Aj.alloc (.cells #[.string id] 9)).heap.size=Aj.heap.size+1:=by simp
          refine hK' _ _ pF ?_
          clear hK' K'
          try simp only[aax]
          obtain⟨z17,KC⟩:∃z17,Aj.alloc (.cells #[.string id] 9)=z17:=⟨_,rfl⟩
          rw[KC]at pF agj agk P6⊢
          clear KC
          refine aW 7 fun K' hK'=> ?_
          refine jB kZ oZ (.tmp 37) (.tmp 39) 30 9 i0 _ 16 rfl Tryz.underlying30 hi jq hz1 hz2 rfl (by decide) (by decide) wr.heap.size (.slice A16 (0+n) n16) (0+n) ([]++(ss.take n)) rfl P6 (some ⟨Aj.heap.size,0,none⟩) 1 1 [id] rfl (jW (f:=dP) agj) rfl (by omega) (pF).size ?_
          intro A18 n18 JX ayb c218 Nc agl
          have yc:Q wr JX:=fB pF (Nat.le_refl _) P6 agl
          refine hK' _ _ yc ?_
          clear hK' K'
          try simp only[aax]
          clear agl
          refine aW 11 fun K' hK'=> ?_
          refine jB kZ oZ (.tmp 40) (.tmp 43) 30 9 i0 _ 16 rfl Tryz.underlying30 hi jq hz1 hz2 rfl (by decide) (by decide) wr.heap.size (.slice A18 (0+n+1) n18) (0+n+1) (([]++(ss.take n))++[id]) rfl Nc DD (nl-n) (cd-n) (ss.drop n) rfl (iw JX yc) hld (by omega) (yc).size ?_
          intro U1 n19 Nh c119 aft U2 Nj
          have JZ:Q wr Nh:=fB yc (Nat.le_refl _) Nc Nj
          refine hK' _ _ JZ ?_
          clear hK' K'
          try simp only[aax]
          clear Nj
          refine aS 12 (.slice U1 (0+n+1+(nl-n)) n19) JZ ?_
          try simp only[aax]
          refine wpAnyH_done (by kernel_rfl) ?_ _
          have hlen:0+n+1+(nl-n)=(jw ss id).length:=by rw[zx];omega
          have hrow:((([]++(ss.take n))++[id])++(ss.drop n))=jw ss id:=by unfold jw;rw[hnl,hat.out];simp
          have eX:=U2
          rw[hrow,hlen]at eX
          rw[hlen]
          have kU:=c119
          rw[hlen]at kU
          have HO:=Lib.hid (eX.low KA)
          have HS:Hid (jw ss id=sW mask (k+1)):=Lib.hid hck.symm
          have hil:=zx ss id
          have CO:Q w Nh:=Q.trans Ii JZ
          have CP:=aft
          clear eX hown5 gJ iw hRS hS5 hrow hck hat
          go_wp2_with fail
          exact⟨⟨k+1,U1,n19,jw ss id,⟨Nh,CO⟩,rfl,by go_num,rfl,by omega,by omega,kU,CP,HS,HO.out⟩,by simp only[intOf];omega⟩
         ·refine dY (fQ 30 1 _ #[(0, .string id)] _ rfl (by simp only[List.map_toArray,List.map_cons,List.map_nil];rfl) (Kz id qg)) ?_
          have uo:Q wr (qg.alloc (.cells #[.string id] 9)):=Q.trans pz (Below.alloc (Q.refl _) (Nat.le_refl _) _)
          have QD:=ah.new qg 9 #[.string id]
          have P8:=Nb.alloc (.cells #[.string id] 9)
          have agm:(qg.alloc (.cells #[.string id] 9)).heap.size=qg.heap.size+1:=by simp
          refine hK' _ _ uo ?_
          clear hK' K'
          try simp only[aax]
          obtain⟨z20,agn⟩:∃z20,qg.alloc (.cells #[.string id] 9)=z20:=⟨_,rfl⟩
          rw[agn]at uo QD agm P8⊢
          clear agn
          refine aW 4 fun K' hK'=> ?_
          refine jB kZ oZ (.tmp 33) (.tmp 36) 30 9 i0 _ 16 rfl Tryz.underlying30 hi jq hz1 hz2 rfl (by decide) (by decide) wr.heap.size (.slice (some ⟨z0.heap.size,0,none⟩) 0 0) (0) [] rfl P8 D n cd (ss.take n) rfl (gJ z20 uo) hlt (by omega) (uo).size ?_
          intro A21 n21 z21 ayc ayd agp Zo
          have H7:Q wr z21:=fB uo (Nat.le_refl _) P8 Zo
          have J3:=QD.grown (h:=z0.heap.size) Zo rfl (by omega)
          refine hK' _ _ H7 ?_
          clear hK' K'
          try simp only[aax]
          clear Zo
          refine aW 7 fun K' hK'=> ?_
          refine jB kZ oZ (.tmp 37) (.tmp 39) 30 9 i0 _ 16 rfl Tryz.underlying30 hi jq hz1 hz2 rfl (by decide) (by decide) wr.heap.size (.slice A21 (0+n) n21) (0+n) ([]++(ss.take n)) rfl agp (some ⟨qg.heap.size,0,none⟩) 1 1 [id] rfl (jW (f:=dP) J3) rfl (by omega) (H7).size ?_
          intro A22 n22 z22 aye c222 Nk Vs
          have D7:Q wr z22:=fB H7 (Nat.le_refl _) agp Vs
          refine hK' _ _ D7 ?_
          clear hK' K'
          try simp only[aax]
          clear Vs
          refine aW 11 fun K' hK'=> ?_
          refine jB kZ oZ (.tmp 40) (.tmp 43) 30 9 i0 _ 16 rfl Tryz.underlying30 hi jq hz1 hz2 rfl (by decide) (by decide) wr.heap.size (.slice A22 (0+n+1) n22) (0+n+1) (([]++(ss.take n))++[id]) rfl Nk DD (nl-n) (cd-n) (ss.drop n) rfl (iw z22 D7) hld (by omega) (D7).size ?_
          intro U3 n23 z23 afy afz U4 Nl
          have J4:Q wr z23:=fB D7 (Nat.le_refl _) Nk Nl
          refine hK' _ _ J4 ?_
          clear hK' K'
          try simp only[aax]
          clear Nl
          refine aS 12 (.slice U3 (0+n+1+(nl-n)) n23) J4 ?_
          try simp only[aax]
          refine wpAnyH_done (by kernel_rfl) ?_ _
          have hlen:0+n+1+(nl-n)=(jw ss id).length:=by rw[zx];omega
          have hrow:((([]++(ss.take n))++[id])++(ss.drop n))=jw ss id:=by unfold jw;rw[hnl,hat.out];simp
          have eX:=U4
          rw[hrow,hlen]at eX
          rw[hlen]
          have kU:=afy
          rw[hlen]at kU
          have HO:=Lib.hid (eX.low KA)
          have HS:Hid (jw ss id=sW mask (k+1)):=Lib.hid hck.symm
          have hil:=zx ss id
          have CO:Q w z23:=Q.trans Ii J4
          have CP:=afz
          clear eX hown5 gJ iw hRS hS5 hrow hck hat
          go_wp2_with fail
          exact⟨⟨k+1,U3,n23,jw ss id,⟨z23,CO⟩,rfl,by go_num,rfl,by omega,by omega,kU,CP,HS,HO.out⟩,by simp only[intOf];omega⟩
        ·refine dY (fQ 30 1 _ #[(0, .string id)] _ rfl (by simp only[List.map_toArray,List.map_cons,List.map_nil];rfl) (Kz id z0)) ?_
         have lq:Q wr (z0.alloc (.cells #[.string id] 9)):=Q.trans hz0 (Below.alloc (Q.refl _) (Nat.le_refl _) _)
         have agq:=ah.new z0 9 #[.string id]
         have asg:(z0.alloc (.cells #[.string id] 9)).heap.size=z0.heap.size+1:=by simp
         refine hK' _ _ lq ?_
         clear hK' K'
         try simp only[aax]
         obtain⟨z24,agr⟩:∃z24,z0.alloc (.cells #[.string id] 9)=z24:=⟨_,rfl⟩
         rw[agr]at lq agq asg⊢
         clear agr
         refine aW 0 fun K' hK'=> ?_
         refine dY (fQ 30 0 #[] #[] _ rfl (by simp) (Vr z24)) ?_
         have yg:Q wr (z24.alloc (.cells #[] 9)):=Q.trans lq (Below.alloc (Q.refl _) (Nat.le_refl _) _)
         have Zp:=aV.empty_ z24 wr.heap.size 1 9 (lq).size
         have FQ:=agq.alloc (.cells #[] 9)
         have U5:(z24.alloc (.cells #[] 9)).heap.size=z24.heap.size+1:=by simp
         refine hK' _ _ yg ?_
         clear hK' K'
         try simp only[aax]
         obtain⟨z25,P9⟩:∃z25,z24.alloc (.cells #[] 9)=z25:=⟨_,rfl⟩
         rw[P9]at yg Zp U5 FQ⊢
         clear P9
         refine aW 4 fun K' hK'=> ?_
         refine jB kZ oZ (.tmp 33) (.tmp 36) 30 9 i0 _ 16 rfl Tryz.underlying30 hi jq hz1 hz2 rfl (by decide) (by decide) wr.heap.size (.slice (some ⟨z24.heap.size,0,none⟩) 0 0) (0) [] rfl Zp D n cd (ss.take n) rfl (gJ z25 yg) hlt (by omega) (yg).size ?_
         intro A26 n26 z26 ayf c226 Np Zq
         have Cb:Q wr z26:=fB yg (Nat.le_refl _) Zp Zq
         have Nq:=FQ.grown (h:=z24.heap.size) Zq rfl (by omega)
         refine hK' _ _ Cb ?_
         clear hK' K'
         try simp only[aax]
         clear Zq
         refine aW 7 fun K' hK'=> ?_
         refine jB kZ oZ (.tmp 37) (.tmp 39) 30 9 i0 _ 16 rfl Tryz.underlying30 hi jq hz1 hz2 rfl (by decide) (by decide) wr.heap.size (.slice A26 (0+n) n26) (0+n) ([]++(ss.take n)) rfl Np (some ⟨z0.heap.size,0,none⟩) 1 1 [id] rfl (jW (f:=dP) Nq) rfl (by omega) (Cb).size ?_
         intro A27 n27 z27 c127 c227 ags agt
         have Vt:Q wr z27:=fB Cb (Nat.le_refl _) Np agt
         refine hK' _ _ Vt ?_
         clear hK' K'
         try simp only[aax]
         clear agt
         refine aW 11 fun K' hK'=> ?_
         refine jB kZ oZ (.tmp 40) (.tmp 43) 30 9 i0 _ 16 rfl Tryz.underlying30 hi jq hz1 hz2 rfl (by decide) (by decide) wr.heap.size (.slice A27 (0+n+1) n27) (0+n+1) (([]++(ss.take n))++[id]) rfl ags DD (nl-n) (cd-n) (ss.drop n) rfl (iw z27 Vt) hld (by omega) (Vt).size ?_
         intro U6 n28 z28 afB c228 U7 Nr
         have J5:Q wr z28:=fB Vt (Nat.le_refl _) ags Nr
         refine hK' _ _ J5 ?_
         clear hK' K'
         try simp only[aax]
         clear Nr
         refine aS 12 (.slice U6 (0+n+1+(nl-n)) n28) J5 ?_
         try simp only[aax]
         refine wpAnyH_done (by kernel_rfl) ?_ _
         have hlen:0+n+1+(nl-n)=(jw ss id).length:=by rw[zx];omega
         have hrow:((([]++(ss.take n))++[id])++(ss.drop n))=jw ss id:=by unfold jw;rw[hnl,hat.out];simp
         have eX:=U7
         rw[hrow,hlen]at eX
         rw[hlen]
         have kU:=afB
         rw[hlen]at kU
         have HO:=Lib.hid (eX.low KA)
         have HS:Hid (jw ss id=sW mask (k+1)):=Lib.hid hck.symm
         have hil:=zx ss id
         have CO:Q w z28:=Q.trans Ii J5
         have CP:=c228
         clear eX hown5 gJ iw hRS hS5 hrow hck hat
         go_wp2_with fail
         exact⟨⟨k+1,U6,n28,jw ss id,⟨z28,CO⟩,rfl,by go_num,rfl,by omega,by omega,kU,CP,HS,HO.out⟩,by simp only[intOf];omega⟩
      ·rw[hl,if_pos rfl]at hcr
       have h1:Op.bytesLess x.toList id.toList=false:=OH hl
       have h2:(x.toList==id.toList)=false:=by
        cases hb:(x.toList==id.toList)
        ·rfl
        ·have:x=id:=Classical.byContradiction fun hne=>OO hne (eq_of_beq hb)
         rw[this,DJ]at hl
         cases hl
       have HC:Hid (xC ss id nl=xC ss id m):=Lib.hid (by rw[Ef.out,hcr])
       clear Ef hcr hx hl
       go_wp2_with fail
       exact⟨⟨trivial,m,rfl,by omega,HC⟩,by simp only[intOf];omega⟩
   ·rw[ho,if_pos rfl]at hck
    rw[ho]at hoff
    have HC:Hid (ss=sW mask (k+1)):=Lib.hid hck.symm
    have HO:=Lib.hid hown
    clear hown hck hss hId mZ
    go_wp2_with fail
    exact⟨⟨k+1,D,cd,ss,z,rfl,by go_num,rfl,by omega,by omega,hsc,hcm,HC,HO.out⟩,by simp only[intOf];omega⟩
  ·obtain rfl:k=4:=by omega
   have HF:Hid (yR (lK mask) w (.returned (.slice D ss.length cd)) z.w):=Lib.hid ((show ss=lK mask from hss.out)▸⟨D,cd,rfl,hsc,hcm,xU kZ hown rfl,z.q⟩)
   clear hown hss hId
   go_wp2_with fail
   go_ret
   exact HF.out
end bP
end Go.Proofs.YtbemmjnjoabadaaGreatDoor
