/- part 41 -/
import Derived.Test.YtbemmjnjoabadaaGreatDoorK33
import Derived.Test.YtbemmjnjoabadaaGreatDoorK35
set_option linter.unusedVariables false
set_option linter.unusedSimpArgs false
set_option maxHeartbeats 8000000
set_option maxRecDepth 100000
namespace Go.Proofs.YtbemmjnjoabadaaGreatDoor
namespace Rel
open Go.RowKit aQ Mem _root_.Go.Proofs.YtbemmjnjoabadaaGreatDoor.Code aY Sign _root_.Go.Proofs.YtbemmjnjoabadaaGreatDoor.Item _root_.Go.Proofs.YtbemmjnjoabadaaGreatDoor.Known _root_.Go.Proofs.YtbemmjnjoabadaaGreatDoor.bP
theorem awE(s:ByteArray):1<=(Sign.keyOf (kN s)).1/\(Sign.keyOf (kN s)).1<=2305843009213693949:=by
 have h:=Oq (lU (Bh s))
 rw[<-aac]at h
 unfold Sign.keyOf
 rw[if_neg (by omega)]
 exact h
theorem dI.upto{α:Type}{B g:Nat}{w w':World}{A:Option Addr}{k:Nat}{f:α->List Value}{l:List α}(h:dI B w A k f l)(hg:g<B)(hf:∀b,b<w.heap.size->b≠g->w'.heap[b]?=w.heap[b]?):dI B w' A k f l:=fun h0=>by
 obtain⟨b,o,e,h1,h2,h3⟩:=h h0
 have e1:=hf b h2 (by omega)
 refine⟨b,o,e,h1,?_,fun j hj i v hv=>(World.cell?_of_block (w:=w) e1).trans (h3 j hj i v hv)⟩
 rcases Nat.lt_or_ge b w'.heap.size with h7|h7
 ·exact h7
 ·rw[Array.getElem?_eq_none h7,Array.getElem?_eq_getElem h2]at e1
  cases e1
theorem awF{w V:World}{p:Addr}{v:Value}{s:Nat}(h:w.setCell p v=V)(hs:s<=w.heap.size):s<=V.heap.size:=by
 rw[<-h,World.size_setCell]
 exact hs
theorem ajB{ρ:Operand->Value}{o:Oper}{w:World}(t yt:TypeId)(x y:Operand)(a b:ByteArray)(ho:o.op= .binOp .add t x y yt)(hx:ρ x= .string a)(hy:ρ y= .string b)(hs:a.size+b.size<=9223372036854775807):(execOp ρ o).run Tryz.prog w= .ok (.value (.string (a++b))) w:=by
 unfold execOp
 simp only[ho,hx,hy]
 go_simp
theorem WO(w:World):(Instr.alloc 115 true (.tuple #[])).run Tryz.prog w= .ok (.pointer (some ⟨w.heap.size,0,none⟩)) (w.alloc (.cells o7.cells.toArray 115)):=by kernel_rfl
theorem XG(k:Int×Int)(c:ay)(A:Option Addr)(cc:Nat)(F:List ByteArray)(B:Option Addr)(d:Nat)(ps:List Int)(t time:Int)(w:World)(hT:Tab w)(hI:gX w c)(hn:c.acts.length<=100000)(hF:Strs w A F)(tH:kG F=true)
 (hP:Ints w B ps) (hpl:ps.length=F.length) (hfl:ps.length<=64) (hpr:∀p∈ps,1<=p/\p<=2305843009213693950) (hk1:k.1<=9223372036854775807) (hk2:k.2<=9223372036854775807) (hpz:c.prev.size<=100000) (hky:eP c c.acts.length=some ⟨0,k.2,0⟩) (hrk:iP k=true):
 Calls Tryz.prog 22 #[.agg (bH k), .agg (aF c), .slice A F.length cc, .slice B ps.length d, .int .i64 t, .int .i64 time] w (Eb (AY k c F ps t time) w):=by
 have hmx:maxLen=9223372036854775807:=by decide
 obtain⟨i0,hi,hz0,hz1,hz2⟩:=info_parts X4
 obtain⟨w1,y1,hy1,hq1,hbk1⟩:=boxedB w 66 [.int .i64 k.1, .int .i64 k.2]
 have hy1:w.alloc (.cells (bH k) 66)=y1.w:=hy1
 obtain⟨w2,y2,hy2,hq2,hbk2⟩:=boxedB y1.w 41 c.cells
 have hy2:y1.w.alloc (.cells (aF c) 41)=y2.w:=hy2
 obtain⟨w3,y3,hy3,hq3,lJ⟩:=boxedB y2.w 37 aH.cells
 have hy3:y2.w.alloc (.cells #[.string ⟨#[]⟩, .int .i64 0, .string ⟨#[]⟩, .int .i64 0, .int .i64 0, .string ⟨#[]⟩, .string ⟨#[]⟩, .int .i64 0, .string ⟨#[]⟩, .slice none 0 0, .string ⟨#[]⟩, .string ⟨#[]⟩, .string ⟨#[]⟩, .string ⟨#[]⟩, .int .i64 0, .slice none 0 0, .int .i64 0, .int .i64 0, .int .i64 0, .int .i64 0] 37)=y3.w:=hy3
 have dR:Q w w3:=Q.trans (Q.trans (Q.trans hq1 y1.q) (Q.trans hq2 y2.q)) hq3
 have hB1:ah w3 w.heap.size 66 (bH k):=hbk1.q (Q.trans y1.q (Q.trans hq2 (Q.trans y2.q hq3)))
 have hB2:ah w3 y1.w.heap.size 41 c.cells.toArray:=hbk2.q (Q.trans y2.q hq3)
 have hwg:w.heap.size<=y2.w.heap.size:=(Q.trans (Q.trans hq1 y1.q) (Q.trans hq2 y2.q)).size
 have hLk:=dX (P:=Tryz.prog) (bH k) hB1 Tryz.underlying66
 have cZ:=dX (P:=Tryz.prog) (aF c) hB2 Tryz.underlying41
 have k0:=aB (.int .i64 k.1) hB1 0
 have k1:=aB (.int .i64 k.2) hB1 1
 have c1:=aB (.slice c.aA c.acts.length c.aC) hB2 1
 have c3:=aB (.string c.prev) hB2 3
 have hId:=fun y:Wd w3=>LH A cc F y.w (hF.q (Q.trans dR y.q)) (by omega)
 rw[tH]at hId
 have uJ:=fun(p:Int) (y:Wd w3)=>aqV p y.w
 have gq:=fun y:Wd w3=>O9 c c.acts.length y.w (hI.q (Q.trans dR y.q))
 unfold BD at gq
 rw[hky]at gq
 have hRk:∀y:Wd w3,Calls Tryz.prog 58 #[.agg (bH k)] y.w fun e w'=>e= .returned (.bool (iP k))/\Q y.w w':=fun y=>Ji k y.w
 rw[hrk]at hRk
 have xE:=hI.q dR
 have EC:=hT.q dR
 have hP3:=hP.q dR
 have hF3:dS w3 A 1 dP F:=(Jz hF).q dR
 have HQ:=Lib.hid dR
 obtain⟨nl,hnl⟩:∃nl,ps.length=nl:=⟨_,rfl⟩
 have Gi:=Lib.hid hnl
 have Sr:=Lib.hid (show F.length=nl from hpl.symm.trans hnl)
 have HS:=Lib.hid (show AY k c F ps t time=if yI ps.length t then(if bT (tC k c F ps t time)then(gU k (tC k c F ps t time),0)else(aH,1))else(aH,1)from rfl)
 rw[hnl]at hpl hfl HS⊢
 rw[<-hpl]at hId⊢
 clear hnl hpl hF hT hI hP tH
 generalize Hy:y1.w.heap.size=g7 at*
 generalize JU:y2.w.heap.size=g12 at*
 have ayX:=lJ.lt
 rcases(show nl=0∨(nl≠0/\t<1)∨(nl≠0/\1<=t/\(nl:Int)<t)∨(nl≠0/\1<=t/\t<=(nl:Int)) by omega)with h0|⟨h0,h1⟩|⟨h0,h1,h2⟩|⟨h0,h1,h2⟩
 focus
  have hok:yI nl t=false:=by unfold yI;rw[decide_eq_true h0];rfl
  have e0:(nl:Int)=0:=by omega
  have HF:Hid (AY k c F ps t time=(aH,1)):=Lib.hid (by rw[HS.out,hok];rfl)
  clear HS hok gq hRk uJ
  go_enter Tryz.func22,Tryz.ntmps22
  go_upto_region 3 with((go_at_call 56;refine(hId _).mono ?_;rintro e w' ⟨rfl,hq⟩;obtain⟨v1,rfl⟩:=Wd.next _ hq;clear hq))
  obtain⟨V,hV⟩:∃V:Wd w3,y3.w=V.w:=⟨y3,rfl⟩
 rotate_left
 focus
  have hok:yI nl t=false:=by unfold yI;rw[decide_eq_true h1];simp
  have e0:¬(nl:Int)=0:=by omega
  have HF:Hid (AY k c F ps t time=(aH,1)):=Lib.hid (by rw[HS.out,hok];rfl)
  clear HS hok gq hRk uJ
  go_enter Tryz.func22,Tryz.ntmps22
  go_upto_region 3 with((go_at_call 56;refine(hId _).mono ?_;rintro e w' ⟨rfl,hq⟩;obtain⟨v1,rfl⟩:=Wd.next _ hq;clear hq))
  obtain⟨V,hV⟩:∃V:Wd w3,v1.w=V.w:=⟨v1,rfl⟩
 rotate_left
 focus
  have hok:yI nl t=false:=by unfold yI;rw[decide_eq_true h2];simp
  have e0:¬(nl:Int)=0:=by omega
  have e1:¬t<1:=by omega
  have HF:Hid (AY k c F ps t time=(aH,1)):=Lib.hid (by rw[HS.out,hok];rfl)
  clear HS hok gq hRk uJ
  go_enter Tryz.func22,Tryz.ntmps22
  go_upto_region 3 with((go_at_call 56;refine(hId _).mono ?_;rintro e w' ⟨rfl,hq⟩;obtain⟨v1,rfl⟩:=Wd.next _ hq;clear hq))
  obtain⟨V,hV⟩:∃V:Wd w3,v1.w=V.w:=⟨v1,rfl⟩
 rotate_left
 ·have hok:yI nl t=true:=by unfold yI;rw[decide_eq_false h0,decide_eq_false (by omega:¬t<1),decide_eq_false (by omega:¬(nl:Int)<t)];rfl
  have e0:((nl:Int)==0)=false:=beq_eq_false_iff_ne.2 (by omega)
  have e1:¬t<1:=by omega
  have e2:¬(nl:Int)<t:=by omega
  have ahN:(nl:Int)<=64:=by omega
  rw[hok,if_pos rfl]at HS
  clear hok
  go_enter Tryz.func22,Tryz.ntmps22
  go_wp2_with ((go_at_call 56;refine(hId _).mono ?_;rintro e w' ⟨rfl,hq⟩;obtain⟨v1,rfl⟩:=Wd.next _ hq;clear hq))
  clear hId
  go_loopw [54] (fun i wr=>∃(j:Nat) (z:Wd w3),i= .int .i64 j/\wr=z.w/\j<=nl) (fun i _=>nl-(intOf i).toNat)
  case atStart=>exact⟨0,v1,rfl,rfl,Nat.zero_le _⟩
  case round=>
   obtain⟨j,z,rfl,rfl,hj⟩:=hrel
   by_cases hlt:j<nl
   ·have dM:j<ps.length:=by rw[Gi.out];exact hlt
    have pX:(j:Int)<(nl:Int):=by omega
    have hpos:(0:Int)<=(j:Int):=by omega
    obtain⟨b,o,rfl,hb0,hcs⟩:=hP3 (by omega)
    have hcx:∀y:Wd w3,y.w.cell? ⟨b,o+j,none⟩=some (.int .i64 ps[j]):=fun y=>(y.q.cell (p:=⟨b,o+j,none⟩) hb0).trans (hcs j dM)
    obtain⟨hp1,hp2⟩:=hpr _ (List.getElem_mem dM)
    clear hcs
    generalize ps[j]=p at*
    have hPp:=uJ p
    rw[show U8 p=true by unfold U8;rw[decide_eq_true hp1,decide_eq_true hp2];rfl]at hPp
    clear uJ
    go_wp2_with ((go_at_call 57;refine(hPp _).mono ?_;rintro e w' ⟨rfl,hq⟩;obtain⟨z1,rfl⟩:=Wd.next _ hq;clear hq))
    exact⟨⟨j+1,z1,by go_num,rfl,by omega⟩,by simp only[intOf];omega⟩
   ·obtain rfl:j=nl:=by omega
    have uO:¬((j:Int)<(j:Int)):=by omega
    clear uJ
    go_upto_region 11 with(first|(refine aI (.tmp 7) (cZ _) ?_)|(go_at_call 55;refine(gq _).mono ?_;rintro e w' ⟨rfl,hq⟩;obtain⟨v2,rfl⟩:=Wd.next _ hq;clear hq)|(refine fM (ah.new v2.w 111 gK.cells.toArray) rfl 111 (.tmp 17) (.tmp 69) (iJ.cells ⟨0,k.2,0⟩) rfl rfl rfl (by kernel_rfl) (vP _) (Nat.le_refl 3) ?_))
    intro W hW hbel
    rw[bC _ _ (by rfl)]at hW
    have aJ:Q w3 W:=hbel _ _ v2.q.size (Q.trans v2.q (aO _ _ _))
    have p1:=aB (.int .i64 k.2) hW 1
    generalize v2.w.heap.size=g17 at*
    clear hbel hW gq
    have Q8:∀y:Wd W,(Instr.loadAt 66 (.pointer (some ⟨w.heap.size,0,none⟩))).run Tryz.prog y.w= .ok (.agg (bH k)) y.w:=fun y=>hLk ⟨y.w,Q.trans aJ y.q⟩
    have k1W:∀y:Wd W,y.w.cell? ⟨w.heap.size,1,none⟩=some (.int .i64 k.2):=fun y=>k1 ⟨y.w,Q.trans aJ y.q⟩
    have ajD:∀y:Wd W,Calls Tryz.prog 58 #[.agg (bH k)] y.w fun e w'=>e= .returned (.bool true)/\Q y.w w':=fun y=>hRk ⟨y.w,Q.trans aJ y.q⟩
    obtain⟨v3,hv3⟩:=Wd.first W
    rw[hv3]
    clear hv3
    go_upto_region 13 with(first|(refine aI (.tmp 6) (Q8 _) ?_)|(go_at_call 58;refine(ajD _).mono ?_;rintro e w' ⟨rfl,hq⟩;obtain⟨v4,rfl⟩:=Wd.next _ hq;clear hq))
    obtain⟨W4,lH⟩:∃W,v4.w=W:=⟨_,rfl⟩
    have G7:Q w3 W4:=lH▸Q.trans aJ v4.q
    rw[lH]
    clear lH Q8 k1W ajD p1 hRk aJ
    have d1:∀y:Wd W4,y.w.cell? ⟨g7,1,none⟩=some (.slice c.aA c.acts.length c.aC):=fun y=>c1 ⟨y.w,Q.trans G7 y.q⟩
    have d3:∀y:Wd W4,y.w.cell? ⟨g7,3,none⟩=some (.string c.prev):=fun y=>c3 ⟨y.w,Q.trans G7 y.q⟩
    have d0:∀y:Wd W4,y.w.cell? ⟨w.heap.size,0,none⟩=some (.int .i64 k.1):=fun y=>k0 ⟨y.w,Q.trans G7 y.q⟩
    have hT1:=fun y:Wd W4=>kY Dl y.w (by decide)
    have ajE:=fun y:Wd W4=>kY c.prev y.w (by omega)
    have hN1:=fun y:Wd W4=>kM k.1 y.w (by omega)
    have Ny:=fun y:Wd W4=>kM (c.acts.length:Int) y.w (by omega)
    have z1:(aZ Dl).size<=16:=by have:=Cj Dl;have h:Dl.size=6:=rfl;omega
    have z2:=iI k.1
    have z3:=iI (c.acts.length:Int)
    have z4:=Cj c.prev
    have f1:(aZ Dl).size+(aU k.1).size<=9223372036854775807:=by omega
    have f2:(aZ Dl++aU k.1).size+(aU (c.acts.length:Int)).size<=9223372036854775807:=by rw[jG];omega
    have f3:((aZ Dl++aU k.1)++aU (c.acts.length:Int)).size+(aZ c.prev).size<=9223372036854775807:=by rw[jG,jG];omega
    have ZU:(nN k c).size<=200000:=by unfold nN;rw[jG,jG,jG];omega
    have HX:=Lib.hid (show nN k c=(((aZ Dl++aU k.1)++aU (c.acts.length:Int))++aZ c.prev)from rfl)
    clear z1 z2 z3 z4
    unfold Dl at hT1
    generalize hte:aZ Dl=te at*
    rw[show aZ ⟨#[114,101,103,97,105,110]⟩=te from hte]at hT1
    generalize aU k.1=n1 at*
    generalize aU (c.acts.length:Int)=n2 at*
    generalize aZ c.prev=n3 at*
    obtain⟨x,hx⟩:=Wd.first W4
    rw[hx]
    clear hx
    refine kJ x (by kernel_rfl) (by kernel_rfl) ?_
    repeat(go_big_quiet_step (first|(go_at_call 59;first|with_reducible exact Wd.call _ (hT1 _)|with_reducible exact Wd.call _ (ajE _))|(go_at_call 60;first|with_reducible exact Wd.call _ (hN1 _)|with_reducible exact Wd.call _ (Ny _))))
    refine wpQuiet_nil ?_
    rintro w'' ⟨y,rfl⟩
    rw[<-HX.out]
    clear HX
    have WQ:keyS k c=Sign.keyOf (kN (nN k c)):=rfl
    have hsA:tC k c F ps t time=iF (jM (nN k c) ps (Dn (nN k c) (keyS k c).1 t ps.length) ps.length) none 0 (DV (keyS k c).2 (La t (oL F none 0 (iW c 19 time)))):=rfl
    have HSA:=Lib.hid hsA
    obtain⟨X,NR⟩:∃X,nN k c=X:=⟨_,rfl⟩
    rw[NR]at ZU WQ HSA⊢
    clear NR hsA
    have hkb:=afG (kN X)
    have awH:1<=(Sign.keyOf (kN X)).1/\(Sign.keyOf (kN X)).1<=2305843009213693949:=awE X
    rw[<-WQ]at hkb awH
    have HKS:=Lib.hid WQ
    clear WQ
    generalize keyS k c=kk at*
    obtain⟨W,KG⟩:∃W,y.w=W:=⟨_,rfl⟩
    have aJ:Q w3 W:=KG▸Q.trans G7 y.q
    rw[KG]
    clear KG hT1 ajE hN1 Ny f1 f2 f3 d0 d1 d3 G7 x hte
    have WR:=fun y:Wd W=>Sign.acD X y.w (EC.q (Q.trans aJ y.q)) (by omega)
    unfold Sign.yK at WR
    rw[<-HKS.out]at WR
    obtain⟨v5,hv5⟩:=Wd.first W
    rw[hv5]
    clear hv5
    go_upto_region 15 with(first|(go_at_call 61;refine(WR _).mono ?_;rintro e w' ⟨rfl,hq⟩;obtain⟨v6,rfl⟩:=Wd.next _ hq;clear hq)|(refine fM (cs:=[.int .i64 0, .int .i64 0]) (ah.new v6.w 66 #[.int .i64 0, .int .i64 0]) rfl 66 (.tmp 20) (.tmp 101) [.int .i64 kk.1, .int .i64 kk.2] rfl rfl rfl (by kernel_rfl) (by simp[Value.oneCell']) (Nat.le_refl 2) ?_))
    intro W20 WS ajF
    rw[bC _ _ (by rfl)]at WS
    have uo:Q w3 W20:=ajF _ _ (Q.trans aJ v6.q).size (Q.trans (Q.trans aJ v6.q) (aO _ _ _))
    generalize v6.w.heap.size=g20 at*
    have q0:=aB (.int .i64 kk.1) WS 0
    have hSp:=fun y:Wd W20=>oG.avI kk.1 t (j:Int) X y.w (EC.q (Q.trans uo y.q)) h1 h2 ahN (by omega) (by omega) (by omega)
    simp only[Int.toNat_natCast]at hSp
    have hLe:Dn X kk.1 t j=oG.yH kk.1 X t.toNat j:=rfl
    rw[<-hLe]at hSp
    have Hl:(Dn X kk.1 t j).length=j:=oG.avF _ _ _ _
    have hLb:=fun x (hx:x∈Dn X kk.1 t j)=>oG.avN kk.1 X t.toNat j hfl x hx
    have abb:=HSA.out
    rw[Gi.out]at abb
    have HS2:=HS.out
    rw[abb]at HS2
    have HS3:=Lib.hid HS2
    clear HSA abb HS HS2
    generalize Dn X kk.1 t j=L at*
    rw[ajc]at hSp
    obtain⟨v7,hv7⟩:=Wd.first W20
    rw[hv7]
    clear hv7 ajF hLe WR aJ
    have hjj:((j:Int) !=(j:Int))=false:=by simp
    go_upto_region 18 with(go_at_call 62;refine(hSp _).mono ?_;rintro e wm ⟨SA,sc,rfl,hown,abd⟩;clear hSp)
    have hqm:Q w3 wm:=Q.trans uo (Q.trans v7.q abd)
    have hRS:=xU avR hown Hl.symm
    have kc1:∀y:Wd wm,y.w.cell? ⟨g20,1,none⟩=some (.int .i64 kk.2):=fun y=>(y.blk ((v7.blk WS).q abd)).cell 1
    have ZW:Q w wm:=Q.trans HQ.out hqm
    have hTm:=EC.q hqm
    have ZX:=xE.q hqm
    have Iq:=hP3.q hqm
    have hFm:=hF3.q hqm
    have hD3:ah wm g12 37 aH.cells.toArray:=lJ.q hqm
    have awL:∀y:Wd wm,(Instr.loadAt 66 (.pointer (some ⟨w.heap.size,0,none⟩))).run Tryz.prog y.w= .ok (.agg (bH k)) y.w:=fun y=>hLk ⟨y.w,Q.trans hqm y.q⟩
    have ajI:∀y:Wd wm,(Instr.loadAt 41 (.pointer (some ⟨g7,0,none⟩))).run Tryz.prog y.w= .ok (.agg (aF c)) y.w:=fun y=>cZ ⟨y.w,Q.trans hqm y.q⟩
    clear hown abd WS q0 uo hLk cZ xE EC hP3 hF3 k0 k1 c1 c3 hbk2 hB2 hB1 hjj
    have hDr:=fun y:Wd wm=>JH c 19 time y.w
    have xY:=fun y:Wd wm=>LW A cc F y.w (hFm.q y.q) (by have:=Sr.out;omega)
    unfold O1 at xY
    rw[Sr.out]at xY
    obtain⟨a0,ha0⟩:∃a0,iW c 19 time=a0:=⟨_,rfl⟩
    rw[ha0]at hDr
    obtain⟨v8,vI⟩:=Wd.first wm
    rw[vI]
    clear vI
    go_upto_region 19 with(first|(refine aI (.tmp 7) (ajI _) ?_)|(go_at_call 31;refine(hDr _).mono ?_;rintro e w5 ⟨rfl,hq5⟩;obtain⟨v9,rfl⟩:=Wd.next _ hq5;clear hq5)|(refine fM (ah.new v9.w 37 aH.cells.toArray) rfl 37 (.tmp 22) (.tmp 122) a0.cells rfl rfl rfl (by kernel_rfl) (dL _) (Nat.le_refl 20) ?_))
    intro W hW hbel
    rw[bC _ _ (by rfl)]at hW
    have aJ:Q wm W:=hbel _ _ v9.q.size (Q.trans v9.q (aO _ _ _))
    have hge:wm.heap.size<=v9.w.heap.size:=v9.q.size
    generalize v9.w.heap.size=g22 at*
    clear hbel hDr ajI
    obtain⟨v0,hv⟩:∃v:Wd wm,W=v.w:=⟨⟨W,aJ⟩,rfl⟩
    rw[hv]at hW⊢
    clear hv aJ
    have Vs:=hW.lt
    go_upto_region 20 with(go_at_call 63;refine(xY _).mono ?_;rintro e w' ⟨TA,tc,rfl,ht1,ht2,pY,hq⟩;replace hW:=hW.q hq;have hs0:=v0.q.size;have cF:w'.cell? ⟨g22,9,none⟩=some (.slice a0.toA a0.to.length a0.toC):=hW.cell 9;have fF:w'.frozen? ⟨g22,9,none⟩=false:=hW.frozen 9;obtain⟨v,rfl⟩:=Wd.next _ hq;clear hq)
    clear xY
    generalize v0.w.heap.size=s0 at*
    obtain⟨a1,ha1⟩:∃b,oL F TA tc a0=b:=⟨_,rfl⟩
    obtain⟨V,bG,hV,aK,bJ⟩:=nU (b:=a1) hge v.q hW (show 9+1<=20 by decide) (show splice a0.cells 9 [.slice TA j tc]=a1.cells by rw[<-ha1,<-Sr.out];rfl)
    have hTR:dI s0 V TA 1 dP F:=pY.far fun b hb=>bJ b (by omega)
    rw[bG]
    clear bG cF fF hW pY bJ
    obtain⟨W,rfl⟩:∃W,W=V:=⟨V,rfl⟩
    have hW:=hV
    have aJ:=aK
    clear hV aK
    obtain⟨v,hv⟩:∃v:Wd wm,W=v.w:=⟨⟨W,aJ⟩,rfl⟩
    rw[hv]at hW hTR⊢
    clear hv aJ
    have cF:v.w.cell? ⟨g22,16,none⟩=some (.int .i64 a1.n):=hW.cell 16
    have fF:v.w.frozen? ⟨g22,16,none⟩=false:=hW.frozen 16
    go_upto_region 21 with(fail)
    obtain⟨a2,ha2⟩:∃b,La t a1=b:=⟨_,rfl⟩
    obtain⟨V,bG,hV,aK,bJ⟩:=nU (b:=a2) hge v.q hW (show 16+1<=20 by decide) (show splice a1.cells 16 [.int .i64 t]=a2.cells from ha2▸avP t a1)
    replace hTR:dI s0 V TA 1 dP F:=(hTR:dI s0 v.w TA 1 dP F).far fun b hb=>bJ b (by omega)
    clear bJ
    rw[bG]
    clear bG cF fF hW
    obtain⟨W,rfl⟩:∃W,W=V:=⟨V,rfl⟩
    have hW:=hV
    have aJ:=aK
    clear hV aK
    obtain⟨v,hv⟩:∃v:Wd wm,W=v.w:=⟨⟨W,aJ⟩,rfl⟩
    rw[hv]at hW hTR⊢
    clear hv aJ
    have cF:v.w.cell? ⟨g22,17,none⟩=some (.int .i64 a2.m):=hW.cell 17
    have fF:v.w.frozen? ⟨g22,17,none⟩=false:=hW.frozen 17
    go_upto_region 22 with(fail)
    obtain⟨a3,kV⟩:∃b,DV kk.2 a2=b:=⟨_,rfl⟩
    obtain⟨V,bG,hV,aK,bJ⟩:=nU (b:=a3) hge v.q hW (show 17+1<=20 by decide) (show splice a2.cells 17 [.int .i64 kk.2]=a3.cells from kV▸avQ kk.2 a2)
    replace hTR:dI s0 V TA 1 dP F:=(hTR:dI s0 v.w TA 1 dP F).far fun b hb=>bJ b (by omega)
    clear bJ
    rw[bG]
    clear bG cF fF hW
    obtain⟨W,rfl⟩:∃W,W=V:=⟨V,rfl⟩
    have hW:=hV
    have aJ:=aK
    clear hV aK
    have hw0:iF [] none 0 a3=a3:=by rw[<-kV,<-ha2,<-ha1,<-ha0];rfl
    have Q5:=Lib.hid (show∀ws A n,aP (iF ws A n a3)=iF ws none 0 (DV kk.2 (La t (oL F none 0 (iW c 19 time))))from fun ws A n=>by rw[<-kV,<-ha2,<-ha1,<-ha0];rfl)
    have Q7:=Lib.hid (show∀ws A n,(iF ws A n a3).toA=TA/\(iF ws A n a3).to=F/\(iF ws A n a3).toC=tc from fun ws A n=>by rw[<-kV,<-ha2,<-ha1];exact⟨rfl,rfl,rfl⟩)
    clear ha0 ha1 ha2 kV kc1
    obtain⟨z0,ajJ⟩:∃z:Wd wm,W=z.w:=⟨⟨W,aJ⟩,rfl⟩
    rw[ajJ]at hW hTR⊢
    clear ajJ aJ
    have HW0:=Lib.hid hW
    have HT0:=Lib.hid hTR
    have xA:=hW.lt
    have hmL:=z0.q.size
    clear hW hTR
    obtain⟨sL,hsL⟩:∃s,z0.w.heap.size=s:=⟨_,rfl⟩
    have HSL:=Lib.hid hsL
    rw[hsL]at xA hmL
    clear hsL
    go_wp2_with fail
    go_loopw [133] (fun ix wr=>∃(i:Nat) (WA:Option Addr) (wc:Nat) (z:Wd wm),ix= .int .i64 i/\wr=z.w/\i<=j/\i<=wc/\wc<=maxLen/\Hid (ah z.w g22 37 (iF (jM X ps L i) WA wc a3).cells.toArray)/\Hid (aV z.w sL 115 5 (.slice WA i wc) i ((jM X ps L i).flatMap bQ.cells))/\sL<=z.w.heap.size/\Hid (∀b,b<sL->b≠g22->z.w.heap[b]?=z0.w.heap[b]?)) (fun ix _=>j-(intOf ix).toNat)
    case' atStart=>
     exact⟨0,none,0,z0,rfl,rfl,Nat.zero_le _,Nat.zero_le _,Nat.zero_le _,Lib.hid (by show ah z0.w g22 _ (iF [] none 0 a3).cells.toArray;rw[hw0];exact HW0.out),Lib.hid (aV.nil_ _ _ _ _),Nat.le_of_eq HSL.out.symm,Lib.hid fun b _ _=>rfl⟩
    case' round=>
     clear HW0
     obtain⟨i,WA,wc,z,rfl,rfl,hij,hwi,hwm,lM,HOW,Oc,HKB⟩:=hrel
     by_cases hlt2:i<j
     ·have dM:i<ps.length:=by rw[Gi.out];exact hlt2
      have pX:(i:Int)<(j:Int):=by omega
      have atb:(0:Int)<=(i:Int):=by omega
      obtain⟨b,o,rfl,hb0,hcs⟩:=Iq (by omega)
      have hcx:∀y:Wd wm,y.w.cell? ⟨b,o+i,none⟩=some (.int .i64 ps[i]):=fun y=>(y.q.cell (p:=⟨b,o+i,none⟩) hb0).trans (hcs i dM)
      obtain⟨hp1,hp2⟩:=hpr _ (List.getElem_mem dM)
      have hgd:ps.getD i 0=ps[i]:=by rw[List.getD_eq_getElem?_getD,List.getElem?_eq_getElem dM];rfl
      have hlL:i<L.length:=by omega
      obtain⟨b2,o2,rfl,awM,hb2,hcs2⟩:=hRS (by omega)
      have xA:L.getD i (0,0)=L[i]:=by rw[List.getD_eq_getElem?_getD,List.getElem?_eq_getElem hlL];rfl
      have hsb:=hLb _ (List.getElem_mem hlL)
      have hLs:∀y:Wd wm,(Instr.loadAt 72 (.pointer (some ⟨b2,o2+i*2,none⟩))).run Tryz.prog y.w= .ok (.agg (shC L[i]).toArray) y.w:=Wd.load (P:=Tryz.prog) (ty:=72) hb2 (hcs2 i hlL) Tryz.underlying72 rfl (by kernel_rfl)
      have hstp:=avO X ps L i
      unfold RZ at hstp
      rw[hgd,xA]at hstp
      have CX:=Lib.hid hstp
      clear hgd xA hstp hcs hcs2 awM
      generalize ps[i]=p at*
      generalize L[i]=sh at*
      obtain⟨sx,sy⟩:=sh
      dsimp only at hsb
      have hzi:=iI (i:Int)
      have hzx:=iI sx
      have hzy:=iI sy
      have Q9:X.size+(aU (i:Int)).size<=9223372036854775807:=by omega
      have hN:=fun y:Wd wm=>kM (i:Int) y.w (by omega)
      have hTx:=fun y:Wd wm=>aqW sx sy y.w (by omega) (by omega)
      have iU:=fun y:Wd wm=>bV.afl p (X++aU (i:Int)) (WH (sx,sy)) y.w (hTm.q y.q) (by unfold bV.xZ;simp;omega) (by rw[jG];omega) (by show(aU sx++aU sy).size<=_;rw[jG];omega) (by omega)
      unfold bV.YT at iU
      have hpl:WH (sx,sy)=aU sx++aU sy:=rfl
      rw[hpl]at iU CX
      generalize hV:bV.wZ p (X++aU (i:Int)) (aU sx++aU sy)=V at iU
      rw[hV]at CX
      generalize aU sx++aU sy=pt at*
      generalize aU (i:Int)=ni at*
      clear hV hpl hzi hzx hzy
      go_upto_region 25 with(fail)
      obtain⟨W,fO⟩:∃W,z.w=W:=⟨_,rfl⟩
      have AZ:Q wm W:=fO▸z.q
      rw[fO]at lM HOW HKB Oc⊢
      clear fO
      rename_i K25 ajL
      have REST:∀(V2:World) (gx:Nat) {v13 nZ og oh oq v138 v139 ou v141 oz v143 oC v145 v146 oD v148 I7 I8 I9 v152 ajM v154 ajN ajO v157 ajP v159 v160 ajQ:Value},Q W V2->ah V2 gx 115 (je V).cells.toArray->K25 {tmps:= #[.agg (bH k), .agg (aF c), .slice A j cc, .slice (some ⟨b,o,none⟩) j d, .int .i64 t, .int .i64 time, .pointer (some ⟨w.heap.size,0,none⟩), .pointer (some ⟨g7,0,none⟩),undef,undef,undef,undef, .pointer (some ⟨g12,0,none⟩),v13, .int .i64 (j:Int),undef,u16,Value.pointer (some {block:=g17,off:=0}),Value.bool true, .string X, .pointer (some ⟨g20,0,none⟩), .slice (some ⟨b2,o2,none⟩) j sc, .pointer (some ⟨g22,0,none⟩), .int .i64 (i:Int), .int .i64 p, .pointer (some ⟨gx,0,none⟩), .bool true,Value.slice A j cc,Value.int IntKind.i64 ↑j,Value.int IntKind.i64 ↑j,Value.bool false,Value.bool false,Value.slice A j cc,Value.bool true,Value.bool false,Value.bool false,Value.bool false,Value.slice (some {block:=b,off:=o}) j d,Value.int IntKind.i64 ↑j,Value.int IntKind.i64 ↑j,Value.bool false,Value.bool false,Value.bool false,Value.int IntKind.i64 t,Value.bool (decide (t<1)),Value.bool (decide (t<1)),Value.bool (decide (t<1)),Value.int IntKind.i64 t,Value.int IntKind.i64 ↑j,Value.bool (decide (↑j<t)),Value.bool (decide (t<1)||decide (↑j<t)),undef,Value.slice (some {block:=b,off:=o}) j d,Value.int IntKind.i64 ↑j,Value.int IntKind.i64 ↑j,Value.bool false,u56,u57,u58,u59,u60,u61,u62,Value.tuple #[Value.agg (dV {since:=0,pub:=k.snd,home:=0}),Value.bool true],Value.agg (aF c),Value.pointer (some {block:=g7,off:=1}),Value.slice c.aA c.acts.length c.aC,Value.int IntKind.i64 ↑c.acts.length,Value.tuple #[Value.agg (dV {since:=0,pub:=k.snd,home:=0}),Value.bool true],Value.agg (dV {since:=0,pub:=k.snd,home:=0}),Value.bool true,Value.bool true,Value.bool false,Value.bool false,Value.agg (bH k),Value.bool true,Value.bool false,Value.bool false,Value.bool false,Value.pointer (some {block:=w.heap.size,off:=1}),Value.int IntKind.i64 k.snd,Value.pointer (some {block:=g17,off:=1}),Value.int IntKind.i64 k.snd,Value.bool false,Value.bool false,undef,Value.string te,Value.pointer (some {block:=w.heap.size,off:=0}),Value.int IntKind.i64 k.fst,Value.string n1,Value.string (te++n1),Value.pointer (some {block:=g7,off:=1}),Value.slice c.aA c.acts.length c.aC,Value.int IntKind.i64 ↑c.acts.length,Value.string n2,Value.string (te++n1++n2),Value.pointer (some {block:=g7,off:=3}),Value.string c.prev,Value.string n3,Value.string X,Value.string X,Value.agg #[Value.int IntKind.i64 kk.fst,Value.int IntKind.i64 kk.snd],Value.tuple #[Value.slice (some {block:=b2,off:=o2}) j sc,Value.bool true],Value.pointer (some {block:=g20,off:=0}),Value.int IntKind.i64 kk.fst,Value.int IntKind.i64 t,Value.int IntKind.i64 ↑j,Value.string X,Value.tuple #[Value.slice (some {block:=b2,off:=o2}) j sc,Value.bool true],Value.slice (some {block:=b2,off:=o2}) j sc,Value.bool true,Value.bool true,Value.bool false,Value.bool false,Value.slice (some {block:=b2,off:=o2}) j sc,Value.int IntKind.i64 ↑j,Value.int IntKind.i64 ↑j,Value.bool false,Value.bool false,undef,Value.agg (aF c),Value.int IntKind.i64 time,Value.agg (au a0),Value.slice A j cc,Value.slice TA j tc,Value.pointer (some {block:=g22,off:=9}),Value.int IntKind.i64 t,Value.pointer (some {block:=g22,off:=16}),Value.pointer (some {block:=g20,off:=1}),Value.int IntKind.i64 kk.snd,Value.pointer (some {block:=g22,off:=17}), .slice (some ⟨b,o,none⟩) j d, .int .i64 (j:Int), .int .i64 (i:Int),nZ,og,oh,oq,v138,v139,ou,v141,oz,v143,oC,v145,v146,oD,v148,I7,I8,I9,v152,ajM,v154,ajN,ajO,v157,ajP,v159,v160,ajQ,undef,undef,undef,undef,undef,undef,undef],defers:=[]} V2:=by
       intro V2 gx v13 nZ og oh oq v138 v139 ou v141 oz v143 oC v145 v146 oD v148 I7 I8 I9 v152 ajM v154 ajN ajO v157 ajP v159 v160 ajQ nM hW
       refine ajL _ _ ?_
       clear ajL hN hTx iU hcx hLs Iq hRS
       dsimp only
       replace lM:=Lib.hid (lM.out.q nM)
       replace HOW:=Lib.hid (HOW.out.q nM)
       replace HKB:Hid (∀b,b<sL->b≠g22->V2.heap[b]?=z0.w.heap[b]?):=Lib.hid fun b hb hn=>(nM.block b (by omega)).trans (HKB.out b hb hn)
       replace Oc:sL<=V2.heap.size:=Nat.le_trans Oc nM.size
       obtain⟨z3,hz3⟩:∃z:Wd wm,V2=z.w:=⟨⟨V2,Q.trans AZ nM⟩,rfl⟩
       rw[hz3]at lM HOW HKB Oc hW⊢
       clear hz3 nM AZ
       have hLw:(Instr.loadAt 115 (.pointer (some ⟨gx,0,none⟩))).run Tryz.prog z3.w= .ok (.agg (je V).cells.toArray) z3.w:=Wd.load (P:=Tryz.prog) (w0:=z3.w) hW.lt (ah.range hW) Tryz.underlying115 rfl (by kernel_rfl) ⟨z3.w,Q.refl _⟩
       have cF:z3.w.cell? ⟨g22,15,none⟩=some (.slice WA i wc):=by
        have h:=Vg lM.out
        rwa[KZ]at h
       have hnew:dS (z3.w.alloc (.cells (je V).cells.toArray 115)) (some ⟨z3.w.heap.size,0,none⟩) 5 bQ.cells [je V]:=jW (ah.new z3.w 115 (je V).cells.toArray)
       have yC:=HOW.out.alloc (.cells (je V).cells.toArray 115)
       have atd:=z3.q.size
       clear hW
       go_upto_region 28 with(fail)
       go_wp2_with (first|(refine aI (.tmp 25) hLw ?_)|(refine Uk 33 1 _ #[(0, .agg (je V).cells.toArray)] _ rfl rfl (by simp only[List.map_toArray,List.map_cons,List.map_nil];rfl) (afN _ _) ?_)|(at_builtin;refine Jw LV X3 rfl (.tmp 156) (.tmp 158) 33 115 i0 _ 64 rfl Tryz.underlying33 hi hz0 hz1 hz2 rfl (by decide) (by decide) sL (.slice WA i wc) i _ rfl yC (some ⟨z3.w.heap.size,0,none⟩) 1 1 [je V] rfl hnew rfl (by omega) (by simp only[World.size_alloc];omega) ?_))
       intro A9 c9 w9 kU jd eX bW
       have Ob:Q z3.w (z3.w.alloc (.cells (je V).cells.toArray 115)):=aO _ _ _
       have bD:Q wm w9:=fB (Q.trans z3.q Ob) hmL yC bW
       have qy:=ah.Qe (lM.out.q Ob) yC bW (by decide)
       have Z8:w9.cell? ⟨g22,15,none⟩=some (.slice WA i wc):=by
        have h:=Vg qy
        rwa[KZ]at h
       have Z9:w9.frozen? ⟨g22,15,none⟩=false:=qy.frozen 15
       have hsp:splice (iF (jM X ps L i) WA wc a3).cells 15 [.slice A9 (i+1) c9]=(iF (jM X ps L (i+1)) A9 c9 a3).cells:=by
        have h:=O4 (jM X ps L (i+1)) A9 c9 (iF (jM X ps L i) WA wc a3)
        rw[KZ]at h
        exact h
       obtain⟨V4,bG,hV4,awO,bJ⟩:=nU (b:=iF (jM X ps L (i+1)) A9 c9 a3) hge bD qy (show 15+1<=20 by decide) hsp
       have HK4:Hid (∀b,b<sL->b≠g22->V4.heap[b]?=z0.w.heap[b]?):=Lib.hid fun b hb hn=>(bJ b hn).trans ((bW.block b (by simp only[World.size_alloc];omega) fun e=>by have:=(yC.lt b e.symm).1;omega).trans ((Ob.block b (by omega)).trans (HKB.out b hb hn)))
       have awQ:sL<=V4.heap.size:=awF bG (Nat.le_trans Oc (Nat.le_trans Ob.size bW.size))
       have Rf:(jM X ps L i).flatMap bQ.cells++(je V).cells=(jM X ps L (i+1)).flatMap bQ.cells:=by rw[CX.out,List.flatMap_append];simp
       rw[Rf]at eX
       have ku:aV V4 sL 115 5 (.slice A9 (i+1) c9) (i+1) ((jM X ps L (i+1)).flatMap bQ.cells):=eX.keep fun k hk=>bJ k (Za eX qy (by decide) k hk)
       have HB2:=Lib.hid hV4
       have D8:=Lib.hid ku
       clear ku hV4 eX qy hsp bW hnew yC cF lM HOW HKB hLw Rf bJ Ob
       go_upto_region 29 with(fail)
       clear bG Z8 Z9
       go_wp2_with fail
       exact⟨⟨i+1,A9,c9,⟨V4,awO⟩,by go_num,rfl,by omega,kU,jd,HB2,D8,awQ,HK4⟩,by simp only[intOf];omega⟩
      clear lM HOW HKB Oc hRS Iq CX
      have hz0:Q W W.drew:=(Q.refl _).drew
      have fS:∀z,Q W z->(Instr.loadAt 72 (.pointer (some ⟨b2,o2+i*2,none⟩))).run Tryz.prog z= .ok (.agg #[.int .i64 sx, .int .i64 sy]) z:=fun z hz=>hLs ⟨z,Q.trans AZ hz⟩
      have hj2:i<j:=hlt2
      refine uT (fun z=>Q W z) (by kernel_rfl) ?_
      refine aS 0 (.int .i64 p) hz0 ?_
      try simp only[aax]
      refine aS 1 (.string X) hz0 ?_
      try simp only[aax]
      refine aS 2 (.int .i64 (i:Int)) hz0 ?_
      try simp only[aax]
      refine aS 5 (.slice (some ⟨b2,o2,none⟩) j sc) hz0 ?_
      try simp only[aax]
      refine aS 6 (.int .i64 (i:Int)) hz0 ?_
      try simp only[aax]
      refine V7 7 (.pointer (some ⟨b2,o2+i*2,none⟩)) rfl hz0 (fun z hz=>BK 70 72 (.tmp 144) (.tmp 145) b2 o2 j sc i 2 rfl rfl rfl Tryz.underlying70 (by kernel_rfl) Tryz.sizeOf72 hj2) ?_
      try simp only[aax]
      refine V7 8 (.agg #[.int .i64 sx, .int .i64 sy]) rfl hz0 (fun z hz=>oV (fS z hz)) ?_
      try simp only[aax]
      refine kL 3 14 (fun K' hK'=> ?_) fun K' hK'=> ?_
      ·skip
       go_simp
       refine(hN ⟨_,Q.trans AZ hz0⟩).mono ?_
       rintro e z1 ⟨rfl,hq1⟩
       have hz1:=Q.trans hz0 hq1
       refine hK' _ _ hz1 ?_
       clear hK' K'
       try simp only[aax]
       refine V7 4 (.string (X++ni)) rfl hz1 (fun z hz=>ajB _ _ (.tmp 140) (.tmp 142) _ _ rfl rfl rfl Q9) ?_
       try simp only[aax]
       refine kL 9 14 (fun K' hK'=> ?_) fun K' hK'=> ?_
       ·skip
        go_simp
        refine(hTx ⟨_,Q.trans AZ hz1⟩).mono ?_
        rintro e z2 ⟨rfl,hq2⟩
        have hz2:=Q.trans hz1 hq2
        refine hK' _ _ hz2 ?_
        clear hK' K'
        try simp only[aax]
        refine kL 10 14 (fun K' hK'=> ?_) fun K' hK'=> ?_
        ·skip
         go_simp
         refine(iU ⟨_,Q.trans AZ hz2⟩).mono ?_
         rintro e z3 ⟨rfl,hq3⟩
         have hz3:=Q.trans hz2 hq3
         refine hK' _ _ hz3 ?_
         clear hK' K'
         try simp only[aax]
         refine aS 11 (.tuple #[.agg (je V).cells.toArray, .bool true]) hz3 ?_
         try simp only[aax]
         refine aS 12 (.agg (je V).cells.toArray) hz3 ?_
         try simp only[aax]
         refine aS 13 (.bool true) hz3 ?_
         try simp only[aax]
         refine aW 14 fun K' hK'=> ?_
         refine sG 115 _ rfl (WO _) ?_
         have hb4:=ah.new z3 115 o7.cells.toArray
         have lG:Q W (z3.alloc (.cells o7.cells.toArray 115)):=Q.trans hz3 (aO _ _ _)
         have hs4:=(hz3).size
         refine hK' _ _ lG ?_
         clear hK' K'
         try simp only[aax]
         generalize z3.heap.size=gx at*
         generalize z3.alloc (.cells o7.cells.toArray 115)=z4 at*
         refine aW 15 fun K' hK'=> ?_
         refine oJ hb4 115 (.tmp 25) (.tmp 150) (je V).cells rfl rfl rfl (by kernel_rfl) (DT _) (Nat.le_refl 5) ?_
         intro V2 hV2 iD _
         rw[bC _ _ (by rfl)]at hV2
         have nM:Q W V2:=iD _ _ hs4 lG
         refine hK' _ _ nM ?_
         clear hK' K'
         try simp only[aax]
         refine aS 16 (.bool true) nM ?_
         try simp only[aax]
         refine wpAnyH_done (by kernel_rfl) ?_ _
         exact REST V2 gx nM hV2
        ·skip
         refine sG 115 _ rfl (WO _) ?_
         have hb5:=ah.new z2 115 o7.cells.toArray
         have sU:Q W (z2.alloc (.cells o7.cells.toArray 115)):=Q.trans hz2 (aO _ _ _)
         have hs5:=(hz2).size
         refine hK' _ _ sU ?_
         clear hK' K'
         try simp only[aax]
         generalize z2.heap.size=gx at*
         generalize z2.alloc (.cells o7.cells.toArray 115)=z5 at*
         refine aW 10 fun K' hK'=> ?_
         go_simp
         refine(iU ⟨_,Q.trans AZ sU⟩).mono ?_
         rintro e z6 ⟨rfl,hq6⟩
         have lg:=Q.trans sU hq6
         have hb6:=hb5.q hq6
         refine hK' _ _ lg ?_
         clear hK' K'
         try simp only[aax]
         refine aS 11 (.tuple #[.agg (je V).cells.toArray, .bool true]) lg ?_
         try simp only[aax]
         refine aS 12 (.agg (je V).cells.toArray) lg ?_
         try simp only[aax]
         refine aS 13 (.bool true) lg ?_
         try simp only[aax]
         refine aW 15 fun K' hK'=> ?_
         refine oJ hb6 115 (.tmp 25) (.tmp 150) (je V).cells rfl rfl rfl (by kernel_rfl) (DT _) (Nat.le_refl 5) ?_
         intro V2 hV2 iD _
         rw[bC _ _ (by rfl)]at hV2
         have nM:Q W V2:=iD _ _ hs5 lg
         refine hK' _ _ nM ?_
         clear hK' K'
         try simp only[aax]
         refine aS 16 (.bool true) nM ?_
         try simp only[aax]
         refine wpAnyH_done (by kernel_rfl) ?_ _
         exact REST V2 gx nM hV2
       ·skip
        refine sG 115 _ rfl (WO _) ?_
        have hb7:=ah.new z1 115 o7.cells.toArray
        have tu:Q W (z1.alloc (.cells o7.cells.toArray 115)):=Q.trans hz1 (aO _ _ _)
        have hs7:=(hz1).size
        refine hK' _ _ tu ?_
        clear hK' K'
        try simp only[aax]
        generalize z1.heap.size=gx at*
        generalize z1.alloc (.cells o7.cells.toArray 115)=z7 at*
        refine aW 9 fun K' hK'=> ?_
        go_simp
        refine(hTx ⟨_,Q.trans AZ tu⟩).mono ?_
        rintro e z8 ⟨rfl,hq8⟩
        have qx:=Q.trans tu hq8
        have hb8:=hb7.q hq8
        refine hK' _ _ qx ?_
        clear hK' K'
        try simp only[aax]
        refine aW 10 fun K' hK'=> ?_
        go_simp
        refine(iU ⟨_,Q.trans AZ qx⟩).mono ?_
        rintro e z9 ⟨rfl,bD⟩
        have zh:=Q.trans qx bD
        have iO:=hb8.q bD
        refine hK' _ _ zh ?_
        clear hK' K'
        try simp only[aax]
        refine aS 11 (.tuple #[.agg (je V).cells.toArray, .bool true]) zh ?_
        try simp only[aax]
        refine aS 12 (.agg (je V).cells.toArray) zh ?_
        try simp only[aax]
        refine aS 13 (.bool true) zh ?_
        try simp only[aax]
        refine aW 15 fun K' hK'=> ?_
        refine oJ iO 115 (.tmp 25) (.tmp 150) (je V).cells rfl rfl rfl (by kernel_rfl) (DT _) (Nat.le_refl 5) ?_
        intro V2 hV2 iD _
        rw[bC _ _ (by rfl)]at hV2
        have nM:Q W V2:=iD _ _ hs7 zh
        refine hK' _ _ nM ?_
        clear hK' K'
        try simp only[aax]
        refine aS 16 (.bool true) nM ?_
        try simp only[aax]
        refine wpAnyH_done (by kernel_rfl) ?_ _
        exact REST V2 gx nM hV2
      ·skip
       refine sG 115 _ rfl (WO _) ?_
       have abf:=ah.new W.drew 115 o7.cells.toArray
       have Au:Q W (W.drew.alloc (.cells o7.cells.toArray 115)):=Q.trans hz0 (aO _ _ _)
       have hs10:=(hz0).size
       refine hK' _ _ Au ?_
       clear hK' K'
       try simp only[aax]
       generalize W.drew.heap.size=gx at*
       generalize W.drew.alloc (.cells o7.cells.toArray 115)=z10 at*
       refine aW 3 fun K' hK'=> ?_
       go_simp
       refine(hN ⟨_,Q.trans AZ Au⟩).mono ?_
       rintro e z11 ⟨rfl,hq11⟩
       have zy:=Q.trans Au hq11
       have Ld:=abf.q hq11
       refine hK' _ _ zy ?_
       clear hK' K'
       try simp only[aax]
       refine V7 4 (.string (X++ni)) rfl zy (fun z hz=>ajB _ _ (.tmp 140) (.tmp 142) _ _ rfl rfl rfl Q9) ?_
       try simp only[aax]
       refine aW 9 fun K' hK'=> ?_
       go_simp
       refine(hTx ⟨_,Q.trans AZ zy⟩).mono ?_
       rintro e z12 ⟨rfl,hq12⟩
       have Ja:=Q.trans zy hq12
       have WU:=Ld.q hq12
       refine hK' _ _ Ja ?_
       clear hK' K'
       try simp only[aax]
       refine aW 10 fun K' hK'=> ?_
       go_simp
       refine(iU ⟨_,Q.trans AZ Ja⟩).mono ?_
       rintro e z13 ⟨rfl,wH⟩
       have EJ:=Q.trans Ja wH
       have WV:=WU.q wH
       refine hK' _ _ EJ ?_
       clear hK' K'
       try simp only[aax]
       refine aS 11 (.tuple #[.agg (je V).cells.toArray, .bool true]) EJ ?_
       try simp only[aax]
       refine aS 12 (.agg (je V).cells.toArray) EJ ?_
       try simp only[aax]
       refine aS 13 (.bool true) EJ ?_
       try simp only[aax]
       refine aW 15 fun K' hK'=> ?_
       refine oJ WV 115 (.tmp 25) (.tmp 150) (je V).cells rfl rfl rfl (by kernel_rfl) (DT _) (Nat.le_refl 5) ?_
       intro V2 hV2 iD _
       rw[bC _ _ (by rfl)]at hV2
       have nM:Q W V2:=iD _ _ hs10 EJ
       refine hK' _ _ nM ?_
       clear hK' K'
       try simp only[aax]
       refine aS 16 (.bool true) nM ?_
       try simp only[aax]
       refine wpAnyH_done (by kernel_rfl) ?_ _
       exact REST V2 gx nM hV2
     ·obtain rfl:i=j:=by omega
      have hii:¬((i:Int)<(i:Int)):=by omega
      obtain⟨hA1,hA2,hA3⟩:=Q7.out (jM X ps L i) WA wc
      have Gl:=Q5.out (jM X ps L i) WA wc
      have hTR:=dI.upto HT0.out Vs (fun b hb hn=>HKB.out b (by rw[HSL.out]at hb;exact hb) hn)
      have qp:bU z.w (iF (jM X ps L i) WA wc a3):=⟨by rw[hA1,hA2];exact gB hTR.rows,lY (HOW.out.rows LV (show i=(jM X ps L i).length from(KZ X ps L i).symm)),by rw[hA2,hA3,Sr.out];exact⟨ht1,ht2⟩,by show(jM X ps L i).length<=wc/\wc<=maxLen;rw[KZ];exact⟨hwi,hwm⟩⟩
      have CW:(iF (jM X ps L i) WA wc a3).to.length<=1000000:=by rw[hA2,Sr.out];omega
      have hsh2:(iF (jM X ps L i) WA wc a3).wraps.length<=1000000:=by show(jM X ps L i).length<=_;rw[KZ];omega
      obtain⟨G,qA⟩:∃G,iF (jM X ps L i) none 0 (DV kk.2 (La t (oL F none 0 (iW c 19 time))))=G:=⟨_,rfl⟩
      have KI:aP G=G:=by rw[<-qA];rfl
      have HR2:=HS3.out
      rw[qA]at Gl HR2
      have HR:=Lib.hid HR2
      have KJ:=lM.out
      generalize iF (jM X ps L i) WA wc a3=p at*
      have hrg:bT p=bT G:=JB (Gl.trans KI.symm)
      have zF:=Lib.hid (Qg k (Gl.trans KI.symm))
      rw[<-hrg]at HR
      have gJ:=fun y:Wd z.w=>EY p y.w (qp.q y.q)
      have jo:=fun y:Wd z.w=>JE k p y.w (hTm.q (Q.trans z.q y.q)) hk1 hk2 (qp.q y.q) CW hsh2
      have kX:=Wd.load (P:=Tryz.prog) KJ.lt (ah.range KJ) (ty:=37) Tryz.underlying37 rfl (by kernel_rfl)
      have tq:∀y:Wd z.w,(Instr.loadAt 66 (.pointer (some ⟨w.heap.size,0,none⟩))).run Tryz.prog y.w= .ok (.agg (bH k)) y.w:=fun y=>awL ⟨y.w,Q.trans z.q y.q⟩
      have KN:ah z.w g12 37 aH.cells.toArray:=hD3.q z.q
      have hqz:Q w z.w:=Q.trans ZW z.q
      have D6:g12<z.w.heap.size:=KN.lt
      have uj:=Lib.hid hqz
      clear lM HOW qA Gl KI qp CW hsh2 hA1 hA2 hA3 Q7 Q5 KJ hqz hw0 Iq HR2 HS3 HKB HT0 HSL hTR hRS
      obtain⟨v0,hv0⟩:=Wd.first z.w
      rw[hv0]
      clear hv0
      cases hr:bT p
      ·rw[hr]at gJ HR
       have HF:Hid (AY k c F ps t time=(aH,1)):=Lib.hid (by rw[HR.out];rfl)
       clear jo HR zF hrg hr
       go_wp2_with (first|(refine aI (.tmp 22) (kX _) ?_)|(go_at_call 66;refine(gJ _).mono ?_;rintro e w' ⟨rfl,hq⟩;obtain⟨v1,rfl⟩:=Wd.next _ hq;clear hq)|(refine fM (v1.blk KN) rfl 37 (.tmp 12) (.tmp 165) aH.cells rfl rfl rfl (by kernel_rfl) (dL _) (Nat.le_refl 20) ?_))
       intro W hW hbel
       rw[bC _ _ (by rfl)]at hW
       have aJ:Q w W:=hbel _ _ hwg (Q.trans uj.out v1.q)
       clear hbel kX gJ tq
       go_wp2_with fail
       refine bodyPost_ret (nG rfl _ _ g12 37 (au aH) (0,0) _ _ rfl rfl hW Tryz.underlying37 rfl (by kernel_rfl)) rfl ?_
       rw[HF.out]
       exact⟨aH,rfl,rfl,⟨fun h=>absurd h (by decide),fun h=>absurd h (by decide)⟩,BI W,aJ⟩
      ·rw[hr]at gJ HR
       have HF:Hid (AY k c F ps t time=(gU k G,0)):=Lib.hid (by rw[HR.out];rfl)
       clear HR hrg hr
       go_wp2_with (first|(refine aI (.tmp 22) (kX _) ?_)|(refine aI (.tmp 6) (tq _) ?_)|(go_at_call 66;refine(gJ _).mono ?_;rintro e w' ⟨rfl,hq⟩;obtain⟨v1,rfl⟩:=Wd.next _ hq;clear hq)|(go_at_call 32;refine(jo _).mono ?_;rintro e w2 ⟨a2,rfl,hb2,⟨hr1,hr2⟩,hI2,hq2⟩;obtain⟨v2,rfl⟩:=Wd.next _ hq2)|(refine eY (v2.blk KN) rfl 37 (.tmp 12) (.tmp 168) a2.cells rfl rfl rfl (by kernel_rfl) (dL _) (Nat.le_refl 20) ?_))
       intro W hW hbel bJ
       rw[bC _ _ (by rfl)]at hW
       have aJ:Q w W:=hbel _ _ hwg (Q.trans uj.out v2.q)
       have hz1:=v1.q.size
       have hR1:dI v1.w.heap.size W a2.toA 1 dP a2.to:=hr1.far fun b hb=>bJ b (by omega)
       have hR2:dI v1.w.heap.size W a2.gy 5 bQ.cells a2.wraps:=hr2.far fun b hb=>bJ b (by omega)
       have xE:bU W a2:=⟨gB hR1.rows,lY hR2.rows,hI2.toC,hI2.dF⟩
       have hws:w.heap.size<=v1.w.heap.size:=by have:=uj.out.size;omega
       clear hbel bJ kX gJ tq jo hq2 hr1 hr2 hI2
       go_wp2_with fail
       refine bodyPost_ret (nG rfl _ _ g12 37 a2.cells.toArray (0,0) _ _ rfl rfl hW Tryz.underlying37 rfl (by kernel_rfl)) rfl ?_
       rw[HF.out]
       exact⟨a2,rfl,hb2.trans zF.out,⟨hR1.low hws,hR2.low hws⟩,xE,aJ⟩
 all_goals
  rw[hV]
  clear hV
  go_wp2_with (refine fM (V.blk lJ) rfl 37 (.tmp 12) (.tmp 51) aH.cells rfl rfl rfl (by kernel_rfl) (dL _) (Nat.le_refl 20) ?_)
  intro W hW hbel
  rw[bC _ _ (by rfl)]at hW
  have aJ:Q w W:=hbel _ _ hwg (Q.trans HQ.out V.q)
  clear hbel
  go_wp2_with fail
  refine bodyPost_ret (nG rfl _ _ g12 37 (au aH) (0,0) _ _ rfl rfl hW Tryz.underlying37 rfl (by kernel_rfl)) rfl ?_
  rw[HF.out]
  exact⟨aH,rfl,rfl,⟨fun h=>absurd h (by decide),fun h=>absurd h (by decide)⟩,BI W,aJ⟩
end Rel
end Go.Proofs.YtbemmjnjoabadaaGreatDoor
