/-
  What an argument's type gives: a chain (printed by gen_openstory.py).
-/
import Derived.Test.YtbemmjnjoabadaaGreatDoorXG
import Derived.Test.YtbemmjnjoabadaaGreatDoorK42
import Derived.Test.YtbemmjnjoabadaaGreatDoorK43
set_option linter.unusedVariables false
set_option linter.unusedSimpArgs false
set_option maxHeartbeats 1000000
set_option maxRecDepth 100000
namespace Go.Proofs.YtbemmjnjoabadaaGreatDoor
namespace Rel
open Go.RowKit Go.ChangeShapes Go.WideShapes Go.Deep aQ Mem _root_.Go.Proofs.YtbemmjnjoabadaaGreatDoor.Code aY Sign _root_.Go.Proofs.YtbemmjnjoabadaaGreatDoor.Item _root_.Go.Proofs.YtbemmjnjoabadaaGreatDoor.Known _root_.Go.Proofs.YtbemmjnjoabadaaGreatDoor.bP
instance:Inhabited iJ:=⟨gK⟩
instance:Inhabited ak:=⟨aH⟩
section
variable {H:Type} {enc:TypeId×Value->H} {W:World} {base:Nat} {spare:Nat->Bool} {held:Bool}
theorem aay{cs p r:List Value}{o k:Nat}(h:(cs.drop o).take k=p)(t:cs.drop (o+k)=r):cs.drop o=p++r:=by
 rw[drop_step h,t]
theorem anU:Tryz.prog.cellsOf 4=1:=by kernel_rfl
theorem anV:Opens enc Tryz.prog W base spare held 4 (fun b:Bool=>[.bool b]) fun _=>True:=ais Tryz.underlying4
theorem ahP:Tryz.prog.cellsOf 111=3:=by kernel_rfl
theorem anW:Opens enc Tryz.prog W base spare held 111 iJ.cells (fun _=>True):=fun fuel cs x h=>by
 obtain⟨xs,n,-,-,hcl,hxl,hf⟩:=DataW.trod_struct Tryz.underlying111 h
 rw[ahP]at hcl
 have hxl:xs.length=3:=hxl
 obtain⟨n0,e0,g0⟩:=V7 (cs:=cs) (off:=0) (hf 0 _ rfl) (by omega) aaB aaC
 obtain⟨n1,e1,g1⟩:=V7 (off:=1) (hf 1 _ rfl) (by omega) aaB aaC
 obtain⟨n2,e2,g2⟩:=V7 (off:=2) (hf 2 _ rfl) (by omega) aaB aaC
 have t3:cs.drop 3=[]:=List.drop_eq_nil_of_le (by omega)
 have t2:=aay e2 t3
 have t1:=aay e1 t2
 have t0:=aay e0 t1
 rw[List.drop_zero]at t0
 refine⟨⟨n0,n1,n2⟩,by rw[t0];rfl,?_⟩
 trivial
theorem ahQ:Opens enc Tryz.prog W base spare held 32 (fun b:ByteArray×ByteArray×ByteArray=>[.string b.1, .string b.2.1, .string b.2.2]) (fun _=>True):=fun fuel cs x h=>by
 obtain⟨xs,n,-,-,hcl,hxl,hf⟩:=DataW.trod_struct Tryz.underlying32 h
 rw[adV]at hcl
 have hxl:xs.length=3:=hxl
 obtain⟨n1,e0,g0⟩:=V7 (cs:=cs) (off:=0) (hf 0 _ rfl) (by omega) aaF aaG
 obtain⟨n2,e1,g1⟩:=V7 (off:=1) (hf 1 _ rfl) (by omega) aaF aaG
 obtain⟨n3,e2,g2⟩:=V7 (off:=2) (hf 2 _ rfl) (by omega) aaF aaG
 have t3:cs.drop 3=[]:=List.drop_eq_nil_of_le (by omega)
 have t2:=aay e2 t3
 have t1:=aay e1 t2
 have t0:=aay e0 t1
 rw[List.drop_zero]at t0
 refine⟨(n1,n2,n3),by rw[t0];rfl,?_⟩
 trivial
theorem anX:Opens enc Tryz.prog W base spare held 35 (fun b:Int×Int=>[.int .i64 b.1, .int .i64 b.2]) (fun _=>True):=fun fuel cs x h=>by
 obtain⟨xs,n,-,-,hcl,hxl,hf⟩:=DataW.trod_struct Tryz.underlying35 h
 rw[aeI]at hcl
 have hxl:xs.length=2:=hxl
 obtain⟨n1,e0,g0⟩:=V7 (cs:=cs) (off:=0) (hf 0 _ rfl) (by omega) aaB aaC
 obtain⟨n2,e1,g1⟩:=V7 (off:=1) (hf 1 _ rfl) (by omega) aaB aaC
 have t2:cs.drop 2=[]:=List.drop_eq_nil_of_le (by omega)
 have t1:=aay e1 t2
 have t0:=aay e0 t1
 rw[List.drop_zero]at t0
 refine⟨(n1,n2),by rw[t0];rfl,?_⟩
 trivial
theorem anY:Opens enc Tryz.prog W base spare held 115 bQ.cells (fun _=>True):=fun fuel cs x h=>by
 obtain⟨xs,n,-,-,hcl,hxl,hf⟩:=DataW.trod_struct Tryz.underlying115 h
 rw[aeW]at hcl
 have hxl:xs.length=3:=hxl
 obtain⟨n1,e0,g0⟩:=V7 (cs:=cs) (off:=0) (hf 0 _ rfl) (by omega) aaB aaC
 obtain⟨n2,e1,g1⟩:=V7 (off:=1) (hf 1 _ rfl) (by omega) aaB aaC
 obtain⟨b,e2,g2⟩:=V7 (off:=2) (hf 2 _ rfl) (by omega) adV ahQ
 have t3:cs.drop 5=[]:=List.drop_eq_nil_of_le (by omega)
 have t2:=aay e2 t3
 have t1:=aay e1 t2
 have t0:=aay e0 t1
 rw[List.drop_zero]at t0
 refine⟨⟨n1,n2,b.1,b.2.1,b.2.2⟩,by rw[t0];rfl,?_⟩
 trivial
theorem aoh:Opens enc Tryz.prog W base spare held 33 acY.cells (acY.Good W 5 bQ.cells fun _=>True):=aa9 Tryz.underlying33 aeW (by decide) anY
theorem aoi:Opens enc Tryz.prog W base spare held 37 ak.cells (fun a=>bU W a):=fun fuel cs x h=>by
 obtain⟨xs,n,-,-,hcl,hxl,hf⟩:=DataW.trod_struct Tryz.underlying37 h
 rw[aeX]at hcl
 have hxl:xs.length=17:=hxl
 obtain⟨author,e0,g0⟩:=V7 (cs:=cs) (off:=0) (hf 0 _ rfl) (by omega) aaF aaG
 obtain⟨seq,e1,g1⟩:=V7 (off:=1) (hf 1 _ rfl) (by omega) aaB aaC
 obtain⟨prev,e2,g2⟩:=V7 (off:=2) (hf 2 _ rfl) (by omega) aaF aaG
 obtain⟨kind,e3,g3⟩:=V7 (off:=3) (hf 3 _ rfl) (by omega) aaB aaC
 obtain⟨time,e4,g4⟩:=V7 (off:=4) (hf 4 _ rfl) (by omega) aaB aaC
 obtain⟨object,e5,g5⟩:=V7 (off:=5) (hf 5 _ rfl) (by omega) aaF aaG
 obtain⟨target,e6,g6⟩:=V7 (off:=6) (hf 6 _ rfl) (by omega) aaF aaG
 obtain⟨scope,e7,g7⟩:=V7 (off:=7) (hf 7 _ rfl) (by omega) aaB aaC
 obtain⟨group,e8,g8⟩:=V7 (off:=8) (hf 8 _ rfl) (by omega) aaF aaG
 obtain⟨to,e9,g9⟩:=V7 (off:=9) (hf 9 _ rfl) (by omega) aiB aiC
 obtain⟨text,e10,g10⟩:=V7 (off:=10) (hf 10 _ rfl) (by omega) aaF aaG
 obtain⟨b,e11,g11⟩:=V7 (off:=11) (hf 11 _ rfl) (by omega) adV ahQ
 obtain⟨epoch,e12,g12⟩:=V7 (off:=14) (hf 12 _ rfl) (by omega) aaB aaC
 obtain⟨wr,e13,g13⟩:=V7 (off:=15) (hf 13 _ rfl) (by omega) aiD aoh
 obtain⟨n1,e14,g14⟩:=V7 (off:=16) (hf 14 _ rfl) (by omega) aaB aaC
 obtain⟨m1,e15,g15⟩:=V7 (off:=17) (hf 15 _ rfl) (by omega) aaB aaC
 obtain⟨sg,e16,g16⟩:=V7 (off:=18) (hf 16 _ rfl) (by omega) aeI anX
 have t17:cs.drop 20=[]:=List.drop_eq_nil_of_le (by omega)
 have t16:=aay e16 t17
 have t15:=aay e15 t16
 have t14:=aay e14 t15
 have t13:=aay e13 t14
 have t12:=aay e12 t13
 have t11:=aay e11 t12
 have t10:=aay e10 t11
 have t9:=aay e9 t10
 have t8:=aay e8 t9
 have t7:=aay e7 t8
 have t6:=aay e6 t7
 have t5:=aay e5 t6
 have t4:=aay e4 t5
 have t3:=aay e3 t4
 have t2:=aay e2 t3
 have t1:=aay e1 t2
 have t0:=aay e0 t1
 rw[List.drop_zero]at t0
 refine⟨⟨author,seq,prev,kind,time,object,target,scope,group,to.l,to.A,to.c,text,b.1,b.2.1,b.2.2,epoch,wr.l,wr.A,wr.c,n1,m1,sg.1,sg.2⟩,by rw[t0];rfl,?_⟩
 exact⟨gB g9.rows,lY g13.rows,⟨g9.le,g9.cap⟩,g13.le,g13.cap⟩
theorem aok:Tryz.prog.cellsOf 39=1:=by kernel_rfl
theorem aol:Opens enc Tryz.prog W base spare held 39 acY.cells (acY.Good W 3 iJ.cells fun _=>True):=aa9 Tryz.underlying39 ahP (by decide) anW
theorem aom:Tryz.prog.cellsOf 38=1:=by kernel_rfl
theorem aoO:Opens enc Tryz.prog W base spare held 38 acY.cells (acY.Good W 20 ak.cells fun a=>bU W a):=aa9 Tryz.underlying38 aeX (by decide) aoi
theorem aoP:Tryz.prog.cellsOf 41=6:=by kernel_rfl
theorem aoQ:Opens enc Tryz.prog W base spare held 41 ay.cells (fun c=>gX W c):=fun fuel cs x h=>by
 obtain⟨xs,n,-,-,hcl,hxl,hf⟩:=DataW.trod_struct Tryz.underlying41 h
 rw[aoP]at hcl
 have hxl:xs.length=6:=hxl
 obtain⟨id,e0,g0⟩:=V7 (cs:=cs) (off:=0) (hf 0 _ rfl) (by omega) aaF aaG
 obtain⟨ac,e1,g1⟩:=V7 (off:=1) (hf 1 _ rfl) (by omega) aom aoO
 obtain⟨ks,e2,g2⟩:=V7 (off:=2) (hf 2 _ rfl) (by omega) aok aol
 obtain⟨pv,e3,g3⟩:=V7 (off:=3) (hf 3 _ rfl) (by omega) aaF aaG
 obtain⟨ge,e4,g4⟩:=V7 (off:=4) (hf 4 _ rfl) (by omega) aaB aaC
 obtain⟨fk,e5,g5⟩:=V7 (off:=5) (hf 5 _ rfl) (by omega) anU anV
 have t6:cs.drop 6=[]:=List.drop_eq_nil_of_le (by omega)
 have t5:=aay e5 t6
 have t4:=aay e4 t5
 have t3:=aay e3 t4
 have t2:=aay e2 t3
 have t1:=aay e1 t2
 have t0:=aay e0 t1
 rw[List.drop_zero]at t0
 refine⟨⟨id,ac.l,ac.A,ac.c,ks.l,ks.A,ks.c,pv,ge,fk⟩,by rw[t0];rfl,?_⟩
 exact⟨g1.rows,fun a ha=>g1.all a ha,⟨g1.le,g1.cap⟩,g2.rows,⟨g2.le,g2.cap⟩⟩
theorem ao5{r:Reach}{b0:Nat}{v:Value}{d:DataW H}{p:List MemPlace}(hval:Value.okWide Tryz.prog W r b0 41 v)(h:DataW.Trod enc Tryz.prog W base spare held 41 v d p):∃c:ay,v= .agg (aF c)/\gX W c:=by
 simp only[Value.okWide,Tryz.underlying41]at hval
 obtain⟨cs,rfl,-⟩:=hval
 obtain⟨fuel,hf⟩:=h
 obtain⟨k,hk,g1⟩:=aoQ fuel _ _ hf
 have hk:cs.toList=k.cells:=hk
 exact⟨k,by rw[aF,<-hk],g1⟩
end
end Rel
end Go.Proofs.YtbemmjnjoabadaaGreatDoor
