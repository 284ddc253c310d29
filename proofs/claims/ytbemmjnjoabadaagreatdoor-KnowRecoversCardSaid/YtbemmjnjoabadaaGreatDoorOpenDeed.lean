/-
  What an argument's type gives: a list of deeds, with the form's own reach (printed by gen_openstory.py).
-/
import Derived.Test.YtbemmjnjoabadaaGreatDoorXV
import Derived.Test.YtbemmjnjoabadaaGreatDoorK42
import Derived.Test.YtbemmjnjoabadaaGreatDoorK43
import Derived.Test.YtbemmjnjoabadaaGreatDoorOpenW
set_option linter.unusedVariables false
set_option linter.unusedSimpArgs false
set_option maxHeartbeats 1000000
set_option maxRecDepth 100000
namespace Go.Proofs.YtbemmjnjoabadaaGreatDoor
namespace Rel
open Go.RowKit Go.ChangeShapes Go.WideShapes Go.Deep aQ Mem _root_.Go.Proofs.YtbemmjnjoabadaaGreatDoor.Code aY Sign _root_.Go.Proofs.YtbemmjnjoabadaaGreatDoor.Item _root_.Go.Proofs.YtbemmjnjoabadaaGreatDoor.Known _root_.Go.Proofs.YtbemmjnjoabadaaGreatDoor.bP
instance:Inhabited iG:=⟨⟨⟨0,0,0,0,bK,0⟩,0,0⟩⟩
section
variable {H:Type} {enc:TypeId×Value->H} {W:World} {base:Nat} {spare:Nat->Bool} {held:Bool}
theorem axl:Tryz.prog.cellsOf 79=6:=by kernel_rfl
theorem aAx:afp enc Tryz.prog W base spare held 79 vg.cells (fun x=>(I64 x.mG/\I64 x.who/\I64 x.what)/\x.text.size<=reachBytes):=fun fuel cs x h hw=>by
 obtain⟨xs,n,-,hx,hcl,hxl,hf⟩:=DataW.trod_struct Tryz.underlying79 h
 rw[axl]at hcl
 have hxl:xs.length=6:=hxl
 obtain⟨n0,e0,g0⟩:=aeE (off:=0) (show DataW.trod enc Tryz.prog W base spare held n 3 ((cs.drop 0).take (Tryz.prog.cellsOf 3))=xs[0]? from hf 0 _ rfl) (by omega) aeF aeG
 obtain⟨n1,e1,g1⟩:=aeE (off:=1) (show DataW.trod enc Tryz.prog W base spare held n 3 ((cs.drop 1).take (Tryz.prog.cellsOf 3))=xs[1]? from hf 1 _ rfl) (by omega) aeF aeG
 obtain⟨n2,e2,g2⟩:=aeE (off:=2) (show DataW.trod enc Tryz.prog W base spare held n 3 ((cs.drop 2).take (Tryz.prog.cellsOf 3))=xs[2]? from hf 2 _ rfl) (by omega) aeF aeG
 obtain⟨n3,e3,g3⟩:=aeE (off:=3) (show DataW.trod enc Tryz.prog W base spare held n 3 ((cs.drop 3).take (Tryz.prog.cellsOf 3))=xs[3]? from hf 3 _ rfl) (by omega) aeF aeG
 obtain⟨tx,e4,g4⟩:=axj (i:=4) (off:=4) Tryz.underlying79 hx hw rfl rfl (show DataW.trod enc Tryz.prog W base spare held n 9 ((cs.drop 4).take (Tryz.prog.cellsOf 9))=xs[4]? from hf 4 _ rfl) (by omega) axO (aAv Tryz.underlying9)
 obtain⟨n5,e5,g5⟩:=aeE (off:=5) (show DataW.trod enc Tryz.prog W base spare held n 3 ((cs.drop 5).take (Tryz.prog.cellsOf 3))=xs[5]? from hf 5 _ rfl) (by omega) aeF aeG
 have t6:cs.drop 6=[]:=List.drop_eq_nil_of_le (by omega)
 have t5:=drop_step e5
 simp only[Nat.reduceAdd]at t5
 rw[t6]at t5
 have t4:=drop_step e4
 simp only[Nat.reduceAdd]at t4
 rw[t5]at t4
 have t3:=drop_step e3
 simp only[Nat.reduceAdd]at t3
 rw[t4]at t3
 have t2:=drop_step e2
 simp only[Nat.reduceAdd]at t2
 rw[t3]at t2
 have t1:=drop_step e1
 simp only[Nat.reduceAdd]at t1
 rw[t2]at t1
 have t0:=drop_step e0
 simp only[Nat.reduceAdd]at t0
 rw[t1]at t0
 rw[List.drop_zero]at t0
 refine⟨⟨n0,n1,n2,n3,tx,n5⟩,by rw[t0];rfl,?_⟩
 exact⟨⟨g0,g2,g3⟩,g4⟩
theorem axn:Tryz.prog.cellsOf 81=8:=by kernel_rfl
theorem aAy:afp enc Tryz.prog W base spare held 81 iG.cells aix:=fun fuel cs x h hw=>by
 obtain⟨xs,n,-,hx,hcl,hxl,hf⟩:=DataW.trod_struct Tryz.underlying81 h
 rw[axn]at hcl
 have hxl:xs.length=3:=hxl
 obtain⟨wi,e0,g0⟩:=axj (i:=0) (off:=0) Tryz.underlying81 hx hw rfl rfl (show DataW.trod enc Tryz.prog W base spare held n 79 ((cs.drop 0).take (Tryz.prog.cellsOf 79))=xs[0]? from hf 0 _ rfl) (by omega) axl aAx
 obtain⟨sc,e1,g1⟩:=aeE (off:=6) (show DataW.trod enc Tryz.prog W base spare held n 3 ((cs.drop 6).take (Tryz.prog.cellsOf 3))=xs[1]? from hf 1 _ rfl) (by omega) aeF aeG
 obtain⟨ma,e2,g2⟩:=aeE (off:=7) (show DataW.trod enc Tryz.prog W base spare held n 3 ((cs.drop 7).take (Tryz.prog.cellsOf 3))=xs[2]? from hf 2 _ rfl) (by omega) aeF aeG
 have t3:cs.drop 8=[]:=List.drop_eq_nil_of_le (by omega)
 have t2:=drop_step e2
 simp only[Nat.reduceAdd]at t2
 rw[t3]at t2
 have t1:=drop_step e1
 simp only[Nat.reduceAdd]at t1
 rw[t2]at t1
 have t0:=drop_step e0
 simp only[Nat.reduceAdd]at t0
 rw[t1]at t0
 rw[List.drop_zero]at t0
 refine⟨⟨wi,sc,ma⟩,by rw[t0];rfl,?_⟩
 have hr:reachBytes=140737488351232:=rfl
 exact⟨g0.1.1,g0.1.2.1,g0.1.2.2,g1,(show wi.text.size<=140737488351232 from hr▸g0.2)⟩
theorem aAz:afp enc Tryz.prog W base spare held 22 acY.cells (acY.Good W 8 iG.cells aix):=aAw Tryz.underlying22 axn (by decide) aAy
theorem aAA{r:Reach}{b0:Nat}{v:Value}{ts:List TypeId}{ds:List (DataW H)}{j:Nat}{d:DataW H}{p:List MemPlace}(hz:(DataW.weightsEach Tryz.prog ts ds).all (·<=reachBytes)=true)(htj:ts[j]?=some 22)(hdj:ds[j]?=some d)
 (hval:Value.okWide Tryz.prog W r b0 22 v) (h:DataW.Trod enc Tryz.prog W base spare held 22 v d p):
 ∃(A:Option Addr) (c:Nat) (l:List iG),v= .slice A l.length c/\l.length<=c/\c<=maxLen/\dS W A 8 iG.cells l/\∀x∈l,aix x:=by
 obtain⟨A,n,c,rfl⟩:=okWide_slice Tryz.underlying22 hval
 obtain⟨fuel,hf⟩:=h
 obtain⟨s,hs,hg⟩:=aAz fuel _ _ hf (fun n hn=>by
  have:=List.all_eq_true.1 hz _ (DataW.weights_mem_each htj hdj n hn)
  simpa using this)
 simp[Value.cells,acY.cells]at hs
 obtain⟨rfl,rfl,rfl⟩:=hs
 exact⟨s.A,s.c,s.l,rfl,hg.le,hg.cap,hg.rows,hg.all⟩
end
end Rel
end Go.Proofs.YtbemmjnjoabadaaGreatDoor
