/-
  What an argument's type gives: a chain (printed by gen_openstory.py).
-/
import Derived.Test.YtbemmjnjoabadaaGreatDoorXS
import Derived.Test.YtbemmjnjoabadaaGreatDoorK42
import Derived.Test.YtbemmjnjoabadaaGreatDoorK43
set_option linter.unusedVariables false
set_option linter.unusedSimpArgs false
set_option maxHeartbeats 1000000
set_option maxRecDepth 100000
namespace Go.Proofs.YtbemmjnjoabadaaGreatDoor
namespace Rel
open Go.RowKit Go.ChangeShapes Go.WideShapes Go.Deep aQ Mem _root_.Go.Proofs.YtbemmjnjoabadaaGreatDoor.Code aY Sign _root_.Go.Proofs.YtbemmjnjoabadaaGreatDoor.Item _root_.Go.Proofs.YtbemmjnjoabadaaGreatDoor.Known _root_.Go.Proofs.YtbemmjnjoabadaaGreatDoor.bP
instance:Inhabited iJ:=⟨gK⟩
instance:Inhabited ak:=⟨aH⟩
section
variable {H:Type} {enc:TypeId×Value->H} {W:World} {base:Nat} {spare:Nat->Bool} {held:Bool}
theorem aay{cs p r:List Value}{o k:Nat}(h:(cs.drop o).take k=p)(t:cs.drop (o+k)=r):cs.drop o=p++r:=by
 rw[drop_step h,t]
theorem aer:Tryz.prog.cellsOf 4=1:=by kernel_rfl
theorem aex:Opens enc Tryz.prog W base spare held 4 (fun b:Bool=>[.bool b]) fun _=>True:=acF Tryz.underlying4
theorem abW:Tryz.prog.cellsOf 111=3:=by kernel_rfl
theorem aeC:Opens enc Tryz.prog W base spare held 111 iJ.cells (fun _=>True):=fun fuel cs x h=>by
 obtain⟨xs,n,-,-,hcl,hxl,hf⟩:=DataW.trod_struct Tryz.underlying111 h
 rw[abW]at hcl
 have hxl:xs.length=3:=hxl
 obtain⟨n0,e0,g0⟩:=aaB (cs:=cs) (off:=0) (hf 0 _ rfl) (by omega) aaC aaE
 obtain⟨n1,e1,g1⟩:=aaB (off:=1) (hf 1 _ rfl) (by omega) aaC aaE
 obtain⟨n2,e2,g2⟩:=aaB (off:=2) (hf 2 _ rfl) (by omega) aaC aaE
 have t3:cs.drop 3=[]:=List.drop_eq_nil_of_le (by omega)
 have t2:=aay e2 t3
 have t1:=aay e1 t2
 have t0:=aay e0 t1
 rw[List.drop_zero]at t0
 refine⟨⟨n0,n1,n2⟩,by rw[t0];rfl,?_⟩
 trivial
theorem aeE:Tryz.prog.cellsOf 39=1:=by kernel_rfl
theorem aeF:Opens enc Tryz.prog W base spare held 39 acY.cells (acY.Good W 3 iJ.cells fun _=>True):=aaN Tryz.underlying39 abW (by decide) aeC
theorem aeG:Tryz.prog.cellsOf 38=1:=by kernel_rfl
theorem aeI:Tryz.prog.cellsOf 41=6:=by kernel_rfl
end
end Rel
end Go.Proofs.YtbemmjnjoabadaaGreatDoor
