/-
  The statement KnowGrows holds. The tables of package sum hold what the text lays.
-/
import Derived.Test.YtbemmjnjoabadaaGreatDoorXG
import Derived.Test.YtbemmjnjoabadaaGreatDoorK42
import Derived.Test.YtbemmjnjoabadaaGreatDoorK43
import Derived.Test.YtbemmjnjoabadaaGreatDoorGrowsW
import Derived.ChangeMaps5
import Derived.SizedLaws
import Derived.Test.YtbemmjnjoabadaaGreatDoorOpenCh
set_option linter.unusedVariables false
set_option linter.unusedSimpArgs false
set_option maxRecDepth 100000
namespace Go.Proofs.YtbemmjnjoabadaaGreatDoor
namespace knowGrows
open Go.ChangeShapes Go.WideShapes Go.ChangeAt Go.RowKit
open Go.ChangeMaps (open_string)
theorem aik{α:Type}{H:Type}{enc:TypeId×Value->H}{P:Program}{W:World}{r:Reach}{b0 base:Nat}{held:Bool}{t e:TypeId}{k:Nat}{f:α->List Value}{G:α->Prop}{v:Value}{d:DataW H}{p:List MemPlace}
 (ht:P.underlying t=some (.slice e)) (hO:Mem.Opens enc P W base (fun _=>true) held t Mem.acY.cells (Mem.acY.Good W k f G)) (hval:Value.okWide P W r b0 t v) (h:DataW.Trod enc P W base (fun _=>true) held t v d p):
 ∃(A:Option Addr) (c:Nat) (l:List α),v= .slice A l.length c/\l.length<=c/\c<=maxLen/\Mem.dS W A k f l/\∀a∈l,G a:=by
 obtain⟨A,n,c,rfl⟩:=okWide_slice ht hval
 obtain⟨fuel,hf⟩:=h
 obtain⟨s,hs,hg⟩:=hO fuel _ _ hf
 simp[Value.cells,Mem.acY.cells]at hs
 obtain⟨rfl,rfl,rfl⟩:=hs
 exact⟨s.A,s.c,s.l,rfl,hg.le,hg.cap,hg.rows,hg.all⟩
theorem laid_met(os:Os):laidMet Tryz.prog Rows.knowGrowsRow.laid ((Laid.laidWorld os #[.agg #[.string ⟨#[]⟩, .slice none 0 0, .slice none 0 0, .string ⟨#[]⟩, .int .i64 0, .bool false], .slice none 0 0, .slice none 0 0, .int .i64 0]).forCall (fun _ _=>0) ⟨#[],#[.agg #[.string ⟨#[]⟩, .slice none 0 0, .slice none 0 0, .string ⟨#[]⟩, .int .i64 0, .bool false], .slice none 0 0, .slice none 0 0, .int .i64 0],[]⟩).memory:=
 laidMet_of_run' 8 (by kernel_rfl) (by kernel_rfl)
theorem reads(os:Os){H:Type}(enc:TypeId×Value->H):∃places,DataW.whole enc Tryz.prog ((Laid.laidWorld os #[.agg #[.string ⟨#[]⟩, .slice none 0 0, .slice none 0 0, .string ⟨#[]⟩, .int .i64 0, .bool false], .slice none 0 0, .slice none 0 0, .int .i64 0]).forCall (fun _ _=>0) ⟨#[],#[.agg #[.string ⟨#[]⟩, .slice none 0 0, .slice none 0 0, .string ⟨#[]⟩, .int .i64 0, .bool false], .slice none 0 0, .slice none 0 0, .int .i64 0],[]⟩).memory Tryz.f5.params.toList Rows.knowGrowsSpec.vars false #[Value.agg #[.string ⟨#[]⟩, .slice none 0 0, .slice none 0 0, .string ⟨#[]⟩, .int .i64 0, .bool false], .slice none 0 0, .slice none 0 0, .int .i64 0].toList 8=some ([.agg [.lit (.string []), .nil, .nil, .lit (.string []), .lit (.int .i64 0), .lit (.bool false)], .nil, .nil, .lit (.int .i64 0)],[],places):=
 ⟨[],by kernel_rfl⟩
theorem contract(H:Type)(enc:TypeId×Value->H)(W:World)(base:Nat)(args:Array Value)(ds gs:List (DataW H))(before:List MemPlace)
 (hval:∀(j:Nat) t v,Tryz.f5.params[j]?=some t->args[j]?=some v->Value.okWide Tryz.prog W .any base t v)
 (hW:DataW.Whole enc Tryz.prog Tryz.f5.params.toList Rows.knowGrowsSpec.vars false W args.toList ds gs before) (hz:(DataW.weightsEach Tryz.prog (Tryz.f5.params.toList++(OpenSpec.ofChange Rows.knowGrowsSpec).bare.plain.varTypes Tryz.prog) (ds++gs)).all (·<=reachBytes)=true) (hL:laidMetH Tryz.prog Rows.knowGrowsRow.laid W):
 Calls Tryz.prog 5 args W fun e W'=>∃v,e= .returned v/\Rows.knowGrowsSpec.post enc Tryz.prog Tryz.f5 false true false false W args v W':=by
 have hW':=hW
 obtain⟨p,q,hA0,hV,rfl,hfz,hnd⟩:=hW
 have hA:DataW.TrodAll enc Tryz.prog W 0 (fun _=>true) true Tryz.f5.params.toList args.toList ds p:=hA0
 rw[Tryz.params5]at hA hval
 obtain⟨v0,vs0,d0,ds0,p0,q0,hargs,rfl,rfl,h0,r0⟩:=trodAll_cons hA
 obtain⟨v1,vs1,d1,ds1,p1,q1,rfl,rfl,rfl,h1,r1⟩:=trodAll_cons r0
 obtain⟨v2,vs2,d2,ds2,p2,q2,rfl,rfl,rfl,h2,r2⟩:=trodAll_cons r1
 obtain⟨v3,vs3,d3,ds3,p3,q3,rfl,rfl,rfl,h3,r3⟩:=trodAll_cons r2
 obtain⟨rfl,rfl,rfl⟩:=trodAll_nil r3
 obtain rfl:args= #[v0,v1,v2,v3]:=by cases args;simp_all
 obtain⟨rfl,rfl⟩:=trodVars_none hV
 obtain⟨k0,rfl,in0⟩:=Rel.ao5 (hval 0 41 v0 rfl rfl) h0
 obtain⟨A1,c1,l1,rfl,lc1,cm1,S1,b1⟩:=aik Tryz.underlying49 Item.afo (hval 1 49 v1 rfl rfl) h1
 obtain⟨A2,c2,l2,rfl,lc2,cm2,S2,b2⟩:=aik Tryz.underlying49 Item.afo (hval 2 49 v2 rfl rfl) h2
 obtain⟨a3,rfl,w3⟩:=Laid.azf Tryz.underlying3 (hval 3 3 v3 rfl rfl)
 clear hA0 hz
 refine(Rel.alm k0 A1 A2 c1 c2 l1 l2 a3 W (Laid.tab hL) in0 (Item.yQ S1) (Item.yQ S2) b1 b2 lc1 lc2 cm1 cm2).mono fun e W' ⟨he,hg⟩=> ?_
 subst he
 exact⟨_,rfl,Post.azg (tb:=4) Laid.laidOut (by kernel_rfl) (by kernel_rfl) (by kernel_rfl) (by kernel_rfl) Tryz.underlying4 hW' rfl rfl rfl hg⟩
theorem lifted(os:Os)(started:os.Started)(H:Type)(enc:TypeId×Value->H)(F:Stop.Interp):
 ReturnsInHanded {} Tryz.checked os 5 .any ((OpenSpec.ofChange Rows.knowGrowsSpec).preRow enc Tryz.prog Tryz.f5 Rows.knowGrowsRow.domain false Rows.knowGrowsRow.laid) (((OpenSpec.ofChange Rows.knowGrowsSpec).at F).post enc Tryz.prog Tryz.f5 false true false false):=by
 obtain⟨places,hx⟩:=reads os enc
 refine returnsInHanded_of_row (C:=Tryz.checked) (s:=OpenSpec.ofChange Rows.knowGrowsSpec) Laid.own started (by kernel_rfl) Tryz.func5
  (witness_row_at (enc:=enc) (C:=Tryz.checked) false (Laid.laidWorld os #[.agg #[.string ⟨#[]⟩, .slice none 0 0, .slice none 0 0, .string ⟨#[]⟩, .int .i64 0, .bool false], .slice none 0 0, .slice none 0 0, .int .i64 0]) #[.agg #[.string ⟨#[]⟩, .slice none 0 0, .slice none 0 0, .string ⟨#[]⟩, .int .i64 0, .bool false], .slice none 0 0, .slice none 0 0, .int .i64 0] rfl (by kernel_rfl) (by kernel_rfl) (by kernel_rfl)
    (OpenSpec.preRow_of_cond 8 hx (by kernel_rfl) (fun k hk=>by cases hk) (by kernel_rfl) (laid_met os))) ?_
 intro W base args ds gs before hval hW _ _ hz hL _ _
 exact contract H enc W base args ds gs before hval hW hz hL
theorem c10:(Rows.knowGrowsRow.inPlace==Tryz.prog.inPlace 5)=true:=by kernel_rfl
theorem c11:(Rows.knowGrowsRow.unfollowed==Tryz.prog.unfollowed 5)=true:=by kernel_rfl
theorem c12:(Rows.knowGrowsRow.recurses==Tryz.prog.recurses 5)=true:=by kernel_rfl
theorem c13:(Rows.knowGrowsRow.named==Tryz.prog.varsNamed 5)=true:=by kernel_rfl
theorem closed:joinedFacts Tryz.prog 5 Tryz.f5 (OpenSpec.ofChange Rows.knowGrowsSpec).bare Rows.knowGrowsRow=true:=by
 unfold joinedFacts
 rw[c10,c11,c12,c13]
 kernel_rfl
theorem said:Rows.KnowGrowsSaid:=
 OpenClaim.holds_of_cond 5 Tryz.f5 rfl rfl rfl rfl rfl rfl rfl ⟨rfl,rfl,rfl,rfl,rfl⟩ rfl rfl rfl rfl rfl (by kernel_rfl) Tryz.func5 closed
  (of_decide_eq_true (by kernel_rfl)) (by unfold Func.isWrapper;first|(rw[if_pos (by decide+kernel)];kernel_rfl)|(rw[if_neg (by decide+kernel)];exact⟨rfl,rfl⟩))
  (fun os started H enc _ F=>by rw[OpenClaim.pre_eq_preRow];exact lifted os started H enc F)
theorem plain(f:FuncId)(fn:Func)(hf:Tryz.pinned.checked.prog.funcNamed "agora/agoralaw24.KnowGrows" =some f)(hfn:Tryz.pinned.checked.prog.funcs[f]?=some fn):
 false=Tryz.pinned.checked.prog.looks []/\∀(j:Nat) t,fn.params[j]?=some t->Tryz.pinned.checked.prog.wantsStandIn t=false:=by
 obtain rfl:f=5:=Option.some.inj ((show Tryz.prog.funcNamed "agora/agoralaw24.KnowGrows" =some 5 by kernel_rfl).symm.trans hf)|>.symm
 obtain rfl:fn=Tryz.f5:=(Option.some.inj (Tryz.func5.symm.trans hfn)).symm
 refine⟨by kernel_rfl,fun j t ht=> ?_⟩
 rw[Tryz.params5]at ht
 have hm:=Array.mem_of_getElem? ht
 have hall:(#[41,49,49,3]:Array TypeId).all (fun t=> !Tryz.prog.wantsStandIn t)=true:=by kernel_rfl
 have hb:=(Array.all_eq_true_iff_forall_mem.mp hall) t hm
 show Tryz.prog.wantsStandIn t=false
 simpa using hb
theorem proved:Rows.KnowGrowsCardSaid:=
 Claim7.holds_tied_plain_at .later [] _ _ _ _ said (fun _ h=>by cases h) (by kernel_rfl) (fun _ h=>by cases h) knowGrows_row_tie rfl ⟨rfl,rfl⟩ (by kernel_rfl) rfl plain (by kernel_rfl)
#print axioms proved
end knowGrows
end Go.Proofs.YtbemmjnjoabadaaGreatDoor
