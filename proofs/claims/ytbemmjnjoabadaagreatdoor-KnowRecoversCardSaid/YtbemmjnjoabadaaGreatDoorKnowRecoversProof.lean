/-
  The statement KnowRecovers holds. The tables of package sum hold what the text lays.
-/
import Derived.Test.YtbemmjnjoabadaaGreatDoorXV
import Derived.Test.YtbemmjnjoabadaaGreatDoorK42
import Derived.Test.YtbemmjnjoabadaaGreatDoorK43
import Derived.Test.YtbemmjnjoabadaaGreatDoorRecoversW
import Derived.ChangeMaps5
import Derived.SizedLaws
import Derived.Test.YtbemmjnjoabadaaGreatDoorOpenDeed
set_option linter.unusedVariables false
set_option linter.unusedSimpArgs false
set_option maxRecDepth 100000
namespace Go.Proofs.YtbemmjnjoabadaaGreatDoor
namespace knowRecovers
open Go.ChangeShapes Go.WideShapes Go.ChangeAt Go.RowKit
open Go.ChangeMaps (open_string)
theorem laid_met(os:Os):laidMet Tryz.prog Rows.knowRecoversRow.laid ((Laid.laidWorld os #[.slice none 0 0, .int .i64 0, .int .i64 0, .int .i64 0, .int .i64 0]).forCall (fun _ _=>0) ⟨#[],#[.slice none 0 0, .int .i64 0, .int .i64 0, .int .i64 0, .int .i64 0],[]⟩).memory:=
 laidMet_of_run' 8 (by kernel_rfl) (by kernel_rfl)
theorem reads(os:Os){H:Type}(enc:TypeId×Value->H):∃places,DataW.whole enc Tryz.prog ((Laid.laidWorld os #[.slice none 0 0, .int .i64 0, .int .i64 0, .int .i64 0, .int .i64 0]).forCall (fun _ _=>0) ⟨#[],#[.slice none 0 0, .int .i64 0, .int .i64 0, .int .i64 0, .int .i64 0],[]⟩).memory Tryz.f6.params.toList Rows.knowRecoversSpec.vars false #[Value.slice none 0 0, .int .i64 0, .int .i64 0, .int .i64 0, .int .i64 0].toList 8=some ([.nil, .lit (.int .i64 0), .lit (.int .i64 0), .lit (.int .i64 0), .lit (.int .i64 0)],[],places):=
 ⟨[],by kernel_rfl⟩
theorem contract(H:Type)(enc:TypeId×Value->H)(W:World)(base:Nat)(args:Array Value)(ds gs:List (DataW H))(before:List MemPlace)
 (hval:∀(j:Nat) t v,Tryz.f6.params[j]?=some t->args[j]?=some v->Value.okWide Tryz.prog W .any base t v)
 (hW:DataW.Whole enc Tryz.prog Tryz.f6.params.toList Rows.knowRecoversSpec.vars false W args.toList ds gs before) (hz:(DataW.weightsEach Tryz.prog (Tryz.f6.params.toList++(OpenSpec.ofChange Rows.knowRecoversSpec).bare.plain.varTypes Tryz.prog) (ds++gs)).all (·<=reachBytes)=true) (hL:laidMetH Tryz.prog Rows.knowRecoversRow.laid W):
 Calls Tryz.prog 6 args W fun e W'=>∃v,e= .returned v/\Rows.knowRecoversSpec.post enc Tryz.prog Tryz.f6 false true false false W args v W':=by
 have hW':=hW
 obtain⟨p,q,hA0,hV,rfl,hfz,hnd⟩:=hW
 have hA:DataW.TrodAll enc Tryz.prog W 0 (fun _=>true) true Tryz.f6.params.toList args.toList ds p:=hA0
 rw[Tryz.params6]at hA hval
 obtain⟨v0,vs0,d0,ds0,p0,q0,hargs,rfl,rfl,h0,r0⟩:=trodAll_cons hA
 obtain⟨v1,vs1,d1,ds1,p1,q1,rfl,rfl,rfl,h1,r1⟩:=trodAll_cons r0
 obtain⟨v2,vs2,d2,ds2,p2,q2,rfl,rfl,rfl,h2,r2⟩:=trodAll_cons r1
 obtain⟨v3,vs3,d3,ds3,p3,q3,rfl,rfl,rfl,h3,r3⟩:=trodAll_cons r2
 obtain⟨v4,vs4,d4,ds4,p4,q4,rfl,rfl,rfl,h4,r4⟩:=trodAll_cons r3
 obtain⟨rfl,rfl,rfl⟩:=trodAll_nil r4
 obtain rfl:args= #[v0,v1,v2,v3,v4]:=by cases args;simp_all
 obtain⟨rfl,rfl⟩:=trodVars_none hV
 obtain⟨A0,c0,l0,rfl,lc0,cm0,S0,b0⟩:=Rel.aAA hz (j:=0) rfl rfl (hval 0 22 v0 rfl rfl) h0
 obtain⟨a1,rfl,w1⟩:=Laid.azf Tryz.underlying3 (hval 1 3 v1 rfl rfl)
 obtain⟨a2,rfl,w2⟩:=Laid.azf Tryz.underlying3 (hval 2 3 v2 rfl rfl)
 obtain⟨a3,rfl,w3⟩:=Laid.azf Tryz.underlying3 (hval 3 3 v3 rfl rfl)
 obtain⟨a4,rfl,w4⟩:=Laid.azf Tryz.underlying3 (hval 4 3 v4 rfl rfl)
 clear hA0 hz
 refine(Rel.aAg A0 c0 l0 a1 a2 a3 a4 W (Laid.tab hL) S0 b0 (by omega) w1 w2 w3 w4).mono fun e W' ⟨he,hg⟩=> ?_
 subst he
 exact⟨_,rfl,Post.azg (tb:=4) Laid.laidOut (by kernel_rfl) (by kernel_rfl) (by kernel_rfl) (by kernel_rfl) Tryz.underlying4 hW' rfl rfl rfl hg⟩
theorem lifted(os:Os)(started:os.Started)(H:Type)(enc:TypeId×Value->H)(F:Stop.Interp):
 ReturnsInHanded {} Tryz.checked os 6 .any ((OpenSpec.ofChange Rows.knowRecoversSpec).preRow enc Tryz.prog Tryz.f6 Rows.knowRecoversRow.domain false Rows.knowRecoversRow.laid) (((OpenSpec.ofChange Rows.knowRecoversSpec).at F).post enc Tryz.prog Tryz.f6 false true false false):=by
 obtain⟨places,hx⟩:=reads os enc
 refine returnsInHanded_of_row (C:=Tryz.checked) (s:=OpenSpec.ofChange Rows.knowRecoversSpec) Laid.own started (by kernel_rfl) Tryz.func6
  (witness_row_at (enc:=enc) (C:=Tryz.checked) false (Laid.laidWorld os #[.slice none 0 0, .int .i64 0, .int .i64 0, .int .i64 0, .int .i64 0]) #[.slice none 0 0, .int .i64 0, .int .i64 0, .int .i64 0, .int .i64 0] rfl (by kernel_rfl) (by kernel_rfl) (by kernel_rfl)
    (OpenSpec.preRow_of_cond 8 hx (by kernel_rfl) (fun k hk=>by cases hk) (by kernel_rfl) (laid_met os))) ?_
 intro W base args ds gs before hval hW _ _ hz hL _ _
 exact contract H enc W base args ds gs before hval hW hz hL
theorem c10:(Rows.knowRecoversRow.inPlace==Tryz.prog.inPlace 6)=true:=by kernel_rfl
theorem c11:(Rows.knowRecoversRow.unfollowed==Tryz.prog.unfollowed 6)=true:=by kernel_rfl
theorem c12:(Rows.knowRecoversRow.recurses==Tryz.prog.recurses 6)=true:=by kernel_rfl
theorem c13:(Rows.knowRecoversRow.named==Tryz.prog.varsNamed 6)=true:=by kernel_rfl
theorem closed:joinedFacts Tryz.prog 6 Tryz.f6 (OpenSpec.ofChange Rows.knowRecoversSpec).bare Rows.knowRecoversRow=true:=by
 unfold joinedFacts
 rw[c10,c11,c12,c13]
 kernel_rfl
theorem said:Rows.KnowRecoversSaid:=
 OpenClaim.holds_of_cond 6 Tryz.f6 rfl rfl rfl rfl rfl rfl rfl ⟨rfl,rfl,rfl,rfl,rfl⟩ rfl rfl rfl rfl rfl (by kernel_rfl) Tryz.func6 closed
  (of_decide_eq_true (by kernel_rfl)) (by unfold Func.isWrapper;first|(rw[if_pos (by decide+kernel)];kernel_rfl)|(rw[if_neg (by decide+kernel)];exact⟨rfl,rfl⟩))
  (fun os started H enc _ F=>by rw[OpenClaim.pre_eq_preRow];exact lifted os started H enc F)
theorem plain(f:FuncId)(fn:Func)(hf:Tryz.pinned.checked.prog.funcNamed "agora/agoralaw24.KnowRecovers" =some f)(hfn:Tryz.pinned.checked.prog.funcs[f]?=some fn):
 false=Tryz.pinned.checked.prog.looks []/\∀(j:Nat) t,fn.params[j]?=some t->Tryz.pinned.checked.prog.wantsStandIn t=false:=by
 obtain rfl:f=6:=Option.some.inj ((show Tryz.prog.funcNamed "agora/agoralaw24.KnowRecovers" =some 6 by kernel_rfl).symm.trans hf)|>.symm
 obtain rfl:fn=Tryz.f6:=(Option.some.inj (Tryz.func6.symm.trans hfn)).symm
 refine⟨by kernel_rfl,fun j t ht=> ?_⟩
 rw[Tryz.params6]at ht
 have hm:=Array.mem_of_getElem? ht
 have hall:(#[22,3,3,3,3]:Array TypeId).all (fun t=> !Tryz.prog.wantsStandIn t)=true:=by kernel_rfl
 have hb:=(Array.all_eq_true_iff_forall_mem.mp hall) t hm
 show Tryz.prog.wantsStandIn t=false
 simpa using hb
theorem proved:Rows.KnowRecoversCardSaid:=
 Claim7.holds_tied_plain_at .later [] _ _ _ _ said (fun _ h=>by cases h) (by kernel_rfl) (fun _ h=>by cases h) knowRecovers_row_tie rfl ⟨rfl,rfl⟩ (by kernel_rfl) rfl plain (by kernel_rfl)
#print axioms proved
end knowRecovers
end Go.Proofs.YtbemmjnjoabadaaGreatDoor
