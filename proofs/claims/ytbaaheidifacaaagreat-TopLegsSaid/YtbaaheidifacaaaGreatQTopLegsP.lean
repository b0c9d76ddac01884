/-
  TopLegs holds for every input: each trade of a spread has its two legs behind it.
-/
import Derived.Test.YtbaaheidifacaaaGreatQWLegs
import Derived.ProofKit
import Derived.OpenShut
import Derived.ShutString
import Derived.ChangeOld
set_option linter.defProp false
set_option linter.unusedVariables false
set_option linter.unusedSimpArgs false
set_option maxRecDepth 100000
set_option maxHeartbeats 12800000
namespace Go.Proofs.YtbaaheidifacaaaGreat.topLegs
open Go.ChangeShapes Go.WideShapes Go.ChangeAt Go.RowKit
open Go.ChangeMaps (open_string shut_string)
theorem own:ownKnob Tryz.prog.godebug=none:=by kernel_rfl
theorem laidOut:laidOutB Tryz.prog=true:=by kernel_rfl
theorem lifted (os:Os) (started:os.Started) (H:Type) (enc:TypeId×Value->H):
  ReturnsInHanded {} Tryz.checked os 3 .any (Rows.topLegsSpec.pre6 enc Tryz.prog Tryz.f3 Rows.topLegsRow.domain false) (Rows.topLegsSpec.post enc Tryz.prog Tryz.f3 false true false false):=by
 refine returnsInHanded_of_change (C:=Tryz.checked) own started (by kernel_rfl) Tryz.func3
  (ChangeSpec.witness6 (enc:=enc) (C:=Tryz.checked) false ⟨#[],#[.agg #[.string .empty, .slice none 0 0,Iz 0,Iz 0,Iz 0,Iz 0,Iz 0,Iz 0,Iz 0,Iz 0, .slice none 0 0], .slice none 0 0],[]⟩ 8 (by kernel_rfl) (by kernel_rfl) (by kernel_rfl) (by kernel_rfl)) ?_
 intro W base args ds gs before D hW hcnd _;have hval:∀(j:Nat) t v,Tryz.f3.params[j]?=some t->args[j]?=some v->Value.okWide Tryz.prog W .any base t v:=D;have a0:=hW;obtain⟨p,q,ax,hV,rfl,ba,bb⟩:=hW;have hA:DataW.TrodAll enc Tryz.prog W 0 (fun _=>true) true Tryz.f3.params.toList args.toList ds p:=ax;rw[Tryz.params3] at hA hval;obtain⟨v0,bc,d0,bf,p0,q0,a2,rfl,rfl,h0,r0⟩:=trodAll_cons hA;obtain⟨v1,bh,d1,bp,p1,q1,rfl,rfl,rfl,h1,r1⟩:=trodAll_cons r0;obtain⟨rfl,rfl,rfl⟩:=trodAll_nil r1;obtain rfl:args=#[v0,v1]:=by cases args;simp_all
 obtain⟨rfl,rfl⟩:=trodVars_none hV;obtain⟨a5,rfl, -⟩:=okWide_struct Tryz.underlying25 (hval 0 25 v0 rfl rfl);have k0:=h0;have a6:∀x∈p0,x.block<W.heap.size:=by obtain⟨m,hm⟩:=k0;exact DataW.trod_lt m _ _ _ hm
 obtain⟨s0,a7,w0⟩:∃s:kU,Value.agg a5=s.val/\s.Ok W:=by
  obtain⟨fuel,hf⟩:=h0;exact AI hf
 obtain⟨a1,J,O,rfl⟩:=okWide_slice Tryz.underlying26 (hval 1 26 v1 rfl rfl);have k1:=h1;have a8:∀x∈p1,x.block<W.heap.size:=by obtain⟨m,hm⟩:=k1;exact DataW.trod_lt m _ _ _ hm
 have w1:Commands W a1 J O:=by
  obtain⟨fuel,hf⟩:=h1;obtain⟨A',n',c',ay,ha⟩:=F6 Tryz.underlying26 Tryz.underlying35 (by kernel_rfl) (by kernel_rfl) (by decide) hf;simp[Value.cells] at ay;obtain⟨rfl,rfl,rfl⟩:=ay;exact zM ha Tryz.underlying35
 clear ax D;have I:=adX s0 a1 J O W w0 w1;rw[<-a7] at I;refine I.mono fun e W' ⟨he,jm⟩=>?_;subst he;exact⟨_,rfl,_,_,_,[],_,[],a0,trodAll_mk1 (shut_bool Tryz.underlying4 _),(trodAll_cons_mk (Below.trod laidOut (by kernel_rfl) (of_decide_eq_true (by kernel_rfl)) k0 jm a6) (trodAll_cons_mk (Below.trod laidOut (by kernel_rfl) (of_decide_eq_true (by kernel_rfl)) k1 jm a8) trodAll_mk0)),rfl,jm.frame _,fun h=>by cases h⟩
theorem over:Rows.topLegsRow.holds Tryz.pinned (OpenSpec.ofChange Rows.topLegsSpec):=
 OpenClaim.holds_of_wide 3 Tryz.f3 rfl rfl rfl rfl rfl rfl rfl ⟨rfl,rfl,rfl,rfl,rfl⟩ rfl rfl rfl rfl rfl (by kernel_rfl) Tryz.func3 (by kernel_rfl)
  (of_decide_eq_true (by kernel_rfl)) (by unfold Func.isWrapper;first|(rw[if_pos (by decide+kernel)];kernel_rfl)|(rw[if_neg (by decide+kernel)];exact⟨rfl,rfl⟩))
  (fun os started H enc _=>lifted os started H enc)
theorem proved:Rows.TopLegsSaid:=over
end Go.Proofs.YtbaaheidifacaaaGreat.topLegs
