/-
  TopReplaced holds for every input: a Replace that gives up its place is as a Cancel, and a Day of another ID behind it.
-/
import Derived.Test.YtbaaheidifacaaaGreatQWRep
import Derived.ProofKit
import Derived.OpenShut
import Derived.ShutString
import Derived.ChangeOld
set_option linter.defProp false
set_option linter.unusedVariables false
set_option linter.unusedSimpArgs false
set_option maxRecDepth 100000
set_option maxHeartbeats 12800000
namespace Go.Proofs.YtbaaheidifacaaaGreat.topReplaced
open Go.ChangeShapes Go.WideShapes Go.ChangeAt Go.RowKit
open Go.ChangeMaps (open_string shut_string)
theorem own:ownKnob Tryz.prog.godebug=none:=by kernel_rfl
theorem laidOut:laidOutB Tryz.prog=true:=by kernel_rfl
theorem lifted (os:Os) (started:os.Started) (H:Type) (enc:TypeId×Value->H):
  ReturnsInHanded {} Tryz.checked os 12 .any (Rows.topReplacedSpec.pre6 enc Tryz.prog Tryz.f12 Rows.topReplacedRow.domain false) (Rows.topReplacedSpec.post enc Tryz.prog Tryz.f12 false true false false):=by
 refine returnsInHanded_of_change (C:=Tryz.checked) own started (by kernel_rfl) Tryz.func12
  (ChangeSpec.witness6 (enc:=enc) (C:=Tryz.checked) false ⟨#[],#[.agg #[.string .empty, .slice none 0 0,Iz 0,Iz 0,Iz 0,Iz 0,Iz 0,Iz 0,Iz 0,Iz 0, .slice none 0 0], .slice none 0 0,Iz 0,Iz 0,Iz 0],[]⟩ 8 (by kernel_rfl) (by kernel_rfl) (by kernel_rfl) (by kernel_rfl)) ?_
 intro W base args ds gs before D hW hcnd _;have hval:∀(j:Nat) t v,Tryz.f12.params[j]?=some t->args[j]?=some v->Value.okWide Tryz.prog W .any base t v:=D;have a0:=hW;obtain⟨p,q,ax,hV,rfl,bb,bc⟩:=hW;have hA:DataW.TrodAll enc Tryz.prog W 0 (fun _=>true) true Tryz.f12.params.toList args.toList ds p:=ax;rw[Tryz.params12] at hA hval;obtain⟨v0,bf,d0,bh,p0,q0,a5,rfl,rfl,h0,r0⟩:=trodAll_cons hA;obtain⟨v1,bp,d1,bt,p1,q1,rfl,rfl,rfl,h1,r1⟩:=trodAll_cons r0;obtain⟨v2,bE,d2,bH,p2,q2,rfl,rfl,rfl,h2,r2⟩:=trodAll_cons r1;obtain⟨v3,bQ,d3,bR,p3,q3,rfl,rfl,rfl,h3,r3⟩:=trodAll_cons r2;obtain⟨v4,bU,d4,bV,p4,q4,rfl,rfl,rfl,h4,r4⟩:=trodAll_cons r3;obtain⟨rfl,rfl,rfl⟩:=trodAll_nil r4;obtain rfl:args=#[v0,v1,v2,v3,v4]:=by cases args;simp_all
 obtain⟨rfl,rfl⟩:=trodVars_none hV;obtain⟨a6,rfl, -⟩:=okWide_struct Tryz.underlying25 (hval 0 25 v0 rfl rfl);have k0:=h0;have a7:∀x∈p0,x.block<W.heap.size:=by obtain⟨m,hm⟩:=k0;exact DataW.trod_lt m _ _ _ hm
 obtain⟨s0,a8,w0⟩:∃s:kU,Value.agg a6=s.val/\s.Ok W:=by
  obtain⟨fuel,hf⟩:=h0;exact AI hf
 obtain⟨a1,J,O,rfl⟩:=okWide_slice Tryz.underlying26 (hval 1 26 v1 rfl rfl);have k1:=h1;have ba:∀x∈p1,x.block<W.heap.size:=by obtain⟨m,hm⟩:=k1;exact DataW.trod_lt m _ _ _ hm
 have w1:Commands W a1 J O:=by
  obtain⟨fuel,hf⟩:=h1;obtain⟨A',n',c',ay,ha⟩:=F6 Tryz.underlying26 Tryz.underlying35 (by kernel_rfl) (by kernel_rfl) (by decide) hf;simp[Value.cells] at ay;obtain⟨rfl,rfl,rfl⟩:=ay;exact zM ha Tryz.underlying35
 obtain⟨a2,rfl,rfl,rfl,w2⟩:=open_int Tryz.underlying2 (hval 2 2 v2 rfl rfl) h2;obtain⟨a3,rfl,rfl,rfl,w3⟩:=open_int Tryz.underlying2 (hval 3 2 v3 rfl rfl) h3;obtain⟨a4,rfl,rfl,rfl,w4⟩:=open_int Tryz.underlying2 (hval 4 2 v4 rfl rfl) h4;clear ax D;have I:=aah s0 a1 J O a2 a3 a4 W w0 w1 w2 w3 w4;rw[<-a8] at I;refine I.mono fun e W' ⟨he,jm⟩=>?_;subst he;exact⟨_,rfl,_,_,_,[],_,[],a0,trodAll_mk1 (shut_bool Tryz.underlying4 _),(trodAll_cons_mk (Below.trod laidOut (by kernel_rfl) (of_decide_eq_true (by kernel_rfl)) k0 jm a7) (trodAll_cons_mk (Below.trod laidOut (by kernel_rfl) (of_decide_eq_true (by kernel_rfl)) k1 jm ba) (trodAll_cons_mk (shut_int Tryz.underlying2 w2) (trodAll_cons_mk (shut_int Tryz.underlying2 w3) (trodAll_cons_mk (shut_int Tryz.underlying2 w4) trodAll_mk0))))),rfl,jm.frame _,fun h=>by cases h⟩
theorem over:Rows.topReplacedRow.holds Tryz.pinned (OpenSpec.ofChange Rows.topReplacedSpec):=
 OpenClaim.holds_of_wide 12 Tryz.f12 rfl rfl rfl rfl rfl rfl rfl ⟨rfl,rfl,rfl,rfl,rfl⟩ rfl rfl rfl rfl rfl (by kernel_rfl) Tryz.func12 (by kernel_rfl)
  (of_decide_eq_true (by kernel_rfl)) (by unfold Func.isWrapper;first|(rw[if_pos (by decide+kernel)];kernel_rfl)|(rw[if_neg (by decide+kernel)];exact⟨rfl,rfl⟩))
  (fun os started H enc _=>lifted os started H enc)
theorem proved:Rows.TopReplacedSaid:=over
end Go.Proofs.YtbaaheidifacaaaGreat.topReplaced
