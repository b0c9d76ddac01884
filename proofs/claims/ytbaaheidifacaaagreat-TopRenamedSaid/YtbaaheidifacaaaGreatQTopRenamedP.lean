/-
  TopRenamed holds for every input: other IDs, and other labels, change nothing but the IDs that are reported.
-/
import Derived.Test.YtbaaheidifacaaaGreatQWRen
import Derived.ProofKit
import Derived.OpenShut
import Derived.ShutString
import Derived.ChangeOld
set_option linter.defProp false
set_option linter.unusedVariables false
set_option linter.unusedSimpArgs false
set_option maxRecDepth 100000
set_option maxHeartbeats 12800000
namespace Go.Proofs.YtbaaheidifacaaaGreat.topRenamed
open Go.ChangeShapes Go.WideShapes Go.ChangeAt Go.RowKit
open Go.ChangeMaps (open_string shut_string)
theorem own:ownKnob Tryz.prog.godebug=none:=by kernel_rfl
theorem laidOut:laidOutB Tryz.prog=true:=by kernel_rfl
theorem lifted (os:Os) (started:os.Started) (H:Type) (enc:TypeId×Value->H):
  ReturnsInHanded {} Tryz.checked os 8 .any (Rows.topRenamedSpec.pre6 enc Tryz.prog Tryz.f8 Rows.topRenamedRow.domain false) (Rows.topRenamedSpec.post enc Tryz.prog Tryz.f8 false true false false):=by
 refine returnsInHanded_of_change (C:=Tryz.checked) own started (by kernel_rfl) Tryz.func8
  (ChangeSpec.witness6 (enc:=enc) (C:=Tryz.checked) false ⟨#[],#[.agg #[.string .empty, .slice none 0 0,Iz 0,Iz 0,Iz 0,Iz 0,Iz 0,Iz 0,Iz 0,Iz 0, .slice none 0 0], .slice none 0 0,Iz 0, .slice none 0 0],[]⟩ 8 (by kernel_rfl) (by kernel_rfl) (by kernel_rfl) (by kernel_rfl)) ?_
 intro W base args ds gs before I hW hcnd _;have hval:∀(j:Nat) t v,Tryz.f8.params[j]?=some t->args[j]?=some v->Value.okWide Tryz.prog W .any base t v:=I;have a6:=hW;obtain⟨p,q,a4,hV,rfl,bp,bt⟩:=hW;have hA:DataW.TrodAll enc Tryz.prog W 0 (fun _=>true) true Tryz.f8.params.toList args.toList ds p:=a4;rw[Tryz.params8] at hA hval;obtain⟨v0,bE,d0,bH,p0,q0,a7,rfl,rfl,h0,r0⟩:=trodAll_cons hA;obtain⟨v1,bQ,d1,bR,p1,q1,rfl,rfl,rfl,h1,r1⟩:=trodAll_cons r0;obtain⟨v2,bU,d2,bV,p2,q2,rfl,rfl,rfl,h2,r2⟩:=trodAll_cons r1;obtain⟨v3,b0,d3,b2,p3,q3,rfl,rfl,rfl,h3,r3⟩:=trodAll_cons r2;obtain⟨rfl,rfl,rfl⟩:=trodAll_nil r3;obtain rfl:args=#[v0,v1,v2,v3]:=by cases args;simp_all
 obtain⟨rfl,rfl⟩:=trodVars_none hV;obtain⟨a8,rfl, -⟩:=okWide_struct Tryz.underlying25 (hval 0 25 v0 rfl rfl);have k0:=h0;have ba:∀x∈p0,x.block<W.heap.size:=by obtain⟨m,hm⟩:=k0;exact DataW.trod_lt m _ _ _ hm
 obtain⟨s0,bb,w0⟩:∃s:kU,Value.agg a8=s.val/\s.Ok W:=by
  obtain⟨fuel,hf⟩:=h0;exact AI hf
 obtain⟨a1,O,ax,rfl⟩:=okWide_slice Tryz.underlying26 (hval 1 26 v1 rfl rfl);have k1:=h1;have bc:∀x∈p1,x.block<W.heap.size:=by obtain⟨m,hm⟩:=k1;exact DataW.trod_lt m _ _ _ hm
 have w1:Commands W a1 O ax:=by
  obtain⟨fuel,hf⟩:=h1;obtain⟨A',n',c',D,ha⟩:=F6 Tryz.underlying26 Tryz.underlying35 (by kernel_rfl) (by kernel_rfl) (by decide) hf;simp[Value.cells] at D;obtain⟨rfl,rfl,rfl⟩:=D;exact zM ha Tryz.underlying35
 obtain⟨a2,rfl,rfl,rfl,w2⟩:=open_int Tryz.underlying2 (hval 2 2 v2 rfl rfl) h2;obtain⟨a3,ay,a5,rfl⟩:=okWide_slice Tryz.underlying53 (hval 3 53 v3 rfl rfl);have k3:=h3;have bf:∀x∈p3,x.block<W.heap.size:=by obtain⟨m,hm⟩:=k3;exact DataW.trod_lt m _ _ _ hm
 have w3:acV W a3 ay:=by
  obtain⟨fuel,hf⟩:=h3;rcases open_strings Tryz.underlying53 Tryz.underlying9 (by kernel_rfl) hf with⟨D,_⟩|⟨x,l,c,ss,D,_,hl,hm,bh,hx,a0,b3⟩
  ·simp[Value.cells] at D
   obtain⟨rfl,rfl,rfl⟩:=D;exact acV.nil _ _
  ·simp[Value.cells] at D
   obtain⟨rfl,rfl,rfl⟩:=D;exact acV.Wb hl (by simpa using bh) a0
 clear a4 I;have J:=ac6 s0 a1 O ax a2 a3 ay a5 W w0 w1 w2 w3;rw[<-bb] at J;refine J.mono fun e W' ⟨he,jm⟩=>?_;subst he;exact⟨_,rfl,_,_,_,[],_,[],a6,trodAll_mk1 (shut_bool Tryz.underlying4 _),(trodAll_cons_mk (Below.trod laidOut (by kernel_rfl) (of_decide_eq_true (by kernel_rfl)) k0 jm ba) (trodAll_cons_mk (Below.trod laidOut (by kernel_rfl) (of_decide_eq_true (by kernel_rfl)) k1 jm bc) (trodAll_cons_mk (shut_int Tryz.underlying2 w2) (trodAll_cons_mk (Below.trod laidOut (by kernel_rfl) (of_decide_eq_true (by kernel_rfl)) k3 jm bf) trodAll_mk0)))),rfl,jm.frame _,fun h=>by cases h⟩
theorem over:Rows.topRenamedRow.holds Tryz.pinned (OpenSpec.ofChange Rows.topRenamedSpec):=
 OpenClaim.holds_of_wide 8 Tryz.f8 rfl rfl rfl rfl rfl rfl rfl ⟨rfl,rfl,rfl,rfl,rfl⟩ rfl rfl rfl rfl rfl (by kernel_rfl) Tryz.func8 (by kernel_rfl)
  (of_decide_eq_true (by kernel_rfl)) (by unfold Func.isWrapper;first|(rw[if_pos (by decide+kernel)];kernel_rfl)|(rw[if_neg (by decide+kernel)];exact⟨rfl,rfl⟩))
  (fun os started H enc _=>lifted os started H enc)
theorem proved:Rows.TopRenamedSaid:=over
end Go.Proofs.YtbaaheidifacaaaGreat.topRenamed
