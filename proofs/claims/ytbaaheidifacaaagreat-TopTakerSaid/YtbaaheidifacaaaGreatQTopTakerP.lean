/-
  TopTaker holds for every input: who takes with any limit is told just what could be had.
-/
import Derived.Test.YtbaaheidifacaaaGreatQWTak
import Derived.ProofKit
import Derived.OpenShut
import Derived.ShutString
import Derived.ChangeOld
set_option linter.defProp false
set_option linter.unusedVariables false
set_option linter.unusedSimpArgs false
set_option maxRecDepth 100000
set_option maxHeartbeats 12800000
namespace Go.Proofs.YtbaaheidifacaaaGreat.topTaker
open Go.ChangeShapes Go.WideShapes Go.ChangeAt Go.RowKit
open Go.ChangeMaps (open_string shut_string)
theorem own:ownKnob Tryz.prog.godebug=none:=by kernel_rfl
theorem laidOut:laidOutB Tryz.prog=true:=by kernel_rfl
theorem lifted (os:Os) (started:os.Started) (H:Type) (enc:TypeId×Value->H):
  ReturnsInHanded {} Tryz.checked os 13 .any (Rows.topTakerSpec.pre6 enc Tryz.prog Tryz.f13 Rows.topTakerRow.domain false) (Rows.topTakerSpec.post enc Tryz.prog Tryz.f13 false true false false):=by
 refine returnsInHanded_of_change (C:=Tryz.checked) own started (by kernel_rfl) Tryz.func13
  (ChangeSpec.witness6 (enc:=enc) (C:=Tryz.checked) false ⟨#[],#[.agg #[.string .empty, .slice none 0 0,Iz 0,Iz 0,Iz 0,Iz 0,Iz 0,Iz 0,Iz 0,Iz 0, .slice none 0 0], .slice none 0 0, .agg #[Iz 0,Iz 0,Iz 0,Iz 0,Iz 0,Iz 0,Iz 0,Iz 0, .string .empty]],[]⟩ 8 (by kernel_rfl) (by kernel_rfl) (by kernel_rfl) (by kernel_rfl)) ?_
 intro W base args ds gs before I hW hcnd _;have hval:∀(j:Nat) t v,Tryz.f13.params[j]?=some t->args[j]?=some v->Value.okWide Tryz.prog W .any base t v:=I;have a0:=hW;obtain⟨p,q,ax,hV,rfl,bb,bc⟩:=hW;have hA:DataW.TrodAll enc Tryz.prog W 0 (fun _=>true) true Tryz.f13.params.toList args.toList ds p:=ax;rw[Tryz.params13] at hA hval;obtain⟨v0,bf,d0,bh,p0,q0,a2,rfl,rfl,h0,r0⟩:=trodAll_cons hA;obtain⟨v1,bp,d1,bt,p1,q1,rfl,rfl,rfl,h1,r1⟩:=trodAll_cons r0;obtain⟨v2,bE,d2,bH,p2,q2,rfl,rfl,rfl,h2,r2⟩:=trodAll_cons r1;obtain⟨rfl,rfl,rfl⟩:=trodAll_nil r2;obtain rfl:args=#[v0,v1,v2]:=by cases args;simp_all
 obtain⟨rfl,rfl⟩:=trodVars_none hV;obtain⟨a3,rfl, -⟩:=okWide_struct Tryz.underlying25 (hval 0 25 v0 rfl rfl);have k0:=h0;have a4:∀x∈p0,x.block<W.heap.size:=by obtain⟨m,hm⟩:=k0;exact DataW.trod_lt m _ _ _ hm
 obtain⟨s0,a5,w0⟩:∃s:kU,Value.agg a3=s.val/\s.Ok W:=by
  obtain⟨fuel,hf⟩:=h0;exact AI hf
 obtain⟨a1,J,O,rfl⟩:=okWide_slice Tryz.underlying26 (hval 1 26 v1 rfl rfl);have k1:=h1;have a6:∀x∈p1,x.block<W.heap.size:=by obtain⟨m,hm⟩:=k1;exact DataW.trod_lt m _ _ _ hm
 have w1:Commands W a1 J O:=by
  obtain⟨fuel,hf⟩:=h1;obtain⟨A',n',c',ay,ha⟩:=F6 Tryz.underlying26 Tryz.underlying35 (by kernel_rfl) (by kernel_rfl) (by decide) hf;simp[Value.cells] at ay;obtain⟨rfl,rfl,rfl⟩:=ay;exact zM ha Tryz.underlying35
 obtain⟨a7,rfl, -⟩:=okWide_struct Tryz.underlying35 (hval 2 35 v2 rfl rfl);have k2:=h2;have a8:∀x∈p2,x.block<W.heap.size:=by obtain⟨m,hm⟩:=k2;exact DataW.trod_lt m _ _ _ hm
 obtain⟨s2,ba,w2⟩:∃s:aav,Value.agg a7=s.val/\s.Ok W:=by
  obtain⟨fuel,hf⟩:=h2;exact aaw hf
 clear ax I;have D:=aaJ s0 a1 J O s2 W w0 w1 w2;rw[<-a5] at D;rw[<-ba] at D;refine D.mono fun e W' ⟨he,jm⟩=>?_;subst he;exact⟨_,rfl,_,_,_,[],_,[],a0,trodAll_mk1 (shut_bool Tryz.underlying4 _),(trodAll_cons_mk (Below.trod laidOut (by kernel_rfl) (of_decide_eq_true (by kernel_rfl)) k0 jm a4) (trodAll_cons_mk (Below.trod laidOut (by kernel_rfl) (of_decide_eq_true (by kernel_rfl)) k1 jm a6) (trodAll_cons_mk (Below.trod laidOut (by kernel_rfl) (of_decide_eq_true (by kernel_rfl)) k2 jm a8) trodAll_mk0))),rfl,jm.frame _,fun h=>by cases h⟩
theorem over:Rows.topTakerRow.holds Tryz.pinned (OpenSpec.ofChange Rows.topTakerSpec):=
 OpenClaim.holds_of_wide 13 Tryz.f13 rfl rfl rfl rfl rfl rfl rfl ⟨rfl,rfl,rfl,rfl,rfl⟩ rfl rfl rfl rfl rfl (by kernel_rfl) Tryz.func13 (by kernel_rfl)
  (of_decide_eq_true (by kernel_rfl)) (by unfold Func.isWrapper;first|(rw[if_pos (by decide+kernel)];kernel_rfl)|(rw[if_neg (by decide+kernel)];exact⟨rfl,rfl⟩))
  (fun os started H enc _=>lifted os started H enc)
theorem proved:Rows.TopTakerSaid:=over
end Go.Proofs.YtbaaheidifacaaaGreat.topTaker
