/-
  TopArrival holds for every input: in one month alone, by arrival, who stands at the best price, and came first, is filled first.
-/
import Derived.Test.YtbaaheidifacaaaGreatQWArr
import Derived.ProofKit
import Derived.OpenShut
import Derived.ShutString
import Derived.ChangeOld
set_option linter.defProp false
set_option linter.unusedVariables false
set_option linter.unusedSimpArgs false
set_option maxRecDepth 100000
set_option maxHeartbeats 12800000
namespace Go.Proofs.YtbaaheidifacaaaGreat.topArrival
open Go.ChangeShapes Go.WideShapes Go.ChangeAt Go.RowKit
open Go.ChangeMaps (open_string shut_string)
theorem own:ownKnob Tryz.prog.godebug=none:=by kernel_rfl
theorem laidOut:laidOutB Tryz.prog=true:=by kernel_rfl
theorem lifted (os:Os) (started:os.Started) (H:Type) (enc:TypeId×Value->H):
  ReturnsInHanded {} Tryz.checked os 9 .any (Rows.topArrivalSpec.pre6 enc Tryz.prog Tryz.f9 Rows.topArrivalRow.domain false) (Rows.topArrivalSpec.post enc Tryz.prog Tryz.f9 false true false false):=by
 refine returnsInHanded_of_change (C:=Tryz.checked) own started (by kernel_rfl) Tryz.func9
  (ChangeSpec.witness6 (enc:=enc) (C:=Tryz.checked) false ⟨#[],#[.slice none 0 0, .slice none 0 0,Iz 0],[]⟩ 8 (by kernel_rfl) (by kernel_rfl) (by kernel_rfl) (by kernel_rfl)) ?_
 intro W base args ds gs before J hW hcnd _;have hval:∀(j:Nat) t v,Tryz.f9.params[j]?=some t->args[j]?=some v->Value.okWide Tryz.prog W .any base t v:=J;have a7:=hW;obtain⟨p,q,a4,hV,rfl,bh,bp⟩:=hW;have hA:DataW.TrodAll enc Tryz.prog W 0 (fun _=>true) true Tryz.f9.params.toList args.toList ds p:=a4;rw[Tryz.params9] at hA hval;obtain⟨v0,bt,d0,bE,p0,q0,a8,rfl,rfl,h0,r0⟩:=trodAll_cons hA;obtain⟨v1,bH,d1,bQ,p1,q1,rfl,rfl,rfl,h1,r1⟩:=trodAll_cons r0;obtain⟨v2,bR,d2,bU,p2,q2,rfl,rfl,rfl,h2,r2⟩:=trodAll_cons r1;obtain⟨rfl,rfl,rfl⟩:=trodAll_nil r2;obtain rfl:args=#[v0,v1,v2]:=by cases args;simp_all
 obtain⟨rfl,rfl⟩:=trodVars_none hV;obtain⟨a0,a5,O,rfl⟩:=okWide_slice Tryz.underlying22 (hval 0 22 v0 rfl rfl);have k0:=h0;have ba:∀x∈p0,x.block<W.heap.size:=by obtain⟨m,hm⟩:=k0;exact DataW.trod_lt m _ _ _ hm
 obtain⟨l0,bb,w0⟩:∃l:List Int,l.length=a5/\TO .i64 W a0 O l:=by
  obtain⟨fuel,hf⟩:=h0;rcases open_ints Tryz.underlying22 Tryz.underlying3 (by kernel_rfl) hf with⟨D,_⟩|⟨x,l,c,zs,D,_,hl,hm,hz,_,I,ay⟩
  ·simp[Value.cells] at D
   obtain⟨rfl,rfl,rfl⟩:=D;exact⟨[],rfl,Cells.nil _ _,af _,aB _,fun _ h=>by cases h⟩
  ·simp[Value.cells] at D
   obtain⟨rfl,rfl,rfl⟩:=D;exact TO.Wb hl hm (by simpa using hz) I ay
 subst bb;obtain⟨a1,a6,ax,rfl⟩:=okWide_slice Tryz.underlying22 (hval 1 22 v1 rfl rfl);have k1:=h1;have bc:∀x∈p1,x.block<W.heap.size:=by obtain⟨m,hm⟩:=k1;exact DataW.trod_lt m _ _ _ hm
 obtain⟨l1,bf,w1⟩:∃l:List Int,l.length=a6/\TO .i64 W a1 ax l:=by
  obtain⟨fuel,hf⟩:=h1;rcases open_ints Tryz.underlying22 Tryz.underlying3 (by kernel_rfl) hf with⟨D,_⟩|⟨x,l,c,zs,D,_,hl,hm,hz,_,I,ay⟩
  ·simp[Value.cells] at D
   obtain⟨rfl,rfl,rfl⟩:=D;exact⟨[],rfl,Cells.nil _ _,af _,aB _,fun _ h=>by cases h⟩
  ·simp[Value.cells] at D
   obtain⟨rfl,rfl,rfl⟩:=D;exact TO.Wb hl hm (by simpa using hz) I ay
 subst bf;obtain⟨a2,rfl,rfl,rfl,w2⟩:=open_int Tryz.underlying3 (hval 2 3 v2 rfl rfl) h2;clear a4 J;have a3:=ac7 a0 O l0 a1 ax l1 a2 W w0 w1 w2;refine a3.mono fun e W' ⟨he,jm⟩=>?_;subst he;exact⟨_,rfl,_,_,_,[],_,[],a7,trodAll_mk1 (shut_bool Tryz.underlying4 _),(trodAll_cons_mk (Below.trod laidOut (by kernel_rfl) (of_decide_eq_true (by kernel_rfl)) k0 jm ba) (trodAll_cons_mk (Below.trod laidOut (by kernel_rfl) (of_decide_eq_true (by kernel_rfl)) k1 jm bc) (trodAll_cons_mk (shut_int Tryz.underlying3 w2) trodAll_mk0))),rfl,jm.frame _,fun h=>by cases h⟩
theorem over:Rows.topArrivalRow.holds Tryz.pinned (OpenSpec.ofChange Rows.topArrivalSpec):=
 OpenClaim.holds_of_wide 9 Tryz.f9 rfl rfl rfl rfl rfl rfl rfl ⟨rfl,rfl,rfl,rfl,rfl⟩ rfl rfl rfl rfl rfl (by kernel_rfl) Tryz.func9 (by kernel_rfl)
  (of_decide_eq_true (by kernel_rfl)) (by unfold Func.isWrapper;first|(rw[if_pos (by decide+kernel)];kernel_rfl)|(rw[if_neg (by decide+kernel)];exact⟨rfl,rfl⟩))
  (fun os started H enc _=>lifted os started H enc)
theorem proved:Rows.TopArrivalSaid:=over
end Go.Proofs.YtbaaheidifacaaaGreat.topArrival
