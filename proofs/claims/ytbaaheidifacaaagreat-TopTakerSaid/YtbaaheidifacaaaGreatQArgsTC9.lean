import Derived.Test.YtbaaheidifacaaaGreatQLawLegsC2
import Derived.Test.YtbaaheidifacaaaGreatQRunXC1
import Derived.Test.YtbaaheidifacaaaGreatQArgsT
set_option linter.defProp false
set_option linter.unusedVariables false
set_option linter.unusedSimpArgs false
set_option maxRecDepth 100000
set_option maxHeartbeats 12800000
namespace Go.Proofs.YtbaaheidifacaaaGreat
variable {cs:Array Value}
open Go.RowKit Go.ChangeShapes Go.WideShapes Go.Deep
abbrev aav:=bN
def bN.Ok (c:bN) (w:World):Prop:=c.wf
theorem ZX {n:Int} (h:(Lit.int .i64 n).wf=true):Ke n:=V9 h
theorem aaw {H:Type} {enc:TypeId×Value->H} {base:Nat} {held:Bool} {w:World} {fuel:Nat} {x:DataW H×List MemPlace}
  (h:DataW.trod enc Tryz.prog w base (fun _=>true) held fuel 35 cs.toList=some x):∃p:aav,Value.agg cs=p.val/\p.Ok w:=by
 obtain⟨hlen,hf⟩:=Wh Tryz.underlying35 (by kernel_rfl) (by kernel_rfl) h;obtain⟨v0,h0,f0⟩:=hf 0 _ rfl;obtain⟨v1,h1,f1⟩:=hf 1 _ rfl;obtain⟨v2,h2,f2⟩:=hf 2 _ rfl;obtain⟨v3,h3,f3⟩:=hf 3 _ rfl;obtain⟨v4,h4,f4⟩:=hf 4 _ rfl;obtain⟨v5,h5,f5⟩:=hf 5 _ rfl;obtain⟨v6,h6,f6⟩:=hf 6 _ rfl;obtain⟨v7,h7,f7⟩:=hf 7 _ rfl;obtain⟨v8,h8,f8⟩:=hf 8 _ rfl;obtain⟨n0,rfl,w0⟩:=f0.int Tryz.underlying3;obtain⟨n1,rfl,w1⟩:=f1.int Tryz.underlying2;obtain⟨n2,rfl,w2⟩:=f2.int Tryz.underlying3;obtain⟨J,rfl,w3⟩:=f3.int Tryz.underlying3;obtain⟨O,rfl,w4⟩:=f4.int Tryz.underlying2;obtain⟨n5,rfl,w5⟩:=f5.int Tryz.underlying2;obtain⟨n6,rfl,w6⟩:=f6.int Tryz.underlying2;obtain⟨n7,rfl,w7⟩:=f7.int Tryz.underlying3;obtain⟨s8,rfl,I⟩:=f8.string Tryz.underlying9;refine⟨⟨n0,n1,n2,J,O,n5,n6,n7,s8.data.toList⟩,?_,⟨ZX w0,ZX w1,ZX w2,ZX w3,ZX w4,ZX w5,ZX w6,ZX w7,I⟩⟩;have D:cs.toList=[Iz n0,Iz n1,Iz n2,Iz J,Iz O,Iz n5,Iz n6,Iz n7, .string (str s8.data.toList)]:=by
  rw[RT];apply fA;intro i;rcases i with _|_|_|_|_|_|_|_|_|i
  ·exact h0
  ·exact h1
  ·exact h2
  ·exact h3
  ·exact h4
  ·exact h5
  ·exact h6
  ·exact h7
  ·exact h8
  ·rw[cO (by have:cs.toList.length=9:=hlen;omega)];rfl
 obtain⟨cs⟩:=cs;simp only at D;subst D;rfl
end Go.Proofs.YtbaaheidifacaaaGreat
