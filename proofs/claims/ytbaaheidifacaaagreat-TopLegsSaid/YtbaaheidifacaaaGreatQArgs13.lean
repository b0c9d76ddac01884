import Derived.Test.YtbaaheidifacaaaGreatQPro
import Derived.Test.YtbaaheidifacaaaGreatQArgs
set_option linter.defProp false
set_option linter.unusedVariables false
set_option linter.unusedSimpArgs false
set_option maxRecDepth 100000
set_option maxHeartbeats 12800000
namespace Go.Proofs.YtbaaheidifacaaaGreat
variable {cs:Array Value}
open Go.RowKit Go.ChangeShapes Go.WideShapes Go.Deep
structure kU where
 pc:ByteArray
 ma:Option Addr
 mn:Nat
 mc:Nat
 ti:Int
 lo:Int
 hi:Int
 wi:Int
 ru:Int
 top:Int
 le:Int
 pa:Int
 sa:Option Addr
 sn:Nat
 sc:Nat
def kU.val (p:kU):Value:= .agg #[.string p.pc, .slice p.ma p.mn p.mc,Iz p.ti,Iz p.lo,Iz p.hi,Iz p.wi,Iz p.ru,Iz p.top,Iz p.le,Iz p.pa, .slice p.sa p.sn p.sc]
def kU.Ok (p:kU) (w:World):Prop:=p.mn≤p.mc∧p.mc≤maxLen
theorem AI {H:Type} {enc:TypeId×Value->H} {base:Nat} {held:Bool} {w:World} {fuel:Nat} {x:DataW H×List MemPlace}
  (h:DataW.trod enc Tryz.prog w base (fun _=>true) held fuel 25 cs.toList=some x):∃p:kU,Value.agg cs=p.val/\p.Ok w:=by
 obtain⟨hlen,hf⟩:=Wh Tryz.underlying25 (by kernel_rfl) (by kernel_rfl) h;obtain⟨v0,h0,f0⟩:=hf 0 _ rfl;obtain⟨v1,h1,f1⟩:=hf 1 _ rfl;obtain⟨v2,h2,f2⟩:=hf 2 _ rfl;obtain⟨v3,h3,f3⟩:=hf 3 _ rfl;obtain⟨v4,h4,f4⟩:=hf 4 _ rfl;obtain⟨v5,h5,f5⟩:=hf 5 _ rfl;obtain⟨v6,h6,f6⟩:=hf 6 _ rfl;obtain⟨v7,h7,f7⟩:=hf 7 _ rfl;obtain⟨v8,h8,f8⟩:=hf 8 _ rfl;obtain⟨v9,h9,f9⟩:=hf 9 _ rfl;obtain⟨v10,O,ax⟩:=hf 10 _ rfl;obtain⟨s0,rfl, -⟩:=f0.string Tryz.underlying9;obtain⟨A1,c1,l1,rfl,a1⟩:=f1.ints Tryz.underlying22 Tryz.underlying3 (by kernel_rfl);obtain⟨n2,rfl, -⟩:=f2.int Tryz.underlying2;obtain⟨n3,rfl, -⟩:=f3.int Tryz.underlying2;obtain⟨n4,rfl, -⟩:=f4.int Tryz.underlying2;obtain⟨n5,rfl, -⟩:=f5.int Tryz.underlying2;obtain⟨n6,rfl, -⟩:=f6.int Tryz.underlying3;obtain⟨n7,rfl, -⟩:=f7.int Tryz.underlying2;obtain⟨n8,rfl, -⟩:=f8.int Tryz.underlying2;obtain⟨n9,rfl, -⟩:=f9.int Tryz.underlying2;obtain⟨D,wJ,I,rfl,a0⟩:=ax.ints Tryz.underlying23 Tryz.underlying2 (by kernel_rfl);refine⟨⟨s0,A1,l1.length,c1,n2,n3,n4,n5,n6,n7,n8,n9,D,I.length,wJ⟩,?_,a1.le,a1.max⟩;have ay:cs.toList.length=11:=hlen;have J:cs.toList=[.string s0, .slice A1 l1.length c1,Iz n2,Iz n3,Iz n4,Iz n5,Iz n6,Iz n7,Iz n8,Iz n9, .slice D I.length wJ]:=by
  apply fA;intro i;rcases i with _|_|_|_|_|_|_|_|_|_|_|i
  ·exact h0
  ·exact h1
  ·exact h2
  ·exact h3
  ·exact h4
  ·exact h5
  ·exact h6
  ·exact h7
  ·exact h8
  ·exact h9
  ·exact O
  ·rw[cO ae];rfl
 obtain⟨cs⟩:=cs;simp only at J;subst J;rfl
end Go.Proofs.YtbaaheidifacaaaGreat
