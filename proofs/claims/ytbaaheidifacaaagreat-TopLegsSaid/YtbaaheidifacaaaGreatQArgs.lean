import Derived.Test.YtbaaheidifacaaaGreatQBase
import Derived.Deep.Slices
import Derived.Deep.Fields
import Derived.ChangeSame
import Derived.ChangeSlices
set_option linter.defProp false
set_option linter.unusedVariables false
set_option linter.unusedSimpArgs false
set_option maxRecDepth 100000
set_option maxHeartbeats 12800000
namespace Go.Proofs.YtbaaheidifacaaaGreat
variable {cs:List Value} {e t:TypeId} {fuel:Nat} {v:Value}
open Go.RowKit Go.ChangeShapes Go.WideShapes Go.Deep
section
variable {H:Type} {enc:TypeId×Value→H} {P:Program} {w:World} {base:Nat} {spare:Nat→Bool} {held:Bool}
def Vq (enc:TypeId×Value→H) (P:Program) (w:World) (base:Nat) (spare:Nat→Bool) (held:Bool) (t:TypeId) (v:Value):Prop:=∃n y,DataW.trod enc P w base spare held n t [v]=some y
theorem Vq.int {k:IntKind} (h:Vq enc P w base spare held t v) (D:P.underlying t=some (.int k)):∃n,v= .int k n/\(Lit.int k n).wf=true:=by
 obtain⟨n,y,h⟩:=h;obtain⟨i,hv, -,hw⟩:=DataW.trod_int D h;exact⟨i,by simpa using hv,hw⟩
theorem Vq.string (h:Vq enc P w base spare held t v) (D:P.underlying t=some .string):∃s,v= .string s/\s.size<=maxLen:=by
 obtain⟨n,y,h⟩:=h;obtain⟨s,hv, -,hs⟩:=DataW.trod_string D h;exact⟨s,by simpa using hv,hs⟩
theorem Vq.ints {k:IntKind} (h:Vq enc P w base (fun _=>true) held t v) (ht:P.underlying t=some (.slice e)) (he:P.underlying e=some (.int k)) (hc:P.cellsOf e=1):∃A c l,v= .slice A (l:List Int).length c/\TO k w A c l:=by
 obtain⟨n,y,h⟩:=h;rcases open_ints ht he hc h with⟨D,_⟩|⟨x,l,c,zs,D,_,hl,hm,hz,_,I,J⟩
 ·exact⟨none,0,[],by simpa using D,Cells.nil _ _,af _,aB _,fun _ h=>by cases h⟩
 ·obtain⟨l',O,ha⟩:=TO.Wb hl hm (by simpa using hz) I J
  refine⟨some x,c,l',?_,ha⟩;rw[O];simpa using D
theorem Wh {fs:Array Field} {x:DataW H×List MemPlace} (ht:P.underlying t=some (.struct fs)) (D:oneCellFields P fs=true) (hC:P.cellsOf t=fs.size)
  (h:DataW.trod enc P w base spare held fuel t cs=some x):cs.length=fs.size/\∀(j:Nat) (f:Field),fs[j]?=some f->∃v,cs[j]?=some v/\Vq enc P w base spare held f.type v:=by
 obtain⟨ys,n, -, -,hlen,ax,hf⟩:=DataW.trod_struct ht h;refine⟨hlen.trans hC,fun j f J=>?_⟩;obtain⟨ho,hk⟩:=hone_of D j f J;have ay:j<fs.size:=(aU.1 J).1;have I:j<cs.length:=ae;have O:=hf j f J;rw[ho,hk,iB I,nB,QA] at O;exact⟨cs[j],aj I,n,ys[j]'ae,O.trans (aj ae)⟩
structure Xm (enc:TypeId×Value→H) (P:Program) (base:Nat) (held:Bool) (fs:Array Field) (w:World) (A:Option Addr) (n c:Nat):Prop where
 le:n≤c
 max:c≤maxLen
 at_:∀i,i<n→∃(b o:Nat) (vs:List Value),A=some ⟨b,o,none⟩∧b<w.heap.size∧vs.length=fs.size∧(∀(j:Nat) (v:Value),vs[j]?=some v→w.cell? ⟨b,o+(i*fs.size+j),none⟩=some v)∧
  ∀(j:Nat) (f:Field),fs[j]?=some f→∃v,vs[j]?=some v∧Vq enc P w base (fun _=>true) held f.type v
theorem F6 {fs:Array Field} {x:DataW H×List MemPlace} (ht:P.underlying t=some (.slice e)) (he:P.underlying e=some (.struct fs)) (O:oneCellFields P fs=true) (hC:P.cellsOf e=fs.size) (h0:0<fs.size)
  (h:DataW.trod enc P w base (fun _=>true) held fuel t cs=some x):∃A n c,cs=[.slice A n c]/\Xm enc P base held fs w A n c:=by
 rcases Go.Deep.open_slice ht h with⟨ax, -⟩|⟨a,len,cap,m,n,D,Pl,ax,hb,hl,hm,a6,hx,hi⟩
 ·exact⟨none,0,0,ax,af _,aB _,fun i hi=>ae⟩
 ·refine⟨some a,len,cap,ax,hl,hm,fun i bf=>?_⟩
  have a7:i<m:=by rw[a6];simp;omega
  obtain⟨a0,hc,a8⟩:=hi i a7;obtain⟨hlen,hf⟩:=Wh he O hC a8;rw[hC] at hc;obtain⟨-, -,ba⟩:=World.cells?_some hc;have J:∃b o,a=⟨b,o,none⟩:=by
   obtain⟨bh,a2,bb⟩:=hi 0 ae;obtain⟨-,ay⟩:=Wh he O hC bb;rw[hC] at a2;obtain⟨-, -,a5⟩:=World.cells?_some a2;have h1:=a5 0 h0;obtain⟨v,hv, -⟩:=ay 0 fs[0] (dY h0);rw[Go.Deep.add_add,hv,kp] at h1;exact Kl h1
  obtain⟨b,o,rfl⟩:=J;have I:∀(j:Nat) (v:Value),a0[j]?=some v->Cz w b (o+(i*fs.size+j)) v:=fun j v hj=>by
   have bc:j<fs.size:=hlen▸(az.1 hj).1;have h1:=ba j bc;rw[Go.Deep.add_add,Addr.add_lit,hj] at h1;exact h1
  refine⟨b,o,a0,rfl,?_,hlen,I,hf⟩;obtain⟨f,ay⟩:∃f,fs[0]?=some f:=⟨fs[0],dY h0⟩;obtain⟨v,hv, -⟩:=hf 0 f ay;exact kQ w _ (I 0 v hv)
end
end Go.Proofs.YtbaaheidifacaaaGreat
