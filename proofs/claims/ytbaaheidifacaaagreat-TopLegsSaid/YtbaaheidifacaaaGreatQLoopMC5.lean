import Derived.Test.YtbaaheidifacaaaGreatQDiff1
set_option linter.defProp false
set_option linter.unusedVariables false
set_option linter.unusedSimpArgs false
set_option maxRecDepth 100000
set_option maxHeartbeats 12800000
namespace Go.Proofs.YtbaaheidifacaaaGreat
variable {L l:List ir} {w:World}
open Go.RowKit
theorem Lv.lower {B:Nat} {w':World} (h:Lv (fun j=> ¬j<B) w w') (D:B<=w.heap.size):Below B w w':=h.below (fun k I=>ae) D
def DoL (B:Nat) (w:World) (g:Nat) (P:PD) (C:zt) (R:Nat→Prop) (m:Mk) (c:bN) (i:Nat) (e:Ending) (w':World):Prop:=
 ∃A cp Gs',e= .returned (.slice A (pC P m c).2.length cp)∧Cells w' A (fC (pC P m c).2)∧(pC P m c).2.length≤18036003∧MkL B w' g P C Gs' R (pC P m c).1 (i+1)∧Below B w w'∧w.heap.size≤w'.heap.size
theorem ad2 (B g:Nat) (P:PD) (m:Mk) (Gs R:Nat->Prop) (C:zt) (c:bN) (i:Nat) (w:World) (h:MkL B w g P C Gs R m i) (I:B<=w.heap.size) (hi:i<1000000) (hq:c.aw<=12000) (J:c.ky.length<=9223372036854775807):
  Wz 16 #[Pz g,c.val] w (DoL B w g P C R m c i):=by
 refine(abc (fun j=>j<B) g P m Gs R C c i w h (fun j hj=>ae) hi hq J).mono ?_;rintro e w2⟨A1,cp,Gs',rfl,h1,h2,h3,D⟩;exact⟨A1,cp,Gs',rfl,dP.O h1,h2,h3,D.lower I,D.size⟩
theorem ad9 {P:PD} (h:jf P L):∀{j:Nat} {r:ir},L[j]?=some r->r.kind=3->(P.n:Int)<=r.inst->∃a b,L[j+1]?=some a/\L[j+2]?=some b/\Yf P r a b:=by
 induction h with
 |nil=>intro j r hr;simp at hr
 |one y l hb D _ J=>
  intro j r hr O hn
  cases j with
  |zero=>
   obtain rfl:=bW hr;rcases D with D|D
   ·exact absurd O D
   ·omega
  |succ j=>exact J hr O hn
 |three y a b l h1 h2 O I _ J=>
  intro j r hr D hn
  match j,hr with
  |0,hr=>obtain rfl:=bW hr;exact⟨a,b,rfl,rfl,I⟩
  |1,hr=>
   obtain rfl:=bW hr;have:=I.ai;have:=I.an;omega
  |2,hr=>
   obtain rfl:=bW hr;have:=I.bi;have:=I.bn;omega
  |j+3,hr=>exact J hr D hn
theorem ad0 (P:PD):P.n<=P.count:=Nat.le_add_right _ _
theorem ad1 {b o:Nat} (h:Cells w (some ⟨b,o,none⟩) (fC l)) {m:Nat} {r:ir} (hm:l[m]?=some r):b<w.heap.size/\∀j v,j<8->r.cells[j]?=some v->w.cell? ⟨b,o+(m*8+j),none⟩=some v:=by
 obtain⟨I,J,q,hA,D,hq,hc⟩:=Tg h (yZ hm);injection hA with hA;injection hA with e1 e2;subst e1;subst e2;obtain rfl:q=r:=bW (hq.symm.trans hm);exact⟨D,hc⟩
end Go.Proofs.YtbaaheidifacaaaGreat
