import Derived.Test.YtbaaheidifacaaaGreatQLawMorC3
set_option linter.defProp false
set_option linter.unusedVariables false
set_option linter.unusedSimpArgs false
set_option maxRecDepth 100000
set_option maxHeartbeats 12800000
namespace Go.Proofs.YtbaaheidifacaaaGreat
variable {P:PD} {l:List bN}
open Go.RowKit
def ac2 (d:Int) (ky:List UInt8) (y:bN):bN:={y with id:=y.id+d,ky:=ky}
def acY (d:Int) (r:ir):ir:={r with id:=r.id+d}
theorem adF (hR:P.gZ) {d:Int} (hd:0<=d/\d<=1073741824) {l':List bN} (h:Tl P l) (hl:l.length=l'.length) (hr:∀(i:Nat) (y y':bN),l[i]?=some y->l'[i]?=some y'->∃ky,y'=ac2 d ky y/\(ky=[]\/Cd ky=true)):(runM P (Mk.new P) l').2=(runM P (Mk.new P) l).2.map (acY d):=by
 obtain⟨T,D⟩:=Zn (⟨false,1,1,d⟩:Tf);have J:∀p,T.pr p=p:=fun p=>by unfold Tf.pr;rw[D];simp
 have O:∀p,T.sd p=p:=fun p=>by unfold Tf.sd;rw[D];simp
 have hb:T.b=1:=by rw[D]
 have hdd:T.d=d:=by rw[D]
 rw[Tf.law (T:=T) ⟨by rw[D];show(1:Int)<=1;omega,by rw[hb];omega⟩ (acy hR (by rw[D]) (by rw[D]) (.inl hb)) hR h (by rw[hb];omega) hl fun i y y' h1 h2=>?_]
 ·refine cJ fun r _=>?_
  unfold acY Tf.rep;rw[J,O,hb,hdd,qW,qW]
 ·obtain⟨ky,e,ax⟩:=hr i y y' h1 h2
  refine⟨ky,?_,?_⟩
  ·rw[e]
   unfold Tf.cmd ac2;rw[J,O,hb,hdd,qW,qW]
  obtain⟨hi,I⟩:=h.t i y h1;have ay:=I.Y8;have hp:=I.ag;rw[e];exact I.right hi hR ae I.side ⟨ae,ae⟩ (cA I.aw) I.least ax
theorem Tl.id (h:Tl P l) {r:ir} (hr:r∈(runM P (Mk.new P) l).2):∃c∈l,r.id=c.id:=by
 obtain⟨n,c,I,J⟩:=J4 hr;rcases WL J with D|D
 ·exact⟨c,aH I,D⟩
 ·exact h.used (h.su n _ D)
theorem Tl.Y8 (h:Tl P l) {c:bN} (hc:c∈l):1<=c.id/\c.id<=1001:=by
 obtain⟨i,hi,rfl⟩:=kv.1 hc;obtain⟨I,D⟩:=h.t i _ (aj hi);have:=D.Y8;omega
end Go.Proofs.YtbaaheidifacaaaGreat
