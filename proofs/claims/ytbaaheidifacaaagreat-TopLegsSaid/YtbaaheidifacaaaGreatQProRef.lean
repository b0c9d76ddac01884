import Derived.Test.YtbaaheidifacaaaGreatQFifo
import Derived.Test.YtbaaheidifacaaaGreatQInts
import Derived.Test.YtbaaheidifacaaaGreatQGrow
import Derived.Deep.CutBlock
import Derived.Deep.DeepCutAuto
set_option linter.defProp false
set_option linter.unusedVariables false
set_option linter.unusedSimpArgs false
set_option maxRecDepth 100000
set_option maxHeartbeats 12800000
namespace Go.Proofs.YtbaaheidifacaaaGreat
variable {B:Nat} {l:List Int} {q:Int} {w:World} {xs:List Value}
open Go.RowKit
theorem Hr {wr:World} {b o:Nat} {x:Value} (D:Below B w wr) (hs:B<=w.heap.size) (I:b<B) (hc:w.cell? ⟨b,o,none⟩=some x):∀u,Below B wr.drew u->u.cell? ⟨b,o,none⟩=some x:=fun u hu=>by
 have J:Below B wr u:=⟨hu.os,hu.tape,hu.output,hu.size,hu.block⟩;exact((D.trans J).cell (p:=⟨b,o,none⟩) I).trans hc
theorem Kt (D:B<=w.heap.size) (o:Obj):Below B w.drew (w.alloc o).drew:=by
 have h:=(aa B w).alloc D o;exact⟨h.os,h.tape,h.output,h.size,h.block⟩
theorem F5 {base:Nat} {e:TypeId} {size:Nat} {v:Value} {n:Nat} (h:w.ownsRow base e size v n xs):w.drew.ownsRow base e size v n xs:=h
theorem Hs {x all:Int} (hx:0<=x) (I:x<=1000000) (hq:0<=q) (D:q<=all) (ha:1<=all):pH x q all= .returned (.tuple #[Iz (x*q / all), .bool true]):=by
 have h:=rX (least:=1) hx hq D ae;have J:0<=x*q / all:=yh (jG hx hq) ae;have O:x*q / all<=x:=by
  unfold MZ at h
  split at h
  ·exact h.2.1
  ·omega
 rw[tF ae,told,FY (sg ae),sg ae]
theorem Ht {least:Int} (O:l.length<=1000) (I:∀n∈l,0<=n/\n<=1000000) (hq:0<=q) (D:q<=l.sum) (J:1<=least):
  (∀n∈dQ l.sum q least l,0<=n/\n<=1000000)/\(∀k,0<=((dQ l.sum q least l).take k).sum/\((dQ l.sum q least l).take k).sum<=1000000000):=by
 have a:∀n∈dQ l.sum q least l,0<=n/\n<=1000000:=by
  intro n hn;simp only[dQ,aV] at hn;obtain⟨m,hm,rfl⟩:=hn;have:=I m hm;have:=rX (all:=l.sum) this.1 hq D J;omega
 refine⟨a,fun k=>?_⟩;have h2:=xg ((dQ l.sum q least l).take k) (fun n hn=>a n (mT hn));have h3:((dQ l.sum q least l).take k).length<=1000:=by rw[bJ,dU];omega
 omega
theorem Eh {all least:Int} {k:Nat} {x:Int} (h:l[k]?=some x):(dQ all q least l)[k]?=some (MZ all q least x):=by simp[dQ,h]
end Go.Proofs.YtbaaheidifacaaaGreat
