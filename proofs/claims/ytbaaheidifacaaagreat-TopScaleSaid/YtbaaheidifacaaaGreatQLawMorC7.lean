import Derived.Test.YtbaaheidifacaaaGreatQLawMorC3
set_option linter.defProp false
set_option linter.unusedVariables false
set_option linter.unusedSimpArgs false
set_option maxRecDepth 100000
set_option maxHeartbeats 12800000
namespace Go.Proofs.YtbaaheidifacaaaGreat
variable {P:PD} {l:List bN}
open Go.RowKit
def ZM (k:Int) (y:bN):bN:={y with aw:=k*y.aw,least:=k*y.least}
def Cc (k:Int) (r:ir):ir:={r with aw:=k*r.aw,left:=k*r.left}
def aax (k:Int):Tf:=⟨false,1,k,0⟩
theorem acy (h:P.gZ) {T:Tf} (hm:T.zx=false) (ha:T.a=1) (hf:T.b=1\/P.rule=1):T.Pr P P:=by
 have hn:0<P.n:=cA h.cnt;have D:∀p,T.pr p=p:=fun p=>by unfold Tf.pr;rw[hm,ha];simp
 have I:¬T.zx=true:=by rw[hm];simp
 refine⟨rfl,by rw[ha,qW],fun x=>?_,fun x=>?_,?_,?_,?_,?_,Int.le_of_lt h.lh,fun j=>(D _).symm,rfl,rfl,rfl,rfl,hf,fun x hx _=>?_,h.BO⟩
 ·rw[if_neg I,D]
 ·rw[if_neg I,D]
 ·unfold PD.lo;rw[if_pos hn]
 ·unfold PD.hi;rw[if_pos hn]
 ·unfold PD.lo;rw[if_pos hn]
 ·unfold PD.hi;rw[if_pos hn]
 ·unfold PD.lo PD.hi
  rw[if_neg ae,if_neg ae];exact⟨rfl,rfl⟩
theorem abK (hR:P.gZ) (ax:P.rule=1) {k:Int} (hk:1<=k/\k<=1000) (h:Tl P l):(runM P (Mk.new P) (l.map (ZM k))).2=(runM P (Mk.new P) l).2.map (Cc k):=by
 have I:∀p,(aax k).pr p=p:=fun p=>by unfold Tf.pr aax;simp
 have J:∀p,(aax k).sd p=p:=fun p=>by unfold Tf.sd aax;simp
 rw[Tf.law (T:=aax k) ⟨by show(1:Int)<=1;omega,hk.1⟩ (acy hR rfl rfl (.inr ax)) hR h (by show k*12<=1000000;omega) (by rw[br]) fun i y y' h1 O=>?_]
 ·refine cJ fun r _=>?_
  unfold Cc Tf.rep;rw[I,J];show(⟨r.kind,r.id+0,r.inst,r.side,r.ag,k*r.aw,k*r.left,r.fy⟩:ir)=_;rw[Hf]
 ·rw[bo,h1] at O
  injection O with O;refine⟨y.ky,?_,?_⟩
  ·rw[<-O]
   unfold Tf.cmd ZM;rw[I,J];show _=(⟨y.kind,y.id+0,y.inst,y.side,y.ag,k*y.aw,k*y.least,y.time,y.ky⟩:bN);rw[Hf]
  obtain⟨hi,D⟩:=h.t i y h1;have ay:=D.Y8;have hp:=D.ag;have hq:=D.aw;have hl:=D.least;have m1:1*1<=k*y.aw:=tA hk.1 hq.1 ae ae;have m2:k*y.aw<=1000*12:=tA hk.2 hq.2 ae ae;have m3:0<=k*y.least:=jG ae hl.1;have m4:k*y.least<=k*y.aw:=gh hl.2 ae;rw[<-O];exact D.right hi hR ae D.side ⟨ae,ae⟩ ae ⟨m3,m4⟩ (.inl D.ky)
end Go.Proofs.YtbaaheidifacaaaGreat
