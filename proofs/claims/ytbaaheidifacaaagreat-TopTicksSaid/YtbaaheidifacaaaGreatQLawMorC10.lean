import Derived.Test.YtbaaheidifacaaaGreatQLawMorC3
set_option linter.defProp false
set_option linter.unusedVariables false
set_option linter.unusedSimpArgs false
set_option maxRecDepth 100000
set_option maxHeartbeats 12800000
namespace Go.Proofs.YtbaaheidifacaaaGreat
variable {P:PD} {k:Int} {l:List bN}
open Go.RowKit
def Z3 (k:Int) (P:PD):PD:={P with tick:=k*P.tick,low:=k*P.low,high:=k*P.high,wide:=k*P.wide,settle:=P.settle.map (fun x=>k*x)}
def ZY (k:Int) (y:bN):bN:={y with ag:=k*y.ag}
def ZL (k:Int) (r:ir):ir:={r with ag:=k*r.ag}
theorem aba (h:P.gZ) (J:1<=k/\k<=10) (O:P.tick<=10) (D: -1000<=P.low) (I:P.high<=1000):(Z3 k P).gZ:=by
 have h1:=h.I7;have h2:=h.zl;have h3:=h.lh;have h4:=h.E5;have h5:=h.BO;have h6:=h.EK;have m1:k*P.tick<=10*10:=tA J.2 O ae ae;have m2:1*1<=k*P.tick:=tA J.1 h5 ae ae;have m3:k* -1000<=k*P.low:=gh D ae;have m4:k*P.high<=k*1000:=gh I ae;have m5:k*P.low<k*P.high:=Int.mul_lt_mul_of_pos_left h3 ae;have m6:0<=k*P.wide:=jG ae h6;have m7:k*P.wide<=k*(P.high - P.low):=gh h4 ae;rw[ku] at m7;exact⟨h.code,h.n2,h.n6,h.YJ,h.inc,by show 1<=k*P.tick;omega,by show k*P.tick<=1000;omega,Int.mul_dvd_mul_left _ h.Uh,Int.mul_dvd_mul_left _ h.Nr,Int.mul_dvd_mul_left _ h.RF,
  fun x hx=>by
   obtain⟨y,hy,rfl⟩:=aV.1 hx;obtain⟨a,b,c⟩:=h.KY y hy;exact⟨Int.mul_dvd_mul_left _ a,gh b ae,gh c ae⟩,
  by show(P.settle.map _).length=_;rw[br];exact h.vI,by show -1000000<=k*P.low;omega,by show k*P.low<k*P.high;omega,by show k*P.high<=1000000;omega,m6,by show k*P.wide<=k*P.high - k*P.low;omega,
  h.I8,h.I9,h.yB,h.Wt,h.BP,h.KZ,h.Ja,h.Jb⟩
def Z4 (k:Int):Tf:=⟨false,k,1,0⟩
theorem abW (D:1<=k):(Z4 k).Ok:=⟨D,by show(1:Int)<=1;omega⟩
theorem ZZ (k p:Int):(Z4 k).pr p=k*p:=by unfold Tf.pr Z4;simp
theorem abX (h:P.gZ) (k:Int):(Z4 k).Pr P (Z3 k P):=by
 have hn:0<P.n:=cA h.cnt;have hf:¬(Z4 k).zx=true:=by simp[Z4]
 have D:∀x,(Z3 k P).lo x=k*P.lo x:=fun x=>by
  unfold PD.lo;show(if x<P.n then k*P.low else -(k*P.wide))=_
  split
  ·rfl
  ·rw[Int.mul_neg]
 have I:∀x,(Z3 k P).hi x=k*P.hi x:=fun x=>by
  unfold PD.hi;show(if x<P.n then k*P.high else k*P.wide)=_
  split<;>rfl
 refine⟨rfl,rfl,fun x=>?_,fun x=>?_,?_,?_,?_,?_,Int.le_of_lt h.lh,fun j=>?_,rfl,rfl,rfl,rfl, .inl rfl,fun x hx _=>?_,h.BO⟩
 ·rw[if_neg hf,D,ZZ]
 ·rw[if_neg hf,I,ZZ]
 ·rw[D];show k*P.low=k*P.lo 0;unfold PD.lo;rw[if_pos hn]
 ·rw[I];show k*P.high=k*P.hi 0;unfold PD.hi;rw[if_pos hn]
 ·unfold PD.lo;rw[if_pos hn]
 ·unfold PD.hi;rw[if_pos hn]
 ·rw[ZZ]
  show(P.settle.map _).getD j 0=_;rw[jI,jI,bo]
  cases P.settle[j]? <;>simp
 ·unfold PD.lo PD.hi
  rw[if_neg ae,if_neg ae];exact⟨rfl,rfl⟩
theorem abb (k s:Int):(Z4 k).sd s=s:=by unfold Tf.sd Z4;simp
theorem abI (k:Int) (y:bN):(Z4 k).cmd y y.ky=ZY k y:=by
 unfold Tf.cmd ZY;rw[ZZ,abb];show(⟨y.kind,y.id+0,y.inst,y.side,k*y.ag,1*y.aw,1*y.least,y.time,y.ky⟩:bN)=_;rw[Hf,qW,qW]
theorem abJ (k:Int) (r:ir):(Z4 k).rep r=ZL k r:=by
 unfold ZL Tf.rep;rw[ZZ,abb];show(⟨r.kind,r.id+0,r.inst,r.side,k*r.ag,1*r.aw,1*r.left,r.fy⟩:ir)=_;rw[Hf,qW,qW]
theorem abY (hR:P.gZ) (O:1<=k/\k<=10) (h:Tl P l):(runM (Z3 k P) (Mk.new (Z3 k P)) (l.map (ZY k))).2=(runM P (Mk.new P) l).2.map (ZL k):=by
 rw[Tf.law (abW O.1) (abX hR k) hR h (by show(1:Int)*12<=1000000;omega) (by rw[br]) fun i y y' J I=>?_]
 ·exact cJ fun r _=>abJ k r
 ·rw[bo,J] at I
  injection I with I;refine⟨y.ky,by rw[abI,<-I],?_⟩;obtain⟨hi,D⟩:=h.t i y J;have ax:=D.Y8;have hp:=D.ag;have m1:k* -17000<=k*y.ag:=gh hp.1 ae;have m2:k*y.ag<=k*17000:=gh hp.2 ae;rw[<-I];exact D.right hi hR ae D.side ⟨by show -2000000<=k*y.ag;omega,by show k*y.ag<=2000000;omega⟩ (cA D.aw) D.least (.inl D.ky)
end Go.Proofs.YtbaaheidifacaaaGreat
