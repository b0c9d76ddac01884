import Derived.Test.YtbaaheidifacaaaGreatQRunesP
import Derived.Test.YtbaaheidifacaaaGreatQFrame
set_option linter.defProp false
set_option linter.unusedVariables false
set_option linter.unusedSimpArgs false
set_option maxRecDepth 100000
set_option maxHeartbeats 12800000
namespace Go.Proofs.YtbaaheidifacaaaGreat
variable {b:List UInt8} {s:Rd}
open Go.RowKit
@[ext] structure bN where
  kind:Int
  id:Int
  inst:Int
  side:Int
  ag:Int
  aw:Int
  least:Int
  time:Int
  ky:List UInt8
deriving DecidableEq
def bN.zero:bN:=⟨0,0,0,0,0,0,0,0,[]⟩
def Ke (n:Int):Prop:= -9223372036854775808≤n∧n≤9223372036854775807
structure bN.wf (c:bN):Prop where
 kind:Ke c.kind
 id:Ke c.id
 inst:Ke c.inst
 side:Ke c.side
 ag:Ke c.ag
 aw:Ke c.aw
 least:Ke c.least
 time:Ke c.time
 ky:c.ky.length≤9223372036854775807
def kL (n:Int):Prop:=1≤n∧n≤1000000
def jg (n:Int):Prop:= -2000000≤n∧n≤2000000
instance (n:Int):Decidable (kL n):=inferInstanceAs (Decidable (_∧_))
instance (n:Int):Decidable (jg n):=inferInstanceAs (Decidable (_∧_))
def wN (c:bN):Nat:=
 if c.side≠1∧c.side≠2 then 21 else if c.time<1∨3<c.time then 27 else if ¬kL c.aw then 24 else if c.least<0∨c.aw<c.least then 28
 else if c.ky≠[]∧Cd c.ky=false then 29 else if ¬jg c.ag then 23 else if c.inst<0∨255<c.inst then 20 else 0
def dx (c:bN):Nat:=
 if c.kind<1∨4<c.kind then 31 else if c.id<1∨1099511627776<c.id then 1 else if c.kind=1 then wN c
 else if c.kind≠2∧¬kL c.aw then 24 else if c.kind=4∧¬jg c.ag then 23 else 0
def RU (c:bN):bN:=
 if c.kind=1 then c else if c.kind=2 then {bN.zero with kind:=c.kind,id:=c.id} else if c.kind=3 then {bN.zero with kind:=c.kind,id:=c.id,aw:=c.aw}
 else if c.kind=4 then {bN.zero with kind:=c.kind,id:=c.id,ag:=c.ag,aw:=c.aw} else bN.zero
def vW (c:bN):List UInt8:=
 if c.kind=1 then le 1 (gJ c.inst)++(le 1 (gJ c.side)++(le 1 (gJ c.time)++(le 8 (gJ c.ag)++(le 8 (gJ c.aw)++(le 8 (gJ c.least)++rz c.ky)))))
 else if c.kind=3 then le 8 (gJ c.aw) else if c.kind=4 then le 8 (gJ c.ag)++le 8 (gJ c.aw) else []
def zE (c:bN):List UInt8:=le 1 (gJ c.kind)++(le 8 (gJ c.id)++vW c)
def oL (c:bN):List UInt8:=if dx c=0 then zE c else []
def fL (kind id:Int) (s:Rd):bN×Rd:=
 if kind=1 then
  let s1:=s.left 1
  let s2:=s1.left 1
  let s3:=s2.left 1
  let s4:=s3.left 8
  let s5:=s4.left 8
  let s6:=s5.left 8
  (⟨kind,id,s.byteOf,s1.byteOf,s3.ix,s4.ix,s5.ix,s2.byteOf,s6.nO⟩,s6.pO)
 else if kind=3 then ({bN.zero with kind:=kind,id:=id,aw:=s.ix},s.left 8)
 else if kind=4 then ({bN.zero with kind:=kind,id:=id,ag:=s.ix,aw:=(s.left 8).ix},(s.left 8).left 8)
 else ({bN.zero with kind:=kind,id:=id},s)
def Hj (b:List UInt8):Rd:=⟨b,false⟩
def zF (b:List UInt8):bN×Nat:=
 if (Hj b).byteOf<1∨4<(Hj b).byteOf then (bN.zero,31)
 else if (fL (Hj b).byteOf ((Hj b).left 1).ix (((Hj b).left 1).left 8)).2.vV≠0 then (bN.zero,12)
 else if dx (fL (Hj b).byteOf ((Hj b).left 1).ix (((Hj b).left 1).left 8)).1≠0 then (bN.zero,dx (fL (Hj b).byteOf ((Hj b).left 1).ix (((Hj b).left 1).left 8)).1)
 else ((fL (Hj b).byteOf ((Hj b).left 1).ix (((Hj b).left 1).left 8)).1,0)
theorem Gq {n:Nat} (h:(s.left n).bad=false):s.bad=false/\n<=s.l.length/\s.uv n=s.l.take n/\s.left n=⟨s.l.drop n,false⟩:=by
 by_cases D:s.bad=true\/s.l.length<n
 ·rw[(ux D).2] at h;cases h
 ·obtain⟨I,J⟩:=xQ D
  rw[not_or] at D;exact⟨by simpa using D.1,ae,I,J⟩
theorem rA (h:(s.left 1).bad=false):s.bad=false/\s.l=le 1 (gJ s.byteOf)++(s.left 1).l:=by
 obtain⟨I,h2,J,O⟩:=Gq h;refine⟨I,?_⟩;have hl:(s.l.take 1).length=1:=by rw[bJ];omega
 have e:le 1 (gJ s.byteOf)=s.l.take 1:=by
  have D:=s.pB;have:=zW (s.l.take 1);rw[hl] at this;unfold Rd.byteOf at D⊢;rw[J] at D⊢;rw[show gJ ((mR (s.l.take 1):Nat):Int)=mR (s.l.take 1) by unfold gJ;omega];exact this
 rw[e,O];exact(iG 1 s.l).symm
theorem nP (h:(s.left 8).bad=false):s.bad=false/\s.l=le 8 (gJ s.ix)++(s.left 8).l:=by
 obtain⟨D,h2,I,J⟩:=Gq h;refine⟨D,?_⟩;have O:(s.l.take 8).length=8:=by rw[bJ];omega
 have e:le 8 (gJ s.ix)=s.l.take 8:=by
  have hb:=xO (s.l.take 8);have:=zW (s.l.take 8);rw[O] at this hb;unfold Rd.ix;rw[I];rw[show gJ (wrap64 ((mR (s.l.take 8):Nat):Int))=mR (s.l.take 8) by unfold gJ wrap64;omega];exact this
 rw[e,J];exact(iG 8 s.l).symm
theorem O9 (h:s.pO.bad=false):s.bad=false/\s.l=rz s.nO++s.pO.l/\s.nO.length<=255:=by
 unfold Rd.pO at h;obtain⟨I,h2,J,O⟩:=Gq h;obtain⟨b1,b2⟩:=rA I;have hb:=s.pB;have D:s.nO=(s.left 1).l.take s.byteOf:=J;have hl:s.nO.length=s.byteOf:=by rw[D,bJ];omega
 refine⟨b1,?_,ae⟩;have e:rz s.nO=le 1 (gJ s.byteOf)++s.nO:=by
  unfold rz;rw[hl,aL ae,rP ae];rw[show gJ (s.byteOf:Int)=s.byteOf by unfold gJ;omega];rfl
 rw[e,bD,b2]
 congr 1
 show _=s.nO++((s.left 1).left s.byteOf).l;rw[O,D];exact(iG _ _).symm
theorem Ww (h:s.vV=0):s.bad=false/\s.l=[]:=by
 unfold Rd.vV at h
 split at h
 ·cases h
 ·rename_i D
  split at h
  ·rename_i I;exact⟨by simpa using D,I⟩
  ·cases h
theorem sI (s:Rd):Ke s.ix:=by unfold Ke Rd.ix wrap64;omega
theorem zX (s:Rd):Ke (s.byteOf:Int):=by have:=s.pB;unfold Ke;omega
theorem RV {z:bN} (h:zF b=(z,0)):dx z=0/\zE z=b/\RU z=z/\z.wf:=by
 unfold zF at h
 split at h
 ·cases h
 rename_i hk
 split at h
 ·cases h
 rename_i he
 split at h
 ·rename_i hr
  injection h with _ h;exact absurd h hr
 rename_i hr;injection h with h _;rw[h] at hr;have ax:dx z=0:=ae;have ay:(fL (Hj b).byteOf ((Hj b).left 1).ix (((Hj b).left 1).left 8)).2.vV=0:=ae;obtain⟨e1,e2⟩:=Ww ay;have hp:∀{s:Rd},s.bad=false->s.l=(s.l:List UInt8):=fun _=>rfl;have main:∀(k i:Int) (s:Rd),Ke k->Ke i->(1<=k/\k<=4)->(fL k i s).2.bad=false->(fL k i s).2.l=[]->s.bad=false/\vW (fL k i s).1=s.l/\(fL k i s).1.kind=k/\(fL k i s).1.id=i/\RU (fL k i s).1=(fL k i s).1/\(fL k i s).1.wf:=by
  intro k i s D I a2 J O;have i0:Ke 0:=by unfold Ke;omega
  have a0:k=1\/k=2\/k=3\/k=4:=ae;rcases a0 with rfl|rfl|rfl|rfl
  ·simp only[fL,if_true] at J O⊢
   obtain⟨t1,t2,t3⟩:=O9 J;rw[O,fe] at t2;obtain⟨l6,m6⟩:=nP t1;obtain⟨l5,m5⟩:=nP l6;obtain⟨l4,m4⟩:=nP l5;obtain⟨l3,m3⟩:=rA l4;obtain⟨l2,m2⟩:=rA l3;obtain⟨l1,m1⟩:=rA l2;refine⟨l1,?_,trivial,trivial,rfl,⟨D,I,zX _,zX _,sI _,sI _,sI _,zX _,by simp only;omega⟩⟩;unfold vW;rw[if_pos rfl,<-t2,<-m6,<-m5,<-m4,<-m3,<-m2,<-m1]
  ·simp[fL] at J O⊢
   refine⟨J,?_,rfl,⟨D,I,i0,i0,i0,i0,i0,i0,by simp[bN.zero]⟩⟩;simp[vW,O]
  ·simp[fL] at J O⊢
   obtain⟨l1,m1⟩:=nP J;rw[O,fe] at m1;refine⟨l1,?_,rfl,⟨D,I,i0,i0,i0,sI _,i0,i0,by simp[bN.zero]⟩⟩;simp[vW,<-m1]
  ·simp[fL] at J O⊢
   obtain⟨l1,m1⟩:=nP J;rw[O,fe] at m1;obtain⟨l2,m2⟩:=nP l1;refine⟨l2,?_,rfl,⟨D,I,i0,i0,sI _,sI _,i0,i0,by simp[bN.zero]⟩⟩;simp[vW,<-m1,<-m2]
 obtain⟨g1,g2,g3,g4,g5,g6⟩:=main _ _ _ (zX _) (sI _) ae e1 e2;rw[h] at g2 g3 g4 g5 g6;obtain⟨l1,m1⟩:=nP g1;obtain⟨l2,m2⟩:=rA l1;refine⟨ax,?_,g5,g6⟩;unfold zE;rw[g2,g3,g4,<-m1,<-m2];rfl
end Go.Proofs.YtbaaheidifacaaaGreat
