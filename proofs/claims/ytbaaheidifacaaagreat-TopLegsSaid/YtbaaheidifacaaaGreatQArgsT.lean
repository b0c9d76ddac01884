import Derived.Test.YtbaaheidifacaaaGreatQArgs13
import Derived.Test.YtbaaheidifacaaaGreatQDiff1
set_option linter.defProp false
set_option linter.unusedVariables false
set_option linter.unusedSimpArgs false
set_option maxRecDepth 100000
set_option maxHeartbeats 12800000
namespace Go.Proofs.YtbaaheidifacaaaGreat
variable {A:Option Addr}
open Go.RowKit Go.ChangeShapes Go.WideShapes Go.Deep
theorem FU:∀{l:List bN} {k:Nat} {u:Value},(lF l)[k]?=some u->∃i j x,k=i*9+j/\l[i]?=some x/\x.row[j]?=some u
 |[],k,u,h=>by simp[lF] at h
 |x::l,k,u,h=>by
  have D:x.row.length=9:=rfl;simp only[lF,bj] at h
  by_cases O:k<9
  ·rw[bX ae] at h
   exact⟨0,k,x,ae,rfl,h⟩
  ·rw[bK ae,D] at h
   obtain⟨i,j,y,h1,I,J⟩:=FU (l:=l) h;exact⟨i+1,j,y,ae,I,J⟩
structure Commands (w:World) (A:Option Addr) (n c:Nat):Prop where
 le:n≤c
 max:c≤maxLen
 row:∃l:List bN,l.length=n∧Cells w A (lF l)∧∀q∈l,q.ky.length≤9223372036854775807
theorem zM {H:Type} {enc:TypeId×Value->H} {base:Nat} {held:Bool} {fs:Array Field} {w:World} {n c:Nat} (h:Xm enc Tryz.prog base held fs w A n c) (J:Tryz.prog.underlying 35=some (.struct fs)):Commands w A n c:=by
 have hu:=Tryz.underlying35;rw[hu] at J;injection J with J;injection J with J;subst J;have each:∀i,i<n->∃(b o:Nat) (x:bN),A=some ⟨b,o,none⟩/\b<w.heap.size/\x.ky.length<=9223372036854775807/\∀j v,x.row[j]?=some v->Cz w b (o+(i*9+j)) v:=by
  intro i hi;obtain⟨b,o,vs,rfl,hb,hlen,D,hf⟩:=h.at_ i hi;obtain⟨v0,h0,f0⟩:=hf 0 _ rfl;obtain⟨v1,h1,f1⟩:=hf 1 _ rfl;obtain⟨v2,h2,f2⟩:=hf 2 _ rfl;obtain⟨v3,h3,f3⟩:=hf 3 _ rfl;obtain⟨v4,h4,f4⟩:=hf 4 _ rfl;obtain⟨v5,h5,f5⟩:=hf 5 _ rfl;obtain⟨v6,h6,f6⟩:=hf 6 _ rfl;obtain⟨v7,h7,f7⟩:=hf 7 _ rfl;obtain⟨v8,h8,f8⟩:=hf 8 _ rfl;obtain⟨n0,rfl,w0⟩:=f0.int Tryz.underlying3;obtain⟨n1,rfl,w1⟩:=f1.int Tryz.underlying2;obtain⟨n2,rfl,w2⟩:=f2.int Tryz.underlying3;obtain⟨n3,rfl,w3⟩:=f3.int Tryz.underlying3;obtain⟨n4,rfl,w4⟩:=f4.int Tryz.underlying2;obtain⟨n5,rfl,w5⟩:=f5.int Tryz.underlying2;obtain⟨n6,rfl,w6⟩:=f6.int Tryz.underlying2;obtain⟨n7,rfl,w7⟩:=f7.int Tryz.underlying3;obtain⟨s8,rfl,ax⟩:=f8.string Tryz.underlying9;refine⟨b,o,⟨n0,n1,n2,n3,n4,n5,n6,n7,s8.data.toList⟩,rfl,hb,ax,fun j v hj=>?_⟩;rcases j with _|_|_|_|_|_|_|_|_|j
  ·obtain rfl:=bW hj;exact D 0 _ h0
  ·obtain rfl:=bW hj;exact D 1 _ h1
  ·obtain rfl:=bW hj;exact D 2 _ h2
  ·obtain rfl:=bW hj;exact D 3 _ h3
  ·obtain rfl:=bW hj;exact D 4 _ h4
  ·obtain rfl:=bW hj;exact D 5 _ h5
  ·obtain rfl:=bW hj;exact D 6 _ h6
  ·obtain rfl:=bW hj;exact D 7 _ h7
  ·have e:v= .string (str s8.data.toList):=(bW hj).symm
   rw[e,RT];exact D 8 _ h8
  ·simp[bN.row,bN.cells] at hj
 refine⟨h.le,h.max,?_⟩;rcases jF n with hn|hn
 ·subst hn;exact⟨[],rfl,Cells.nil _ _,fun q hq=>by cases hq⟩
 ·obtain⟨b,o,x0,rfl,hb,a0, -⟩:=each 0 hn
  have I:∀i,i<n->∃x:bN,x.ky.length<=9223372036854775807/\∀j v,x.row[j]?=some v->Cz w b (o+(i*9+j)) v:=by
   intro i hi;obtain⟨b',o',x,hA, -,hl,hx⟩:=each i hi;injection hA with hA;injection hA with e1 e2;subst e1;subst e2;exact⟨x,hl,hx⟩
  refine⟨(List.range n).map fun i=>if hi:i<n then (I i hi).choose else x0,bT,fun _=>⟨b,o,rfl,hb,fun k u hu=>?_⟩,fun q hq=>?_⟩
  ·obtain⟨i,j,x,rfl,h1,h2⟩:=FU hu
   rw[bo] at h1;rcases hr:(List.range n)[i]? with _|i'
   ·rw[hr] at h1;simp at h1
   ·have ay:i'=i/\i<n:=by
     have:=az.1 hr;obtain⟨h3,h4⟩:=this;simp at h3 h4;exact⟨h4.symm,h3⟩
    obtain⟨rfl,O⟩:=ay;rw[hr] at h1;simp only[fc,gf,dif_pos O] at h1;subst h1;exact(I i' O).choose_spec.2 j u h2
  ·obtain⟨i,hi,rfl⟩:=aV.1 hq
   have O:i<n:=iT.1 hi;simp only[dif_pos O];exact(I i O).choose_spec.1
def kU.prod (p:kU):PD:=Gr p.mn p.ti p.wi p.ru p.top p.le p.pa
theorem Qh (p:kU) (w:World) (h:p.Ok w):Wz 14 #[p.val] w (V3 p.prod w):=
 GZ _ p.ma p.mn p.mc p.ti _ _ p.wi p.ru p.top p.le p.pa _ w (by have I:=h.1;have D:=h.2;unfold maxLen at D;omega)
end Go.Proofs.YtbaaheidifacaaaGreat
