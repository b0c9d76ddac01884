import Derived.Test.YtbaaheidifacaaaGreatQMktP
set_option linter.defProp false
set_option linter.unusedVariables false
set_option linter.unusedSimpArgs false
set_option maxRecDepth 100000
set_option maxHeartbeats 12800000
namespace Go.Proofs.YtbaaheidifacaaaGreat
variable {P:PD} {S:Sm} {c id ag:Int} {k n:Nat} {l:List bN} {m:Mk} {x:bN}
open Go.RowKit
def js (P:PD) (l:List bN) (n:Nat):List bN:=((l.take n).zipIdx).map fun x=>rB P x.1 x.2
def runM (P:PD):Mk→List bN→Mk×List ir
 |m,[]=>(m,[])
 |m,c::l=>((runM P (pC P m c).1 l).1,(pC P m c).2++(runM P (pC P m c).1 l).2)
theorem Ch (P:PD):∀(l:List bN) (m:Mk) (l':List bN),runM P m (l++l')=((runM P (runM P m l).1 l').1,(runM P m l).2++(runM P (runM P m l).1 l').2)
 |[],m,l'=>by simp[runM]
 |c::l,m,l'=>by
  have:=Ch P l (pC P m c).1 l';simp only[fO,runM,this,bD]
section
theorem sQ {f:Nat} {x:Nat} {q:Int} (h:q<=0):dV P f S x k ag q=(S,[],q):=by
 cases f with
 |zero=>rfl
 |succ f=>unfold dV;rw[if_pos h]
end
theorem iy.sb {S':Sm} (hF:∀(x:Nat) (M:BM),S'[x]?=some M->EE M) (h:iy S' S) (hS:SB c S):SB c S':=by
 refine⟨fun M I e he=>?_,fun M I k r hr=>?_⟩
 ·obtain⟨x,hx,rfl⟩:=kv.1 I
  have D:=aj hx;obtain⟨k,_,r,hr,J⟩:=FM he;obtain⟨O,b1,b2⟩:=h.sh x _ D;obtain⟨r0,c1,_,e0,c3,_,c5⟩:=b2.st k r e hr J;have:=hS.q O (aH b1) e0 (fX c1 c3);have:=(hF x _ D).ok e he;omega
 ·obtain⟨x,hx,rfl⟩:=kv.1 I
  exact GW (hF x _ (aj hx)) hr
theorem Tc {p:Int} {e:dn}:∀{l:List iQ} {r:iQ},r∈mo k l p e->(r.2≠[])\/∃D∈l,D=r
 |[],r,h=>by simp[mo] at h;subst h;exact .inl bT
 |a::l,r,h=>by
  unfold mo at h
  split at h
  ·rcases a9.1 h with rfl|h
   ·exact .inr ⟨r,bT,rfl⟩
   ·rcases Tc h with h|⟨D,I,J⟩
    ·exact .inl h
    ·exact .inr ⟨D,by simp[I],J⟩
  ·split at h
   ·rcases a9.1 h with rfl|h
    ·exact .inl bT
    ·exact .inr ⟨r,by simp[h],rfl⟩
   ·rcases a9.1 h with rfl|h
    ·exact .inl bT
    ·exact .inr ⟨r,h,rfl⟩
theorem JY {p q:Int} {l:List iQ} (I:∀r∈l,r.2≠[]) {r:iQ} (h:r∈jo k l id p q):r.2≠[]:=by
 unfold jo at h;rcases Tc h with h|⟨J,D,rfl⟩
 ·exact h
 ·split at D
  ·unfold yx at D
   obtain⟨r1,a1,rfl⟩:=aV.1 D;have:=I r1 a1;simpa using this
  ·exact I _ D
theorem P9.add {M:BM} (h:P9 c M) (k:Nat) (id p q:Int) (J:1<=q) (O:q<=c):P9 c (M.add k id p q):=by
 refine⟨fun e he=>?_,fun k' r hr=>?_⟩
 ·rcases Co he with⟨_,rfl⟩|⟨e0,a1,_,a3⟩
  ·exact⟨J,O⟩
  ·rw[<-a3];exact h.1 e0 a1
 ·have s0:∀r∈M.s0,r.2≠[]:=h.2 0
  have s1:∀r∈M.s1,r.2≠[]:=h.2 1
  by_cases I:k=0
  ·have e:M.add k id p q=⟨jo 0 M.s0 id p q,M.s1⟩:=by unfold BM.add;rw[if_pos I]
   rw[e] at hr
   by_cases D:k'=0
   ·unfold BM.side at hr;rw[if_pos D] at hr;exact JY s0 hr
   ·unfold BM.side at hr;rw[if_neg D] at hr;exact s1 r hr
  ·have e:M.add k id p q=⟨M.s0,jo 1 M.s1 id p q⟩:=by unfold BM.add;rw[if_neg I]
   rw[e] at hr
   by_cases D:k'=0
   ·unfold BM.side at hr;rw[if_pos D] at hr;exact s0 r hr
   ·unfold BM.side at hr;rw[if_neg D] at hr;exact JY s1 hr
theorem SB.oW (h:SB c S) (x k:Nat) (id p q:Int) (D:1<=q) (I:q<=c):SB c (oW S x k id p q):=by
 unfold Go.Proofs.YtbaaheidifacaaaGreat.oW
 split
 ·rename_i M J
  exact h.set x ((h.bm J).add k id p q D I)
 ·exact h
theorem Yg (hF:pn P m.S) (su:∀id,fI m.S id->m.used id=true) {y:bN} (J:y.aw<=c) (hS:SB c m.S):SB c (pC P m y).1.S:=by
 obtain⟨S1,a1,I⟩:=(Tb hF su y).ex;have D:=a1.sb (hF.less a1).xX hS;rcases I with e|⟨_,_,x,k,p,q,_,_,_,b1,O,e⟩
 ·rw[e];exact D
 ·rw[e];exact D.oW x k y.id p q b1 ae
theorem Qd {x:Nat} {aw time:Int}:1<=(iE P m id x k ag aw time).2.length:=by
 unfold iE;simp only
 repeat' split
 all_goals simp
theorem WX (P:PD) (m:Mk) (c:bN):1<=(pC P m c).2.length:=by
 unfold pC
 split
 ·simp[mH]
 ·split
  ·unfold lW
   simp only
   repeat' split
   all_goals first
    |exact Qd
    |simp[mH]
  ·split
   ·simp[mH]
   ·split
    ·unfold replaceM
     simp only
     repeat' split
     all_goals first
      |(simp[mH];done)
      |(simp[jh];done)
      |(simp only[aC];have D:∀x k p e,(dG m c.id x k p e).2.length=1:=fun _ _ _ _=>rfl;rw[D];omega)
    ·split
     ·simp[dG]
     ·simp[jh]
theorem Qi (h:(js P l n)[k]?=some x):k<n/\∃c,l[k]?=some c/\x=rB P c k:=by
 unfold js at h;rw[bo] at h
 cases D:(l.take n).zipIdx[k]? with
 |none=>rw[D] at h;cases h
 |some y=>
  rw[D] at h;injection h with h;rw[List.getElem?_zipIdx] at D
  cases I:(l.take n)[k]? with
  |none=>rw[I] at D;cases D
  |some c=>
   rw[I] at D;simp at D;rw[DV] at I
   split at I
   ·rename_i J
    refine⟨J,c,I,?_⟩;rw[<-h,<-D]
   ·cases I
theorem Tk (D:P.gZ) (h:(js P l n)[k]?=some x):k<n/\wZ P k x:=by
 obtain⟨I,c,_,rfl⟩:=Qi h;exact⟨I,U5 D c k⟩
theorem MA (P:PD) (l:List bN) (n:Nat):(js P l n).length<=n:=by
 unfold js;simp;omega
structure Tl (P:PD) (l:List bN):Prop where
 f:∀n,pn P (runM P (Mk.new P) (l.take n)).1.S
 su:∀n id,fI (runM P (Mk.new P) (l.take n)).1.S id→(runM P (Mk.new P) (l.take n)).1.used id=true
 t:∀(i:Nat) (y:bN),l[i]?=some y→i≤1000∧wZ P i y
theorem Tl.sb (h:Tl P l):∀n,SB 12 (runM P (Mk.new P) (l.take n)).1.S:=fun n=>by
 induction n with
 |zero=>
  rw[QA];unfold runM Mk.new;refine⟨fun M D e he=>?_,fun M D k r hr=>?_⟩
  ·simp only at D
   obtain⟨_,rfl⟩:=tx.1 D;simp[BM.I,gY] at he
  ·simp only at D
   obtain⟨_,rfl⟩:=tx.1 D;unfold BM.side at hr
   split at hr<;>simp at hr
 |succ n J=>
  cases hq:l[n]? with
  |none=>
   have:l.length<=n:=List.getElem?_eq_none_iff.1 hq;rw[aL ae];rw[aL ae] at J;exact J
  |some q=>
   rw[bC,hq];simp only[tB];rw[Ch];simp only[runM];exact Yg (h.f n) (h.su n) (h.t n q hq).2.aw.2 J
theorem aaL:∀{l:List bN} {m:Mk} {y:Int},(runM P m l).1.used y=true->m.used y=true\/∃c∈l,y=c.id
 |[],m,y,h=> .inl h
 |c::l,m,y,h=>by
  unfold runM at h;rcases aaL h with h|⟨d,D,I⟩
  ·rcases abB h with h|h
   ·exact .inr ⟨c,bT,h⟩
   ·exact .inl h
  ·exact .inr ⟨d,by simp[D],I⟩
theorem aay (h:Tl P l):cK (runM P (Mk.new P) l).1.S<=l.length:=by
 have:∀n,cK (runM P (Mk.new P) (l.take n)).1.S<=n:=fun n=>by
  induction n with
  |zero=>
   rw[QA];unfold runM Mk.new cK;simp only;rw[List.map_replicate];simp[BM.I,gY]
  |succ n D=>
   cases hq:l[n]? with
   |none=>
    have O:l.length<=n:=List.getElem?_eq_none_iff.1 hq;rw[aL ae];rw[aL ae] at D;omega
   |some q=>
    rw[bC,hq];simp only[tB];rw[Ch];simp only[runM];have:=(Tb (h.f n) (h.su n) q).count;omega
 have J:=this l.length
 rwa [dE] at J
theorem Tl.used (h:Tl P l) {y:Int} (hu:(runM P (Mk.new P) (l.take n)).1.used y=true):∃c∈l,y=c.id:=by
 rcases aaL hu with h|⟨c,D,I⟩
 ·cases h
 ·exact⟨c,mT D,I⟩
end Go.Proofs.YtbaaheidifacaaaGreat
