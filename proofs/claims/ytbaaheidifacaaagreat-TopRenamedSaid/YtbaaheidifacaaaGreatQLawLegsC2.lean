import Derived.Test.YtbaaheidifacaaaGreatQTopPC1
set_option linter.defProp false
set_option linter.unusedVariables false
set_option linter.unusedSimpArgs false
set_option maxRecDepth 100000
set_option maxHeartbeats 12800000
namespace Go.Proofs.YtbaaheidifacaaaGreat
variable {P:PD} {S:Sm} {fl:List fG} {im:Option Qt} {j k x:Nat} {l:List ir} {m:Mk} {p ag:Int} {st:jz}
open Go.RowKit
theorem CZ {P:PD} (x k:Nat) (ag:Int):∀(f:Nat) (S:Sm) (aw:Int),SB 1000000 S->0<=aw->0<=(dV P f S x k ag aw).2.2/\(dV P f S x k ag aw).2.2<=aw
 |0,S,aw,_,h=>⟨h,cM _⟩
 |f+1,S,aw,hS,h=>by
  unfold dV
  split
  ·exact⟨h,cM _⟩
  ·split
   ·exact⟨h,cM _⟩
   ·rename_i p q im hn
    split
    ·have I:=hS.next hn
     have D:=CZ (P:=P) x k ag f (dA P S x (1 - k) im (min aw q)).1 (aw - min aw q) (hS.nT _ _ _ _) ae;exact⟨D.1,by have:=D.2;simp only at this⊢;omega⟩
    ·exact⟨h,cM _⟩
structure Yf (P:PD) (r a b:ir):Prop where
 ak:a.kind=3
 bk:b.kind=3
 ZF:a.id=r.id
 ZG:b.id=r.id
 ai:a.inst=((cy P.n r.inst.toNat).1:Int)
 bi:b.inst=((cy P.n r.inst.toNat).2:Int)
 sa:a.side=r.side
 sb:b.side≠r.side
 aq:a.aw=r.aw
 bq:b.aw=r.aw
 al:a.left=r.left
 bl:b.left=r.left
 pr:a.ag - b.ag=r.ag
 wa:P.fy (cy P.n r.inst.toNat).1 a.ag=0
 wb:P.fy (cy P.n r.inst.toNat).2 b.ag=0
 an:(cy P.n r.inst.toNat).1<P.n
 bn:(cy P.n r.inst.toNat).2<P.n
structure zL (P:PD) (r:ir):Prop where
 inst:∃x:Nat,r.inst=(x:Int)∧x<P.count
 ag: -2000000≤r.ag∧r.ag≤2000000
 aw:0≤r.aw∧r.aw≤1000000
 left:0≤r.left∧r.left≤1000000
inductive jf (P:PD):List ir→Prop
 |nil:jf P []
 |one (r:ir) (l:List ir):zL P r→(r.kind≠3∨r.inst<P.n)→jf P l→jf P (r::l)
 |three (r a b:ir) (l:List ir):zL P r→zL P a→zL P b→Yf P r a b→jf P l→jf P (r::a::b::l)
theorem jf.all (h:jf P l):∀r∈l,zL P r:=by
 induction h with
 |nil=>intro r hr;cases hr
 |one r l J h _ I=>
  intro y D;rcases a9.1 D with rfl|D
  ·exact J
  ·exact I y D
 |three r a b l O h2 h3 h _ I=>
  intro y D;rcases a9.1 D with rfl|D
  ·exact O
  ·rcases a9.1 D with rfl|D
   ·exact h2
   ·rcases a9.1 D with rfl|D
    ·exact h3
    ·exact I y D
theorem jf.app {m:List ir} (h:jf P l) (hm:jf P m):jf P (l++m):=by
 induction h with
 |nil=>exact hm
 |one r l I h _ D=>exact .one r _ I h D
 |three r a b l J O h3 h _ D=>exact .three r a b _ J O h3 h D
theorem jf.flat {α:Type} {l:List α} {f:α->List ir} (h:∀x∈l,jf P (f x)):jf P (l.flatMap f):=by
 induction l with
 |nil=>exact .nil
 |cons x l D=>
  rw[bj];exact(h x bT).app (D fun y I=>h y (by simp[I]))
theorem pD (hx:x<P.n) (D:P.tick∣p) (I:P.low<=p) (J:p<=P.high):P.fy x p=0:=by
 unfold PD.fy PD.lo PD.hi;rw[if_pos hx,if_pos hx,if_neg (by simpa using TL D),if_neg ae]
theorem S9 (I:P.gZ) (h1:P.n<=x) (h2:x<P.count) (hp:P.fy x p=0):
  (lu P x p).1 - (lu P x p).2=p/\P.fy (cy P.n x).1 (lu P x p).1=0/\P.fy (cy P.n x).2 (lu P x p).2=0:=by
 obtain⟨a1,J,_⟩:=I.RG h1 h2;obtain⟨_,_,O,b4,b5⟩:=I.ag hp;unfold PD.lo at b4;unfold PD.hi at b5;rw[if_neg ae] at b4 b5;obtain⟨D,ef⟩:=Zn (P.settle.getD (cy P.n x).2 0);have hf:P.tick∣D/\P.low<=D/\D<=P.high:=by
  have hl:(cy P.n x).2<P.settle.length:=by rw[I.vI];exact J
  rw[ef,jI,aj hl];exact I.KY _ (nv hl)
 have c1:=I.Nr;have c2:=I.Uh;have c3:=I.E5;have c4:=I.lh;have c5:=I.EK;have n1:(cy P.n x).1<P.n:=ae;unfold lu;rw[<-ef]
 by_cases h3:P.high<D+p
 ·simp only[if_pos h3]
  rw[if_neg ae];exact⟨by simp only;omega,pD n1 c1 ae ae,pD J (Int.dvd_sub c1 O) (by simp only;omega) (by simp only;omega)⟩
 ·simp only[if_neg h3]
  by_cases h4:D+p<P.low
  ·rw[if_pos h4]
   exact⟨by simp only;omega,pD n1 c2 ae ae,pD J (Int.dvd_sub c2 O) (by simp only;omega) (by simp only;omega)⟩
  ·rw[if_neg h4]
   exact⟨by simp only;omega,pD n1 (Int.dvd_add hf.1 O) (by simp only;omega) (by simp only;omega),pD J hf.1 hf.2.1 hf.2.2⟩
theorem FO {d:Int} (D:∀f∈fl,f.inst=j->f.ag=p) (I:∃f∈fl,f.inst=j):jq fl d j=p:=by
 unfold jq
 cases hf:fl.find? fun f=>f.inst==j with
 |none=>
  obtain⟨f,a,b⟩:=I;have:=DZ.1 hf f a;simp[b] at this
 |some f=>
  have J:=MV hf;exact D f (uP hf) (by simpa using J)
theorem zA {d:Int} (h:∀f∈fl,f.inst≠j):jq fl d j=d:=by
 unfold jq
 cases hf:fl.find? fun f=>f.inst==j with
 |none=>rfl
 |some f=>
  have D:=MV hf;exact absurd (by simpa using D) (h f (uP hf))
theorem jT (O:P.gZ) {r:ir} (hx:r.inst=(x:Int)) (hc:x<P.count) (hk:r.kind=3) (hs:r.side=1\/r.side=2) (D:zL P r)
  (hp:P.n<=x->(fg P x st).1 - (fg P x st).2=r.ag/\P.fy (cy P.n x).1 (fg P x st).1=0/\P.fy (cy P.n x).2 (fg P x st).2=0):jf P (lz P st r):=by
 unfold lz;have e:r.inst.toNat=x:=ae;rw[e]
 split
 ·exact .one r [] D (.inr ae) .nil
 ·rename_i hn
  obtain⟨h1,h2,h3⟩:=hp ae;have ax:=O.cnt;have I:=O.ag h2;have J:=O.ag h3;obtain⟨l1,l2,_⟩:=O.RG (x:=x) ae hc;unfold nW;refine .three r _ _ [] D ⟨⟨_,by rw[e],ae⟩,⟨e▸I.1,e▸I.2.1⟩,D.aw,D.left⟩ ⟨⟨_,by rw[e],ae⟩,⟨e▸J.1,e▸J.2.1⟩,D.aw,D.left⟩ ⟨hk,hk,rfl,rfl,rfl,rfl,rfl,?_,rfl,rfl,rfl,rfl,h1,?_,?_,?_,?_⟩ .nil
  ·show 3 - r.side≠r.side;omega
  ·rw[e];exact h2
  ·rw[e];exact h3
  ·rw[e];omega
  ·rw[e];omega
theorem Qc (hk:k<2) (hx:x<P.count) {S':Sm} {q' q:Int} (h:Mp P S x k ag S' q' p q im st) (id left:Int) (hl:0<=left/\left<=1000000) (a8:0<=st.aw/\st.aw<=1000000):jf P (nH P id x k st left):=by
 have J:=h.fine.right;have I:∀j:Nat,j<2->(j:Int)+1=1\/(j:Int)+1=2:=fun j hj=>ae;have bc:1<=q:=h.fine.sb.next h.next
 have a0:=h.st;have hn:=h.next
 have bf:=h.q1;have ay:st.imp=im.isSome:=by rw[a0]
 have ep:st.ag=p:=by rw[a0]
 have ef:st.U=(dA P S' x (1 - k) im (min q' q)).2:=by rw[a0]
 have a2:∀f,f.inst<P.count->P.fy f.inst f.ag=0->FP f->zL P (oC f):=fun f h1 h2 h3=>by
  have h4:=J.ag h2;exact⟨⟨f.inst,rfl,h1⟩,⟨h4.1,h4.2.1⟩,h3.aw,h3.left⟩
 have ax:P.fy x p=0->zL P ⟨3,id,x,(k:Int)+1,st.ag,st.aw,left,0⟩:=fun h2=>by
  have h4:=J.ag h2;exact⟨⟨x,rfl,hx⟩,⟨by show -2000000<=st.ag;rw[ep];exact h4.1,by show st.ag<=2000000;rw[ep];exact h4.2.1⟩,a8,hl⟩
 unfold nH
 cases im with
 |none=>
  have ba:=Qa hn;have A:=C7 h.fine ba (t:=min q' q) ae ae;have a7:P.n<=x->(fg P x st).1 - (fg P x st).2=p/\P.fy (cy P.n x).1 (fg P x st).1=0/\P.fy (cy P.n x).2 (fg P x st).2=0:=fun D=>by
   have e:fg P x st=lu P x p:=by unfold fg;rw[ay,ep];rfl
   rw[e];exact S9 J D hx A.2.1
  refine jf.app (jf.flat fun f hf=>?_) (jT J (x:=x) rfl hx rfl (I k hk) (ax A.2.1) (fun D=>by rw[show(⟨3,id,x,(k:Int)+1,st.ag,st.aw,left,0⟩:ir).ag=p from ep];exact a7 D));rw[ef] at hf;obtain⟨a,b,c,d,bb⟩:=A.2.2.2 f hf;exact jT J (x:=x) (by show(f.inst:Int)=x;rw[a]) hx rfl (by show(f.k:Int)+1=1\/(f.k:Int)+1=2;rw[b];omega) (a2 f (a▸hx) (a▸c▸A.2.1) bb) (fun D=>by rw[show(oC f).ag=p from c];exact a7 D)
 |some y=>
  obtain⟨y1,y2,y3,y4,y5,y6⟩:=NQ (k:=1 - k) ae hn y rfl;have F:=Mt h.fine hx (k:=1 - k) ae y1 (t:=min q' q) ae ae;rw[<-ef] at F;obtain⟨p0,p1,w0,w1,f0,f1,g0,g1,a3⟩:=F.p;have O:∀f∈st.U,f.k<2:=fun f hf=>by
   rcases F.mem f hf with⟨_,b,_⟩|⟨_,b,_⟩<;>omega
  have a4:∀z,fg P z st=(jq st.U st.ag (cy P.n z).1,jq st.U st.ag (cy P.n z).2):=fun z=>by unfold fg;rw[ay];rfl
  have a5:∀f∈st.U,f.inst=y.i0->zL P (oC f):=fun f hf a=>a2 f (a▸F.i0) (by rw[a,f0 f hf a];exact w0) (F.fb f hf);have a6:∀f∈st.U,f.inst=y.i1->zL P (oC f):=fun f hf a=>a2 f (a▸F.i1) (by rw[a,f1 f hf a];exact w1) (F.fb f hf);have m0:jq st.U st.ag y.i0=p0:=FO f0 g0;have m1:jq st.U st.ag y.i1=p1:=FO f1 g1;rcases a3 with⟨c1,c2,c3,c4,c5⟩|⟨c1,c2,c3,c5⟩|⟨c1,c2,c3,c5⟩
  ·
   obtain⟨s1,s2,s3⟩:=J.spread c3 c4;have mx:jq st.U st.ag x=st.ag:=zA fun f hf=>by
    rcases F.mem f hf with⟨a,_⟩|⟨a,_⟩<;>omega
   refine jf.app (jf.flat fun f hf=>?_) (jT J (x:=x) rfl hx rfl (I k hk) (ax (y5▸y4)) (fun D=>ae));rcases F.mem f hf with⟨a,b,_⟩|⟨a,b,_⟩
   ·refine jT J (x:=y.i0) (by show(f.inst:Int)=_;rw[a]) F.i0 rfl (I _ (O f hf)) (a5 f hf a) (fun D=>?_)
    rw[a4,c2,s3];simp only;rw[mx,m1,show(oC f).ag=p0 from f0 f hf a,ep];exact⟨ae,y5▸y4,w1⟩
   ·exact jT J (x:=y.i1) (by show(f.inst:Int)=_;rw[a]) F.i1 rfl (I _ (O f hf)) (a6 f hf a) (fun D=>ae)
  ·obtain⟨s1,s2,s3⟩:=J.spread c3 c1
   have mx:jq st.U st.ag x=st.ag:=zA fun f hf=>by
    rcases F.mem f hf with⟨a,_⟩|⟨a,_⟩<;>omega
   refine jf.app (jf.flat fun f hf=>?_) (jT J (x:=x) rfl hx rfl (I k hk) (ax (y5▸y4)) (fun D=>ae));rcases F.mem f hf with⟨a,b,_⟩|⟨a,b,_⟩
   ·refine jT J (x:=y.i0) (by show(f.inst:Int)=_;rw[a]) F.i0 rfl (I _ (O f hf)) (a5 f hf a) (fun D=>?_)
    rw[a4,c2,s3];simp only;rw[mx,m1,show(oC f).ag=p0 from f0 f hf a,ep];exact⟨ae,w1,y5▸y4⟩
   ·exact jT J (x:=y.i1) (by show(f.inst:Int)=_;rw[a]) F.i1 rfl (I _ (O f hf)) (a6 f hf a) (fun D=>ae)
  ·obtain⟨l1,l2,_⟩:=J.RG c1 hx
   refine jf.app (jf.flat fun f hf=>?_) (jT J (x:=x) rfl hx rfl (I k hk) (ax (y5▸y4)) (fun D=>?_))
   ·rcases F.mem f hf with⟨a,b,_⟩|⟨a,b,_⟩
    ·exact jT J (x:=y.i0) (by show(f.inst:Int)=_;rw[a]) F.i0 rfl (I _ (O f hf)) (a5 f hf a) (fun D=>ae)
    ·exact jT J (x:=y.i1) (by show(f.inst:Int)=_;rw[a]) F.i1 rfl (I _ (O f hf)) (a6 f hf a) (fun D=>ae)
   ·rw[a4,<-c2,<-c3,m0,m1]
    simp only;exact⟨by rw[ep];omega,w0,w1⟩
theorem JW (x k:Nat) (ag:Int):∀(f:Nat) (S:Sm) (aw:Int),SB 1000000 S->∀st∈(dV P f S x k ag aw).2.1,0<=st.aw/\st.aw<=aw
 |0,S,aw,_,st,h=>by simp[dV] at h
 |f+1,S,aw,hS,st,h=>by
  unfold dV at h
  split at h
  ·simp at h
  ·rename_i hq
   split at h
   ·simp at h
   ·rename_i p q im hn
    have D:=hS.next hn
    split at h
    ·rcases a9.1 h with rfl|h
     ·exact⟨by show 0<=min aw q;omega,by show min aw q<=aw;omega⟩
     ·have:=JW x k ag f _ _ (hS.nT _ _ _ _) st h
      omega
    ·simp at h
theorem JX {P:PD} (x k:Nat) (ag:Int):∀(f:Nat) (S:Sm) (aw:Int),SB 1000000 S->0<=aw->((dV P f S x k ag aw).2.1.map (·.aw)).sum<=aw
 |0,S,aw,_,h=>by simp[dV];exact h
 |f+1,S,aw,hS,h=>by
  unfold dV
  split
  ·simpa using h
  ·split
   ·simpa using h
   ·rename_i p q im hn
    have D:=hS.next hn
    split
    ·have I:=JX (P:=P) x k ag f (dA P S x (1 - k) im (min aw q)).1 (aw - min aw q) (hS.nT _ _ _ _) ae
     simp only[aW,cN];omega
    ·simpa using h
theorem Db (I:k<2) (hx:x<P.count) (id:Int):∀(l:List jz) (left:Int),(∀st∈l,∃S' q' p q im,Mp P S x k ag S' q' p q im st)->(∀st∈l,0<=st.aw/\st.aw<=1000000)->(l.map (·.aw)).sum<=left->left<=1000000->jf P (kj P id x k l left)
 |[],left,_,_,_,_=> .nil
 |st::l,left,h,hq,hs,hl=>by
  obtain⟨S',q',p,q,im,D⟩:=h st bT;have J:=hq st bT;have h2:0<=(l.map (·.aw)).sum:=by
   have:∀m:List jz,(∀s∈m,0<=s.aw)->0<=(m.map (·.aw)).sum:=fun m=>by
    induction m with
    |nil=>intro _;simp
    |cons a m O=>intro hm;have:=hm a bT;have:=O fun s hs=>hm s (by simp[hs]);simp only[aW,cN];omega
   exact this l fun s hs=>(hq s (by simp[hs])).1
  simp only[aW,cN] at hs;unfold kj;exact(Qc I hx D id _ ae J).app (Db I hx id l _ (fun s hs=>h s (by simp[hs])) (fun s hs=>hq s (by simp[hs])) ae ae)
theorem Dc (hS:pn P m.S) (id:Int) (hk:k<2) (hx:x<P.count) (ag aw time:Int) (hw:P.fy x ag=0) (hq:0<=aw/\aw<=1000000):jf P (iE P m id x k ag aw time).2:=by
 have D:=hS.right.ag hw;have hs:=Db (S:=m.S) hk hx (ag:=ag) id (dV P aw.toNat m.S x k ag aw).2.1 aw (CW x k ag _ _ _ hS) (fun st J=>cA (JW x k ag _ _ _ hS.sb st J)) (JX x k ag _ _ _ hS.sb hq.1) hq.2;have O:jf P ((⟨1,id,x,(k:Int)+1,ag,aw,aw,0⟩:ir)::kj P id x k (dV P aw.toNat m.S x k ag aw).2.1 aw):= .one _ _ ⟨⟨x,rfl,hx⟩,⟨D.1,D.2.1⟩,hq,hq⟩ (.inl (by show(1:Int)≠3;omega)) hs;have I:=CZ (P:=P) x k ag aw.toNat m.S aw hS.sb hq.1;unfold iE;simp only
 split
 ·exact O
 ·split
  ·exact O
  ·exact O.app (.one _ [] ⟨⟨x,rfl,hx⟩,⟨D.1,D.2.1⟩,⟨I.1,by show(dV P aw.toNat m.S x k ag aw).2.2<=1000000;omega⟩,⟨cM _,by show(0:Int)<=1000000;omega⟩⟩ (.inl (by show(4:Int)≠3;omega)) .nil)
theorem nu (D:P.gZ) (id fy:Int):jf P (mH id fy):= .one _ [] ⟨⟨0,rfl,cA D.cnt⟩,⟨by show(-2000000:Int)<=0;omega,by show(0:Int)<=2000000;omega⟩,⟨cM _,by show(0:Int)<=1000000;omega⟩,⟨cM _,by show(0:Int)<=1000000;omega⟩⟩ (.inl (by show(2:Int)≠3;omega)) .nil
theorem U0 {x:Int} (h:P.oY x p=0):0<=x/\x.toNat<P.count/\P.fy x.toNat p=0:=by
 unfold PD.oY at h
 split at h
 ·cases h
 ·exact⟨ae,ae,h⟩
theorem U3 (hS:pn P m.S) (c:bN):jf P (pC P m c).2:=by
 unfold pC
 split
 ·exact nu hS.right _ _
 ·rename_i hr
  have hr:dx c=0:=by simpa using hr
  split
  ·rename_i D
   have J:=CY hr D;have a5:=J.side;unfold lW;simp only
   generalize(if c.time=3 then c.aw else c.least)=a6
   split
   ·exact nu hS.right _ _
   ·rename_i hw
    obtain⟨_,b,hw'⟩:=U0 (by simpa using hw)
    split
    ·exact nu hS.right _ _
    ·split
     ·exact nu hS.right _ _
     ·split
      ·exact nu hS.right _ _
      ·split
       ·exact nu hS.right _ _
       ·exact Dc hS _ ae b _ _ _ hw' (jE J.q1 J.q2)
  ·rename_i D
   split
   ·exact nu hS.right _ _
   ·rename_i x k p e hf
    obtain⟨M,hM,hk,r,O,h3,h4,h5⟩:=sJ hf;have hx:x<P.count:=by rw[<-hS.sn];exact(az.1 hM).1
    have heq:=(hS.xX x M hM).ok e (fX O h4);have he:1<=e.aw:=heq.1;have a0:P.fy x p=0:=h3▸hS.pr x k M r hM O;have I:=hS.right.ag a0;have ax:jf P (dG m c.id x k p e).2:= .one _ [] ⟨⟨x,rfl,hx⟩,⟨I.1,I.2.1⟩,⟨by show 0<=e.aw;omega,heq.2.1⟩,⟨cM _,by show(0:Int)<=1000000;omega⟩⟩ (.inl (by show(4:Int)≠3;omega)) .nil;have ay:∀q,0<=q->q<=e.aw->jf P (jh m c.id q x k p e).2:=fun q a2 a7=> .one _ [] ⟨⟨x,rfl,hx⟩,⟨I.1,I.2.1⟩,⟨a2,by show q<=1000000;omega⟩,⟨by show 0<=e.aw - q;omega,by show e.aw - q<=1000000;omega⟩⟩ (.inl (by show(5:Int)≠3;omega)) .nil
    split
    ·rename_i a3
     have hq:=sS hr D ae;unfold replaceM;simp only
     split
     ·exact nu hS.right _ _
     ·rename_i a4
      split
      ·rename_i a8
       exact ay _ ae ae
      ·split
       ·exact nu hS.right _ _
       ·exact ax.app (Dc (hS.less (iy.cutAt m.S x c.id e.aw ae)) _ hk hx _ _ _ (by simpa using a4) ae)
    ·split
     ·exact ax
     ·rename_i a3 ba
      have hq:=sS hr D ae;exact ay _ ae ae
end Go.Proofs.YtbaaheidifacaaaGreat
