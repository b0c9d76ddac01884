import Derived.Test.YtbaaheidifacaaaGreatQMktP
set_option linter.defProp false
set_option linter.unusedVariables false
set_option linter.unusedSimpArgs false
set_option maxRecDepth 100000
set_option maxHeartbeats 12800000
namespace Go.Proofs.YtbaaheidifacaaaGreat
variable {P:PD} {S:Sm} {e':dn} {id p ag q:Int} {im:Option Qt} {k x:Nat} {l:List iQ} {m:Mk} {r:ir} {st:jz}
open Go.RowKit
theorem At.stands (h:At S x k p id):fI S id:=by
 obtain⟨M,r,e,D,I,_,J,O⟩:=h;exact⟨x,M,e,D,fX I J,O⟩
theorem ab1 {e:dn}:∀{l:List iQ} {r:iQ},r∈mo k l p e->e'∈r.2->(r.1=p/\e'=e)\/∃D∈l,D.1=r.1/\e'∈D.2
 |[],r,h,he=>by
  simp[mo] at h;subst h;simp at he;exact .inl ⟨rfl,he⟩
 |a::l,r,h,he=>by
  unfold mo at h
  split at h
  ·rcases a9.1 h with rfl|h
   ·exact .inr ⟨r,bT,rfl,he⟩
   ·rcases ab1 h he with h|⟨D,I,J⟩
    ·exact .inl h
    ·exact .inr ⟨D,by simp[I],J⟩
  ·split at h
   ·rename_i hp
    rcases a9.1 h with rfl|h
    ·rcases aJ.1 he with h|h
     ·exact .inr ⟨a,bT,rfl,h⟩
     ·simp at h;exact .inl ⟨hp,h⟩
    ·exact .inr ⟨r,by simp[h],rfl,he⟩
   ·rcases a9.1 h with rfl|h
    ·simp at he;exact .inl ⟨rfl,he⟩
    ·exact .inr ⟨r,h,rfl,he⟩
theorem ab2 {r:iQ} (h:r∈jo k l id p q) (he:e'∈r.2):(r.1=p/\e'.id=id)\/∃I∈l,I.1=r.1/\∃J∈I.2,J.id=e'.id:=by
 unfold jo at h;rcases ab1 h he with⟨D,rfl⟩|⟨I,D,O,h3⟩
 ·exact .inl ⟨D,rfl⟩
 ·split at D
  ·unfold yx at D
   obtain⟨r1,a1,rfl⟩:=aV.1 D;obtain⟨J,b1,rfl⟩:=aV.1 h3;exact .inr ⟨r1,a1,O,J,b1,rfl⟩
  ·exact .inr ⟨I,D,O,e',h3,rfl⟩
theorem acz (hk:k<2) {I k':Nat} (ay:k'<2) {J D:Int} (h:At (oW S x k id p q) I k' J D):(D=id/\I=x/\k'=k/\J=p)\/At S I k' J D:=by
 obtain⟨N,r,e,O,h2,h3,h4,h5⟩:=h;unfold oW at O
 split at O
 ·rename_i M hM
  rcases nX O with⟨rfl,rfl⟩|⟨_,O⟩
  ·have keep:r∈M.side k'->At S I k' J D:=fun h=>⟨M,r,e,hM,h,h3,h4,h5⟩
   have put:∀l,l=M.side k'->k'=k->r∈jo k' l id p q->(D=id/\I=I/\k'=k/\J=p)\/At S I k' J D:=fun l hl ax h=>by
    rcases ab2 h h4 with⟨a,b⟩|⟨r0,a,b,e0,c,d⟩
    ·exact .inl ⟨h5.symm.trans b,rfl,ax,h3.symm.trans a⟩
    ·exact .inr ⟨M,r0,e0,hM,hl▸a,b.trans h3,c,d.trans h5⟩
   have c1:k=0\/k=1:=ae;have c2:k'=0\/k'=1:=ae;rcases c1 with rfl|rfl<;>rcases c2 with rfl|rfl
   ·exact put M.s0 rfl rfl h2
   ·exact .inr (keep h2)
   ·exact .inr (keep h2)
   ·exact put M.s1 rfl rfl h2
  ·exact .inr ⟨N,r,e,O,h2,h3,h4,h5⟩
 ·exact .inr ⟨N,r,e,O,h2,h3,h4,h5⟩
structure Ac where
 ag:Int→Int
 inst:Int→Int
 side:Int→Int
variable {A:Ac}
def Ac.upd (A:Ac) (r:ir):Ac:=if r.kind=1 then ⟨fun y=>if y=r.id then r.ag else A.ag y,fun y=>if y=r.id then r.inst else A.inst y,fun y=>if y=r.id then r.side else A.side y⟩ else A
def Ac.go:Ac→List ir→Ac
 |A,[]=>A
 |A,r::l=>Ac.go (A.upd r) l
def okL (A:Ac) (r:ir):Prop:=r.kind=3→r.inst=A.inst r.id→r.side=A.side r.id∧(A.side r.id=1→r.ag≤A.ag r.id)∧(A.side r.id=2→A.ag r.id≤r.ag)
def chk:Ac→List ir→Prop
 |_,[]=>True
 |A,r::l=>okL (A.upd r) r∧chk (A.upd r) l
theorem aaZ:∀(l m:List ir) (A:Ac),A.go (l++m)=(A.go l).go m
 |[],m,A=>rfl
 |r::l,m,A=>aaZ l m (A.upd r)
theorem aa0:∀(l m:List ir) (A:Ac),chk A l->chk (A.go l) m->chk A (l++m)
 |[],m,A,_,h=>h
 |r::l,m,A,D,I=>⟨D.1,aa0 l m (A.upd r) D.2 I⟩
theorem aa1 (h:r.kind≠1):A.upd r=A:=by unfold Ac.upd;rw[if_neg h]
theorem aa2:∀{l:List ir},(∀r∈l,r.kind≠1)->A.go l=A
 |[],_=>rfl
 |r::l,h=>by
  unfold Ac.go;rw[aa1 (h r bT)];exact aa2 fun x hx=>h x (by simp[hx])
theorem aap:∀{l:List ir},(∀r∈l,r.kind≠1/\okL A r)->chk A l
 |[],_=>trivial
 |r::l,h=>by
  unfold chk;rw[aa1 (h r bT).1];exact⟨(h r bT).2,aap fun x hx=>h x (by simp[hx])⟩
def Z1 (A:Ac) (S:Sm):Prop:=∀(x k:Nat) (p id:Int),k<2→At S x k p id→A.inst id=x∧A.side id=(k:Int)+1∧A.ag id=p
theorem Z1.less {S':Sm} (h:Z1 A S) (D:iy S' S):Z1 A S':=fun x k p id I ha=>h x k p id I (D.at_ ha)
theorem abd (J:P.gZ) (hx:r.inst=(x:Int)) (hc:x<P.count) (hi:A.inst r.id=x) (h:okL A r):∀r'∈lz P st r,okL A r':=by
 intro r' D;rcases aac D with rfl|⟨I,O,h3,h4⟩
 ·exact h
 ·intro _ h5
  rw[O,hi] at h5;have e:r.inst.toNat=x:=ae;rw[e] at I h4;obtain⟨l1,l2,_⟩:=J.RG I hc;omega
theorem acn (hk:k<2) (hx:x<P.count) {S':Sm} {q':Int} (h:Mp P S x k ag S' q' p q im st):
  ∀f∈st.U,f.inst<P.count/\f.k<2/\At S f.inst f.k f.ag f.id:=by
 intro f hf;have D:1<=q:=h.fine.sb.next h.next
 have I:=h.q1;have hn:=h.next
 have J:st.U=(dA P S' x (1 - k) im (min q' q)).2:=by rw[h.st]
 rw[J] at hf
 cases im with
 |none=>
  have A:=C7 h.fine (Qa hn) (t:=min q' q) ae ae;obtain⟨a,b,c,d,_⟩:=A.2.2.2 f hf;rw[a,b,c];exact⟨A.1,ae,h.less.at_ d⟩
 |some y=>
  obtain⟨y1,O,y3,y4,y5,y6⟩:=NQ (k:=1 - k) ae hn y rfl;have F:=Mt h.fine hx (k:=1 - k) ae y1 (t:=min q' q) ae ae;rcases F.mem f hf with⟨a,b,c⟩|⟨a,b,c⟩
  ·rw[a,b];exact⟨F.i0,O,h.less.at_ c⟩
  ·rw[a,b];exact⟨F.i1,y3,h.less.at_ c⟩
theorem aaN (I:P.gZ) (O:k<2) (hx:x<P.count) (h1:A.inst id=x) (h2:A.side id=(k:Int)+1) (J:A.ag id=ag)
  (hA:∀(x k:Nat) (p y:Int),k<2->At S x k p y->A.inst y=x/\A.side y=(k:Int)+1/\A.ag y=p):∀(l:List jz) (left:Int),(∀st∈l,∃S' q' p q im,Mp P S x k ag S' q' p q im st)->∀r∈kj P id x k l left,okL A r
 |[],left,_,r,hr=>by simp[kj] at hr
 |st::l,left,h,r,hr=>by
  unfold kj at hr;rcases aJ.1 hr with hr|hr
  ·obtain⟨S',q',p,q,im,D⟩:=h st bT
   unfold nH at hr;rcases aJ.1 hr with hr|hr
   ·obtain⟨f,hf,hr⟩:=dD.1 hr
    obtain⟨a,b,c⟩:=acn O hx D f hf;obtain⟨d1,d2,d3⟩:=hA _ _ _ _ b c;refine abd I (x:=f.inst) rfl a d1 ?_ r hr;intro _ _;refine⟨d2.symm,fun _=>?_,fun _=>?_⟩
    ·show f.ag<=A.ag f.id;omega
    ·show A.ag f.id<=f.ag;omega
   ·refine abd I (x:=x) rfl hx h1 ?_ r hr
    intro _ _;have hg:=D.US;have ep:st.ag=p:=by rw[D.st]
    unfold lp at hg;refine⟨h2.symm,fun h=>?_,fun h=>?_⟩
    ·rw[show(⟨3,id,x,(k:Int)+1,st.ag,st.aw,left - st.aw,0⟩:ir).ag=p from ep,show(⟨3,id,x,(k:Int)+1,st.ag,st.aw,left - st.aw,0⟩:ir).id=id from rfl,J]
     have h':A.side id=1:=h;rw[if_pos ae] at hg;simpa using hg
    ·rw[show(⟨3,id,x,(k:Int)+1,st.ag,st.aw,left - st.aw,0⟩:ir).ag=p from ep,show(⟨3,id,x,(k:Int)+1,st.ag,st.aw,left - st.aw,0⟩:ir).id=id from rfl,J]
     have h':A.side id=2:=h;rw[if_neg ae] at hg;simpa using hg
  ·exact aaN I O hx h1 h2 J hA l _ (fun s hs=>h s (by simp[hs])) r hr
theorem aaO (hS:pn P m.S) (hA:Z1 A m.S) (hs:¬fI m.S id) (hk:k<2) (hx:x<P.count) (ag aw time:Int):
  chk A (iE P m id x k ag aw time).2/\Z1 (A.go (iE P m id x k ag aw time).2) (iE P m id x k ag aw time).1.S:=by
 obtain⟨acc,D⟩:=Zn (⟨1,id,x,(k:Int)+1,ag,aw,aw,0⟩:ir);obtain⟨A',O⟩:=Zn (A.upd acc);have b1:A'.inst id=x:=by rw[O,D];simp[Ac.upd]
 have b2:A'.side id=(k:Int)+1:=by rw[O,D];simp[Ac.upd]
 have b3:A'.ag id=ag:=by rw[O,D];simp[Ac.upd]
 have ax:Z1 A' m.S:=fun x' k' p' y I ha=>by
  have hy:y≠id:=fun e=>hs (e▸ha.stands);have:=hA x' k' p' y I ha;rw[O,D];simpa[Ac.upd,hy] using this
 have a0:=aaN hS.right hk hx b1 b2 b3 ax (dV P aw.toNat m.S x k ag aw).2.1 aw (CW x k ag _ _ _ hS);have ay:∀r∈kj P id x k (dV P aw.toNat m.S x k ag aw).2.1 aw,r.kind≠1:=fun r hr=>cA (ZQ hr);have hc:chk A (acc::kj P id x k (dV P aw.toNat m.S x k ag aw).2.1 aw):=by
  refine⟨fun h=>?_,?_⟩
  ·rw[D] at h;exact absurd h (by show(1:Int)≠3;omega)
  ·rw[<-O]
   exact aap fun r hr=>⟨ay r hr,a0 r hr⟩
 have hg:A.go (acc::kj P id x k (dV P aw.toNat m.S x k ag aw).2.1 aw)=A':=by
  show(A.upd acc).go _=_;rw[<-O];exact aa2 ay
 have hl:=iy.run P x k ag aw.toNat m.S aw;have J:=ax.less hl;unfold iE;simp only;rw[<-D]
 split
 ·exact⟨hc,hg▸J⟩
 ·split
  ·refine⟨hc,?_⟩
   rw[hg];intro x' k' p' y I ha;rcases acz hk I ha with⟨rfl,rfl,rfl,rfl⟩|ha
   ·exact⟨b1,b2,b3⟩
   ·exact J x' k' p' y I ha
  ·refine⟨aa0 _ _ _ hc ?_,?_⟩
   ·rw[hg]
    exact aap fun r hr=>by
     simp at hr;rw[hr];exact⟨by show(4:Int)≠1;omega,fun h=>absurd h (by show(4:Int)≠3;omega)⟩
   ·rw[aaZ,hg,aa2 (fun r hr=>by simp at hr;rw[hr];show(4:Int)≠1;omega)]
    exact J
theorem aad (h:r.kind≠1/\r.kind≠3) (hA:Z1 A S):chk A [r]/\Z1 (A.go [r]) S:=by
 refine⟨aap fun y D=>?_,?_⟩
 ·simp at D;rw[D];exact⟨h.1,fun e=>absurd e h.2⟩
 ·rw[aa2 (fun y D=>by simp at D;rw[D];exact h.1)]
  exact hA
theorem ZK (id fy:Int) (hA:Z1 A S):chk A (mH id fy)/\Z1 (A.go (mH id fy)) S:=aad ⟨by show(2:Int)≠1;omega,by show(2:Int)≠3;omega⟩ hA
theorem acA (hF:pn P m.S) (su:∀id,fI m.S id->m.used id=true) (hA:Z1 A m.S) (c:bN):chk A (pC P m c).2/\Z1 (A.go (pC P m c).2) (pC P m c).1.S:=by
 unfold pC
 split
 ·exact ZK _ _ hA
 ·rename_i hr
  have hr:dx c=0:=by simpa using hr
  split
  ·rename_i D
   have hn:=CY hr D;have O:=hn.side;unfold lW;simp only
   generalize(if c.time=3 then c.aw else c.least)=ax
   split
   ·exact ZK _ _ hA
   ·rename_i hw
    obtain⟨w1,w2,w3⟩:=U4 (by simpa using hw)
    split
    ·exact ZK _ _ hA
    ·rename_i hu
     split
     ·exact ZK _ _ hA
     ·split
      ·exact ZK _ _ hA
      ·split
       ·exact ZK _ _ hA
       ·exact aaO hF hA (fun hs=>hu (su _ hs)) ae w2 _ _ _
  ·rename_i D
   split
   ·exact ZK _ _ hA
   ·rename_i x k p e hf
    obtain⟨hx,hk,I,ay,a0,hw,ha,M,hM,J⟩:=Ta hF hf;have hcut:iy (cutAt m.S x c.id e.aw) m.S:=iy.cutAt m.S x c.id e.aw ae
    split
    ·rename_i a2
     have hq:=sS hr D ae;unfold replaceM;simp only
     split
     ·exact ZK _ _ hA
     ·split
      ·exact aad ⟨by show(5:Int)≠1;omega,by show(5:Int)≠3;omega⟩ (hA.less (iy.cutAt _ _ _ _ ae))
      ·split
       ·exact ZK _ _ hA
       ·have hg:=hF.gone hM J
        rw[I] at hg;have c1:=aad (r:=⟨4,c.id,x,(k:Int)+1,p,e.aw,0,0⟩) ⟨by show(4:Int)≠1;omega,by show(4:Int)≠3;omega⟩ (hA.less hcut);have c2:=aaO (m:=(dG m c.id x k p e).1) (hF.less hcut) c1.2 hg.1 hk hx c.ag c.aw 1;refine⟨aa0 _ _ _ c1.1 c2.1,?_⟩;rw[aaZ];exact c2.2
    ·split
     ·exact aad ⟨by show(4:Int)≠1;omega,by show(4:Int)≠3;omega⟩ (hA.less hcut)
     ·rename_i a3
      have hq:=sS hr D ae;exact aad ⟨by show(5:Int)≠1;omega,by show(5:Int)≠3;omega⟩ (hA.less (iy.cutAt _ _ _ _ ae))
theorem Z1.new (P:PD) (A:Ac):Z1 A (Mk.new P).S:=fun x k p id _ ha=>by
 obtain⟨M,r,e,D,I,_,_,_⟩:=ha;unfold Mk.new at D;simp only at D;rw[gM] at D
 split at D
 ·injection D with D
  subst D;unfold BM.side at I
  split at I<;>simp at I
 ·cases D
end Go.Proofs.YtbaaheidifacaaaGreat
