import Derived.Test.YtbaaheidifacaaaGreatQLawLegsC2
set_option linter.defProp false
set_option linter.unusedVariables false
set_option linter.unusedSimpArgs false
set_option maxRecDepth 100000
set_option maxHeartbeats 12800000
namespace Go.Proofs.YtbaaheidifacaaaGreat
variable {P:PD} {c:bN} {id:Int} {l:List ir} {x:Nat}
open Go.RowKit
theorem abV {n t wi ru top le pa:Int} {i:Nat} (O:(zn n t wi ru top le pa).gZ) (ht:1<=t/\t<=10) (hw:0<=wi) (h:(rB (zn n t wi ru top le pa) c i).kind=1):(zn n t wi ru top le pa).oY (rB (zn n t wi ru top le pa) c i).inst (rB (zn n t wi ru top le pa) c i).ag=0:=by
 obtain⟨P,I⟩:=Zn (zn n t wi ru top le pa);have e1:P.tick=t:=by rw[I];rfl
 have e2:P.low= -20*t:=by rw[I];rfl
 have e3:P.high=100*t:=by rw[I];rfl
 have e4:P.wide=t*(5+wi):=by rw[I];rfl
 rw[<-I] at O h⊢;have ax:5*t<=P.wide:=by
  rw[e4,lM 5 t];exact gh ae ae
 have hT:=Tj O c i
 generalize rB P c i=y at hT h
 cases hT with
 |new x s a q ay tm h1 h2 h3 h4 h5 h6 h7 h8 h9 a0 a2 a3=>
  have g1:0<=t*a:=jG ae h5;have g2:t*a<=t*9:=gh h6 ae;show P.oY x (if x<P.n then P.tick*a+8*P.tick else P.tick*a - 4*P.tick)=0;unfold PD.oY;rw[if_neg ae];unfold PD.fy PD.lo PD.hi;rw[e1]
  by_cases hx:x<P.n
  ·have D:x.toNat<P.n:=ae
   have J:(t*a+8*t) % t=0:=by
    rw[show t*a+8*t=t*(a+8) by rw[zN,lM t 8],Int.mul_emod_right]
   simp only[if_pos hx,if_pos D,J];rw[if_neg ae,if_neg ae]
  ·have D:¬x.toNat<P.n:=ae
   have J:(t*a - 4*t) % t=0:=by
    rw[show t*a - 4*t=t*(a - 4) by rw[ku,lM t 4],Int.mul_emod_right]
   simp only[if_neg hx,if_neg D,J];rw[if_neg ae,if_neg ae]
 |QI kd id a q h1 h2 h3 h4 h5 h6 h7 h8=>
  exact absurd h (by show kd≠1;omega)
def Qz (id inst:Int) (r:ir):Int:=if r.id=id∧r.inst=inst∧r.kind=3 then r.aw else 0
def Bb (id inst:Int) (l:List ir):Int:=(l.map (Qz id inst)).sum
def Cb (id:Int):Int→List ir→Int
 |g,[]=>g
 |g,r::l=>Cb id (if r.id=id∧r.kind=4 then r.aw else g) l
theorem ZU (id inst:Int) (l m:List ir):Bb id inst (l++m)=Bb id inst l+Bb id inst m:=by unfold Bb;rw[cx,MR]
theorem aaB {inst:Int} (h:∀r∈l,Qz id inst r=0):Bb id inst l=0:=by
 unfold Bb;rw[cJ h]
 induction l with
 |nil=>rfl
 |cons r l D=>simp only[aW,cN];rw[D fun x hx=>h x (by simp[hx])];rfl
theorem Z7:∀{l:List ir} {g:Int},(∀r∈l,r.kind≠4)->Cb id g l=g
 |[],g,_=>rfl
 |r::l,g,h=>by
  unfold Cb;rw[if_neg (fun e=>h r bT e.2)];exact Z7 fun x hx=>h x (by simp[hx])
theorem Z8 (id:Int):∀(l m:List ir) (g:Int),Cb id g (l++m)=Cb id (Cb id g l) m
 |[],m,g=>rfl
 |r::l,m,g=>Z8 id l m _
theorem acd (J:P.gZ) {st:jz} {r:ir} (hx:r.inst=(x:Int)) (hc:x<P.count) (I:r.kind=3) (D:r.id=id):Bb id x (lz P st r)=r.aw:=by
 unfold lz
 split
 ·simp[Bb,Qz,I,D,hx]
 ·rename_i hn
  have e:r.inst.toNat=x:=ae;rw[e] at hn;obtain⟨l1,l2,_⟩:=J.RG (x:=x) ae hc;unfold nW Bb;simp only[aW,iM,cN,List.sum_nil];have O:Qz id x {r with inst:=((cy P.n r.inst.toNat).1:Int),ag:=(fg P r.inst.toNat st).1}=0:=by
   unfold Qz;simp only;rw[e,if_neg ae]
  have h2:Qz id x {r with inst:=((cy P.n r.inst.toNat).2:Int),side:=3 - r.side,ag:=(fg P r.inst.toNat st).2}=0:=by
   unfold Qz;simp only;rw[e,if_neg ae]
  rw[O,h2];unfold Qz;rw[if_pos ⟨D,hx,I⟩];omega
theorem aaU (I:P.gZ) {k:Nat} (hc:x<P.count):∀(l:List jz) (left:Int),(∀st∈l,∀f∈st.U,f.id≠id)->Bb id x (kj P id x k l left)=(l.map (·.aw)).sum
 |[],left,_=>rfl
 |st::l,left,h=>by
  unfold kj;rw[ZU,aaU I hc l _ fun s hs=>h s (by simp[hs])];have:Bb id x (nH P id x k st (left - st.aw))=st.aw:=by
   unfold nH;rw[ZU,acd I (r:=⟨3,id,x,(k:Int)+1,st.ag,st.aw,left - st.aw,0⟩) (x:=x) rfl hc rfl rfl,aaB fun r hr=>?_]
   ·show 0+st.aw=st.aw;omega
   ·obtain⟨f,hf,hr⟩:=dD.1 hr
    have D:r.id=f.id:=by
     rcases aac hr with rfl|⟨_,J,_⟩
     ·rfl
     ·exact J
    have:=h st bT f hf;unfold Qz;rw[if_neg (fun e=>this (D.symm.trans e.1))]
  rw[this];simp
theorem abD {P:PD} (x k:Nat) (ag:Int):∀(f:Nat) (S:Sm) (aw:Int),((dV P f S x k ag aw).2.1.map (·.aw)).sum+(dV P f S x k ag aw).2.2=aw
 |0,S,aw=>by simp[dV]
 |f+1,S,aw=>by
  unfold dV
  split
  ·simp
  ·split
   ·simp
   ·rename_i p q im hn
    split
    ·have D:=abD (P:=P) x k ag f (dA P S x (1 - k) im (min aw q)).1 (aw - min aw q)
     simp only[aW,cN];omega
    ·simp
theorem abE (x k:Nat) (ag:Int):∀(f:Nat) (S:Sm) (aw:Int),SB 1000000 S->aw.toNat<=f->0<(dV P f S x k ag aw).2.2->
  (∀p q im,jZ P (dV P f S x k ag aw).1 x (1 - k)=some (p,q,im)->lp k ag p=false)
 |0,S,aw,hS,hf,h=>by
  have:(dV P 0 S x k ag aw).2.2=aw:=rfl;omega
 |f+1,S,aw,hS,hf,h=>by
  by_cases hq:aw<=0
  ·rw[sQ hq] at h
   have h':0<aw:=h;omega
  ·cases hn:jZ P S x (1 - k) with
   |none=>
    have e:dV P (f+1) S x k ag aw=(S,[],aw):=by
     unfold dV;rw[if_neg hq,hn]
    rw[e];intro p q im I;have D:jZ P S x (1 - k)=some (p,q,im):=I;rw[hn] at D
    cases D
   |some o=>
    obtain⟨p,q,im⟩:=o
    by_cases hg:lp k ag p=true
    ·have e1:(dV P (f+1) S x k ag aw).1=(dV P f (dA P S x (1 - k) im (min aw q)).1 x k ag (aw - min aw q)).1:=by
      rw[dV,if_neg hq,hn];simp only;rw[if_pos hg]
     have e2:(dV P (f+1) S x k ag aw).2.2=(dV P f (dA P S x (1 - k) im (min aw q)).1 x k ag (aw - min aw q)).2.2:=by
      rw[dV,if_neg hq,hn];simp only;rw[if_pos hg]
     have O:=hS.next hn
     rw[e2] at h;rw[e1];exact abE x k ag f _ _ (hS.nT _ _ _ _) ae h
    ·have e:dV P (f+1) S x k ag aw=(S,[],aw):=by
      rw[dV,if_neg hq,hn];simp only;rw[if_neg hg]
     rw[e];intro p' q' J I;have D:jZ P S x (1 - k)=some (p',q',J):=I;rw[hn] at D;injection D with D;injection D with D _;rw[<-D];simpa using hg
theorem abr {S:Sm} {k:Nat} {ag:Int} (h:∀p q im,jZ P S x (1 - k)=some (p,q,im)->lp k ag p=false):ng P S x k ag 1=0:=by
 unfold ng;rw[show(1:Int).toNat=0+1 from rfl];unfold dV;rw[if_neg ae]
 cases hn:jZ P S x (1 - k) with
 |none=>rfl
 |some o=>
  obtain⟨p,q,im⟩:=o;have:=h p q im hn;simp only;rw[this];rfl
theorem ace {m:Mk} (hF:pn P m.S) (su:∀id,fI m.S id->m.used id=true) (hr:dx c=0) (D:c.kind=1) (ht:c.time=2) (hl:c.least=0) (hw:P.oY c.inst c.ag=0) (hu:m.used c.id=false) (hc:cK m.S<250):
  Bb c.id c.inst (pC P m c).2=ng P m.S c.inst.toNat (c.side - 1).toNat c.ag c.aw/\
  Bb c.id c.inst (pC P m c).2+Cb c.id 0 (pC P m c).2=c.aw/\
  (Cb c.id 0 (pC P m c).2=0\/ng P (pC P m c).1.S c.inst.toNat (c.side - 1).toNat c.ag 1=0):=by
 obtain⟨w1,w2,w3⟩:=U4 hw;have J:=CY hr D;have hd:pC P m c=iE P m c.id c.inst.toNat (c.side - 1).toNat c.ag c.aw c.time:=by
  unfold pC;rw[hr,if_neg ae,if_pos D];unfold lW;simp only;rw[hw,if_neg ae,hu,if_neg bT,if_neg ae,if_neg (by rw[if_neg ae,hl];omega),if_neg ae]
 rw[hd];obtain⟨x,ex⟩:=Zn c.inst.toNat;obtain⟨k,ek⟩:=Zn ((c.side - 1).toNat);have O:c.inst=(x:Int):=ae;rw[<-ex,<-ek,O];rw[<-ex] at w2;have ax:∀st∈(dV P c.aw.toNat m.S x k c.ag c.aw).2.1,∀f∈st.U,f.id≠c.id:=fun st ay f hf e=>by
  have:=su _ (NN P _ _ _ _ _ _ ay hf);rw[e,hu] at this
  cases this
 have h1:=aaU hF.right (k:=k) w2 (id:=c.id) _ c.aw ax;have h2:=abD (P:=P) x k c.ag c.aw.toNat m.S c.aw;have h3:=abE (P:=P) x k c.ag c.aw.toNat m.S c.aw hF.sb (af _);have h4:=(FQ (P:=P) x k c.ag c.aw.toNat m.S c.aw hF.sb).1 (cA J.q1);have I:∀r∈(⟨1,c.id,x,(k:Int)+1,c.ag,c.aw,c.aw,0⟩:ir)::kj P c.id x k (dV P c.aw.toNat m.S x k c.ag c.aw).2.1 c.aw,r.kind≠4:=fun r hr=>by
  rcases a9.1 hr with rfl|hr
  ·show(1:Int)≠4;omega
  ·have:=ZQ hr;omega
 have h5:Bb c.id x ((⟨1,c.id,x,(k:Int)+1,c.ag,c.aw,c.aw,0⟩:ir)::kj P c.id x k (dV P c.aw.toNat m.S x k c.ag c.aw).2.1 c.aw)=c.aw - (dV P c.aw.toNat m.S x k c.ag c.aw).2.2:=by
  show Qz c.id x _+Bb c.id x _=_;rw[h1];have:Qz c.id x ⟨1,c.id,x,(k:Int)+1,c.ag,c.aw,c.aw,0⟩=0:=by
   unfold Qz;rw[if_neg bT]
  rw[this];omega
 unfold iE;simp only
 split
 ·rename_i hz
  simp only;rw[h5,Z7 I,hz];exact⟨by unfold ng;rw[hz],ae, .inl rfl⟩
 ·rename_i hz
  rw[if_neg ae];simp only;rw[ZU,Z8,Z7 I,h5];have h6:Bb c.id x [⟨4,c.id,x,(k:Int)+1,c.ag,(dV P c.aw.toNat m.S x k c.ag c.aw).2.2,0,0⟩]=0:=aaB fun r hr=>by
   simp at hr;rw[hr];unfold Qz;rw[if_neg bT]
  have h7:Cb c.id 0 [⟨4,c.id,x,(k:Int)+1,c.ag,(dV P c.aw.toNat m.S x k c.ag c.aw).2.2,0,0⟩]=(dV P c.aw.toNat m.S x k c.ag c.aw).2.2:=by simp[Cb]
  rw[h6,h7];refine⟨by unfold ng;omega,ae, .inr (abr (h3 ae))⟩
end Go.Proofs.YtbaaheidifacaaaGreat
