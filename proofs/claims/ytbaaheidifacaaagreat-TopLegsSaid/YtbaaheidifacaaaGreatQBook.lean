import Derived.Test.YtbaaheidifacaaaGreatQMapI
import Derived.Test.YtbaaheidifacaaaGreatQInsR
set_option linter.defProp false
set_option linter.unusedVariables false
set_option linter.unusedSimpArgs false
set_option maxRecDepth 100000
set_option maxHeartbeats 12800000
namespace Go.Proofs.YtbaaheidifacaaaGreat
variable {G:Prop} {X:qd} {b base k:Nat} {r:Int×Nat} {rq:Option Nat} {w w':World} {xs:List Value}
open Go.RowKit
structure jX where
 A:Option Addr
 c:Nat
 l:List (Int×Nat)
 top:Int
 has:Bool
structure dK where
 a:Nat
 gs:Nat
 rq:Option Nat
 X:qd
 s0:jX
 s1:jX
 mb:Nat
 f:Int→Option Value
 n:Nat
 Ap:Option Addr
 cp:Nat
 spare:List Nat
variable {C:dK}
def jX.v (s:jX):Value:= .slice s.A s.l.length s.c
def nE (l:List Nat):List Value:=l.map fun(n:Nat)=>Value.int .i64 (n:Int)
def dK.cells (C:dK):Array Value:=#[Pz C.a,C.s0.v,C.s1.v, .map (some C.mb),Iz C.s0.top,Iz C.s1.top, .slice C.Ap C.spare.length C.cp, .bool C.s0.has, .bool C.s1.has]
structure bS (w:World) (b:Nat) (C:dK):Prop where
 D:aE w b 195 C.cells
 ar:cY w C.a C.gs C.rq C.X
 o0:w.ownsRow 0 227 2 C.s0.v C.s0.l.length (cB C.s0.l)
 o1:w.ownsRow 0 227 2 C.s1.v C.s1.l.length (cB C.s1.l)
 ne:∀g,C.s0.v.ownBlock=some g→C.s1.v.ownBlock≠some g
 mp:fR w C.mb C.f C.n
 op:w.ownsRow 0 3 1 (.slice C.Ap C.spare.length C.cp) C.spare.length (nE C.spare)
 small:C.s0.l.length≤100000∧C.s1.l.length≤100000∧C.spare.length≤100000
def ik (b:Nat) (C:dK) (k:Nat):Prop:=k=b∨qA C.a C.gs C.rq k∨C.s0.v.ownBlock=some k∨C.s1.v.ownBlock=some k∨k=C.mb∨(Value.slice C.Ap C.spare.length C.cp).ownBlock=some k
theorem bS.same (h:bS w b C) (I:∀k,ik b C k->w'.heap[k]?=w.heap[k]?):bS w' b C:=
 ⟨h.D.block (I b (.inl rfl)),h.ar.same fun k J=>I k (.inr (.inl J)),aX h.o0 fun g hg=>I g (.inr (.inr (.inl hg))),aX h.o1 fun g hg=>I g (.inr (.inr (.inr (.inl hg)))),h.ne,
  h.mp.block (I _ (.inr (.inr (.inr (.inr (.inl rfl)))))),aX h.op fun g hg=>I g (.inr (.inr (.inr (.inr (.inr hg))))),h.small⟩
theorem bS.lt (h:bS w b C):∀k,ik b C k->k<w.heap.size:=by
 rintro k (rfl|I|I|I|rfl|I)
 ·exact h.D.lt
 ·exact h.ar.lt k I
 ·exact(h.o0.lt k I).2
 ·exact(h.o1.lt k I).2
 ·exact h.mp.lt
 ·exact(h.op.lt k I).2
theorem bS.below (h:bS w b C) (D:Bz w w'):bS w' b C:=h.same fun k I=>D.block k (h.lt k I)
theorem bS.drew (h:bS w b C):bS w.drew b C:=h.same fun _ _=>rfl
theorem bS.drewN (h:bS w b C) (n:Nat):bS (w.drewN n) b C:=h.same fun _ _=>rfl
theorem jY {T T':TypeId} {cs I:Array Value} (h:w.heap[b]?=some (.cells cs T (0,0))) (D:w.heap[k]?=some (.cells I T' (0,0))) (J:T≠T'):k≠b:=by
 rintro rfl;rw[h] at D;injection D with D;injection D with _ O;exact J O
theorem bY {e:TypeId} {size:Nat} {v:Value} {n:Nat} (h:w.ownsRow base e size v n xs) {g:Nat} (hg:v.ownBlock=some g):∃cur,w.heap[g]?=some (.cells cur e (0,0)):=by
 rcases h.2 with⟨rfl,_⟩|⟨g',cap,cur,rfl,_,D,_⟩
 ·simp[Value.ownBlock] at hg
 ·simp only[Value.ownBlock,gf] at hg
  subst hg;exact⟨cur,D⟩
theorem cY.types {a gs:Nat} (h:cY w a gs rq X):∀k,qA a gs rq k->∃cur T,w.heap[k]?=some (.cells cur T (0,0))/\(T=244\/T=253\/T=273):=by
 obtain⟨⟨Aq,cq,cs,D,I,J,O⟩,h5⟩:=h;rintro k (rfl|rfl|hk)
 ·exact⟨_,_,D, .inl rfl⟩
 ·obtain⟨_,cur,hg,_⟩:=ju O
  exact⟨_,_,hg, .inr (.inl rfl)⟩
 ·obtain⟨cur,hg⟩:=bY I (by rw[<-J,<-hk])
  exact⟨_,_,hg, .inr (.inr rfl)⟩
theorem bS.apart (h:bS w b C):(∀k,qA C.a C.gs C.rq k->k≠b)/\(∀g,C.s0.v.ownBlock=some g->g≠b)/\(∀g,C.s1.v.ownBlock=some g->g≠b)/\C.mb≠b/\(∀g,(Value.slice C.Ap C.spare.length C.cp).ownBlock=some g->g≠b):=by
 refine⟨fun k O=>?_,fun g hg=>?_,fun g hg=>?_,?_,fun g hg=>?_⟩
 ·obtain⟨cur,T,I,hT⟩:=h.ar.types k O
  refine jY h.D I ?_;rcases hT with rfl|rfl|rfl<;>decide
 ·obtain⟨cur,I⟩:=bY h.o0 hg
  exact jY h.D I (by decide)
 ·obtain⟨cur,I⟩:=bY h.o1 hg
  exact jY h.D I (by decide)
 ·obtain⟨D,⟨es,clock,hm,_⟩,_⟩:=h.mp
  rintro I;have J:=h.D;unfold aE at J;rw[I,J] at hm
  cases hm
 ·obtain⟨cur,I⟩:=bY h.op hg
  exact jY h.D I (by decide)
theorem qC {s:jX} (h:w.ownsRow base 227 2 s.v s.l.length (cB s.l)) {i:Nat} (hr:s.l[i]?=some r):
  ∃g,s.A=some ⟨g,0,none⟩/\w.cell? ⟨g,i*2,none⟩=some (Iz r.1)/\w.cell? ⟨g,i*2+1,none⟩=some (Iz (r.2:Int)):=by
 have hi:i<s.l.length:=aO hr;obtain⟨g,hg,_,_⟩:=kz h ae;unfold jX.v at h;rw[hg] at h;have key:∀(j:Nat) (v:Value),j<2->(tQ r)[j]?=some v->Cz w g (i*2+j) v:=fun j v D hv=>dI h ((ig mX j D hr).trans hv);exact⟨g,hg,key 0 _ ae rfl,key 1 _ ae rfl⟩
def bz (k:Nat) (x y:Int):Bool:=if k=0 then decide (y<x) else decide (x<y)
def cj (k:Nat):List (Int×Nat)→Int→Nat
 |[],_=>0
 |r::l,p=>if bz k r.1 p then cj k l p+1 else 0
def jx (l:List (Int×Nat)) (n:Nat) (p:Int):Bool:=match l[n]? with|some r=>r.1==p|none=>false
theorem xt (k:Nat):∀(l:List (Int×Nat)) (p:Int),cj k l p<=l.length
 |[],_=>af _
 |r::l,p=>by
  unfold cj
  split
  ·have:=xt k l p;simp;exact this
  ·exact aB _
theorem xu:∀{l:List (Int×Nat)} {p:Int} {j:Nat} {r:Int×Nat},j<cj k l p->l[j]?=some r->bz k r.1 p=true
 |[],p,j,r,D,hr=>by simp at hr
 |x::l,p,j,r,D,hr=>by
  unfold cj at D
  split at D
  ·rename_i hx
   cases j with
   |zero=>simp at hr;subst hr;exact hx
   |succ j=>exact xu (l:=l) (j:=j) ae (by simpa using hr)
  ·omega
theorem AU:∀{l:List (Int×Nat)} {p:Int} {r:Int×Nat},l[cj k l p]?=some r->bz k r.1 p=false
 |[],p,r,hr=>by simp at hr
 |x::l,p,r,hr=>by
  unfold cj at hr
  split at hr
  ·exact AU (l:=l) (by simpa using hr)
  ·rename_i hx
   simp at hr;subst hr;simpa using hx
theorem pK (side x y:Int) (k:Nat) (J:side=(k:Int)+1) (w:World):Wz 140 #[Iz side,Iz x,Iz y] w fun e w'=>e= .returned (.bool (bz k x y))/\w=w':=by
 obtain⟨B,D⟩:=Zn (bz k x y);rw[<-D]
 by_cases O:side=1
 ·have I:k=0:=ae
  subst O;subst I
  by_cases h:y<x
  ·have e:B=true:=by rw[D];simp[bz,h]
   clear D J;subst e
   go_enter Tryz.func140,Tryz.ntmps140
   go_wp2;go_ret;exact⟨rfl,rfl⟩
  ·have e:B=false:=by rw[D];simp[bz,h]
   clear D J;subst e
   go_enter Tryz.func140,Tryz.ntmps140
   go_wp2;go_ret;exact⟨rfl,rfl⟩
 ·have I:¬k=0:=ae
  have i1:(side==1)=false:=by simpa using O
  by_cases h:x<y
  ·have e:B=true:=by rw[D];simp[bz,h,I]
   clear D J I;subst e
   go_enter Tryz.func140,Tryz.ntmps140
   go_wp2;go_ret;exact⟨rfl,rfl⟩
  ·have e:B=false:=by rw[D];simp[bz,I];omega
   clear D J I;subst e
   go_enter Tryz.func140,Tryz.ntmps140
   go_wp2;go_ret;exact⟨rfl,rfl⟩
namespace Ka
abbrev tR {α:Type} [OfNat α (nat_lit 1)]:α:=OfNat.ofNat (nat_lit 1)
abbrev re {α:Type} [OfNat α (nat_lit 0)]:α:=OfNat.ofNat (nat_lit 0)
abbrev mZ:=@dK.s0
abbrev AV:=@bS.o0
end Ka
theorem AW {p:Prop} (h:p:=by (try dsimp only [tR,re,mZ,AV] at *);omega):p:=h
theorem Xp (z:G:=by
 have c1:w.cell? ⟨b,tR,none⟩=some (.slice (mZ C).A (mZ C).l.length (mZ C).c):=h.D.cell tR;obtain⟨L,eL⟩:=Zn (mZ C).l;obtain⟨N,eN⟩:=Zn L.length;have ba:N<=100000:=by have:=h.small;rw[eN,eL];exact AW
 have ax:∀(i:Nat) (r:Int×Nat),L[i]?=some r->∃g,(mZ C).A=some ⟨g,0,none⟩/\w.cell? ⟨g,i*2,none⟩=some (Iz r.1)/\w.cell? ⟨g,i*2+1,none⟩=some (Iz (r.2:Int)):=fun i r hr=>qC (AV h) (by rw[<-eL];exact hr);obtain⟨F,eF⟩:=Zn (cj re L p);have I:F<=N:=by rw[eF,eN];exact xt _ _ _
 rw[<-eL,<-eN] at c1;rw[<-eL,<-eF];obtain⟨B,eB⟩:=Zn (jx L F p);rw[<-eB];have EB:=ao eB;clear eB;obtain⟨ay,EN,EF,HF⟩:=mh ax eN eF I;clear ax eN eF h eL I;obtain⟨SA,O⟩:=Zn (mZ C).A;obtain⟨sc,a0⟩:=Zn (mZ C).c;rw[<-O] at ay;rw[<-O,<-a0] at c1;clear O a0
 go_enter Tryz.func164,Tryz.ntmps164
 go_wp2_with fail;clear c1
 go_loopw [9] (fun v wr=> ∃j:Nat,j<=F/\v= Iz (j:Int)/\w=wr) (fun v _=>N - (intOf v).toNat)
 case atStart=>exact⟨0,aB _,rfl,rfl⟩
 case round=>
  obtain⟨j,hj,rfl,rfl⟩:=hrel;have I:=HF.h
  by_cases a2:j<N
  ·obtain⟨r,hr⟩:∃r,L[j]?=some r:=⟨L[j]'(by rw[<-EN.h];exact a2),aj _⟩
   obtain⟨g,rfl,r0,_⟩:=ay.h _ _ hr;obtain⟨x,q⟩:=r;simp only at r0;have i1:(j:Int)<N:=AW;have i2:((j:Int)<N)=True:=by simp;exact AW
   have HR:=ao hr;have hw:IntKind.i64.wrap ((j:Int)+1)=(j:Int)+1:=aN _ AW;clear hr;go_wp2_with fail;refine(pK tR x p re rfl w).mono ?_;rintro e w1⟨rfl,rfl⟩
   by_cases a7:j<F
   ·have hb:bz re x p=true:=xu (l:=L) (by rw[<-EF.h];exact a7) HR.h
    rw[hb];clear hb r0;go_wp2_with fail;go_roundw
    case rel=>exact⟨j+1,AW,by go_num,trivial⟩
    case measure=>simp[intOf];exact AW
   ·have J:j=F:=AW
    have hb:bz re x p=false:=AU (l:=L) (by rw[<-EF.h,<-J];exact HR.h);rw[hb];have hh:B=(x==p):=by rw[EB.h];unfold jx;rw[<-J,HR.h]
    subst J;clear hb
    by_cases a5:x=p
    ·subst a5
     have i3:(x==x)=true:=by simp
     rw[i3] at hh;subst hh;go_wp2_with fail
     go_quiet (fail)
     go_wp2_with fail
     go_ret2
     exact⟨rfl,below_drewN (aa _ _) _⟩
    ·have i3:(x==p)=false:=by simpa using a5
     rw[i3] at hh;subst hh;go_wp2_with fail
     go_quiet (fail)
     go_wp2_with fail
     go_ret2
     exact⟨rfl,below_drewN (aa _ _) _⟩
  ·have J:j=F:=AW
   have a6:j=N:=AW;have hh:B=false:=by rw[EB.h];unfold jx;rw[<-J,cO (by rw[<-EN.h];exact AW)]
   subst hh;have a8:N=j:=a6.symm;clear a2 a6 I hj;subst J;subst a8;have i1:¬(N:Int)<N:=AW;go_wp2_with fail
   go_quiet (fail)
   go_wp2_with fail
   go_ret2
   exact⟨rfl,below_drewN (aa _ _) _⟩
 ):G:=z
open Ka in
theorem sD (b:Nat) (C:dK) (p:Int) (w:World) (h:bS w b C):
  Wz 164 #[Pz b,Iz 1,Iz p] w fun e w'=>e= .returned (.tuple #[Iz (cj 0 C.s0.l p:Int), .bool (jx C.s0.l (cj 0 C.s0.l p) p)])/\Bz w w':=Xp
namespace Kb
abbrev tR {α:Type} [OfNat α (nat_lit 2)]:α:=OfNat.ofNat (nat_lit 2)
abbrev re {α:Type} [OfNat α (nat_lit 1)]:α:=OfNat.ofNat (nat_lit 1)
abbrev mZ:=@dK.s1
abbrev AV:=@bS.o1
end Kb
open Kb in
theorem sF (b:Nat) (C:dK) (p:Int) (w:World) (h:bS w b C):
  Wz 164 #[Pz b,Iz 2,Iz p] w fun e w'=>e= .returned (.tuple #[Iz (cj 1 C.s1.l p:Int), .bool (jx C.s1.l (cj 1 C.s1.l p) p)])/\Bz w w':=Xp
structure mE where
 ag:Int
 aw:Int
 count:Int
def mE.cells (l:mE):List Value:=[Iz l.ag,Iz l.aw,Iz l.count]
def tS (X:qd) (r:Int×Nat):mE:=match X.H[r.2]? with|some q=>⟨r.1,q.total,q.count⟩|none=>⟨r.1,0,0⟩
theorem En (b:Nat) (C:dK) (p:Int) (n:Nat) (q:jl) (w:World) (h:bS w b C) (hq:C.X.H[n]?=some q):
  Wz 135 #[Pz b, .agg #[Iz p,Iz (n:Int)]] w fun e w'=>e= .returned (.agg #[Iz p,Iz q.total,Iz q.count])/\Bz w w':=by
 obtain⟨w0,I⟩:=Zn ((w.alloc (.cells #[Iz p,Iz (n:Int)] 227)).alloc (.cells #[Iz 0,Iz 0,Iz 0] 75));obtain⟨g,eg⟩:=Zn w.heap.size;obtain⟨g2,ax⟩:=Zn (w.heap.size+1);have B0:Bz w w0:=I▸au (au (aa _ _) _) _;have D1:aE w0 g 227 #[Iz p,Iz (n:Int)]:=I▸eg▸(aE.new w _ _).below (au (aa _ _) _);have O:aE w0 g2 75 #[Iz 0,Iz 0,Iz 0]:=by
  rw[I,ax];have:=aE.new (w.alloc (.cells #[Iz p,Iz (n:Int)] 227)) #[Iz 0,Iz 0,Iz 0] 75;simpa using this
 have h0:=h.below B0;have c0:Cz w0 b 0 (Pz C.a):=h0.D.cell 0;have a7:=h0.D.lt;have a2:=D1.lt;have l0:∀u,Below w0.heap.size w0.drew u->Cz u b 0 (Pz C.a):=fun u hu=>Yb hu a7 c0;have l1:∀u,Below w0.heap.size w0.drew u->Cz u g 0 (Iz p):=fun u hu=>Yb hu a2 (D1.cell 0);have l2:∀u,Below w0.heap.size w0.drew u->Cz u g 1 (Iz (n:Int)):=fun u hu=>Yb hu a2 (D1.cell 1);obtain⟨qt,ay⟩:=Zn q.total;obtain⟨qc,a0⟩:=Zn q.count;rw[<-ay,<-a0];have EQ:=ao (And.intro ay a0);have hw:=bO (us:=[Iz p,Iz qt,Iz qc]) O rfl;have hb:=bA (us:=[Iz p,Iz qt,Iz qc]) (i:=0) (g:=g2) (by omega:w.heap.size<=g2) B0;simp only[fW] at hw hb;have z0:=O.cell 0;have z1:=O.cell 1;have z2:=O.cell 2;have y0:=O.frozen 0;have y1:=O.frozen 1;have y2:=O.frozen 2;obtain⟨H0,HQ⟩:=dF h0 hq;clear h h0 hq D1 O ay a0 c0
 go_enter Tryz.func135,Tryz.ntmps135
 go_upto_region 1 with(fail)
 rw[<-I,<-ax,<-eg];clear I eg ax;refine Zb w0.heap.size 17 [8,15,17] [0,1,2,3,4,5,6,7,9,10,11,12,13,14,8,15,16,17] ?_;refine Yt ?_;clear l0 l1 l2;refine Ym fun K hK=>?_;refine(KC C.a C.gs C.rq C.X n q _ H0.ar.drew HQ).mono ?_;rintro e w1⟨rfl,rfl⟩;rw[<-EQ.h.1];refine Yo hK ((aa _ _)) ?_;refine Ym fun K hK=>?_;refine(wK C.a C.gs C.rq C.X n q _ H0.ar.drew HQ).mono ?_;rintro e w1⟨rfl,rfl⟩;rw[<-EQ.h.2];refine Yo hK ((aa _ _)) ?_;refine Yt ?_;refine Zl fun K hK=>?_;go_simp;refine Yl hK ?_;refine aT ?_;go_wp2_with fail
 (try simp only[Exit.inBlock,Exit.then])
 obtain⟨wz,a5⟩:=Zn ((((w0.setCell ⟨g2,0,none⟩ (Iz p)).setCell ⟨g2,0+1,none⟩ (Iz qt)).setCell ⟨g2,0+1+1,none⟩ (Iz qc)).drew);have J:=hw.drew;have a6:=hb.drew;rw[<-a5] at J a6;refine iv a5 ?_;have r0:=J.cell 0;have r1:=J.cell 1;have r2:=J.cell 2;clear z0 z1 z2 y0 y1 y2;refine bodyPost_ret (v:= .agg #[Iz p,Iz qt,Iz qc]) (by simp[results,Tryz.results135,go_sem,r0,r1,r2];try rfl) rfl ?_;exact⟨rfl,a6⟩
theorem xv (w:World):Wz 134 #[Iz 1] w fun e w'=>e= .returned (.bool true)/\w=w':=by
 go_enter Tryz.func134,Tryz.ntmps134
 go_wp2;go_ret;exact⟨rfl,rfl⟩
namespace Ka
abbrev pL {α:Type} [OfNat α (nat_lit 1)]:α:=OfNat.ofNat (nat_lit 1)
abbrev AY:=@xv
abbrev om:=@dK.s0
abbrev AZ:=@bS.o0
end Ka
theorem Wj {p:Prop} (h:p:=by (try dsimp only [pL,om,AZ] at *);omega):p:=h
theorem Xq (z:G:=by
 obtain⟨w0,I⟩:=Zn (w.alloc (.cells #[Iz 0,Iz 0,Iz 0] 75));obtain⟨g,eg⟩:=Zn w.heap.size;have B0:=Zw I;have D:=Zq I eg;have h0:=h.below B0;have hg:w.heap.size<=g:=Wj;obtain⟨N,eN⟩:=Zn (om C).l.length;have hN:0<N:=by rw[eN,hl];simp
 have c1:w0.cell? ⟨b,pL,none⟩=some (.slice (om C).A N (om C).c):=by rw[eN];exact h0.D.cell pL
 obtain⟨gr,hA,r0,r1⟩:=qC (AZ h0) (i:=0) (r:=(p,n)) (by rw[hl];rfl);rw[hA] at c1;simp only[kp,ec] at r0 r1;have i1:((N:Int)==0)=false:=by simp;exact Wj
 have i2:(0:Int)<N:=Wj;obtain⟨qt,O⟩:=Zn q.total;obtain⟨qc,ax⟩:=Zn q.count;rw[<-O,<-ax];obtain⟨EQ,HQ,HD,H0⟩:=mh (And.intro O ax) hq D h0;clear h hl hq O ax D eN h0 hA
 go_enter Tryz.func97,Tryz.ntmps97
 go_upto_region 1 with(fail)
 rw[<-I,<-eg];clear I eg;go_wp2_with fail;refine(AY _).mono ?_;rintro e w1⟨rfl,rfl⟩;go_wp2_with fail;refine(En b C p n q _ H0.h HQ.h).mono ?_;rintro e w1⟨rfl,b1⟩;rw[<-EQ.h.1,<-EQ.h.2];have J:=HD.h.below b1;have hw:=bO (us:=[Iz p,Iz qt,Iz qc]) J rfl;have hb:=bA (us:=[Iz p,Iz qt,Iz qc]) (i:=0) hg (dW B0 b1);simp only[fW] at hw hb;have z0:=J.cell 0;have z1:=J.cell 1;have z2:=J.cell 2;have y0:=J.frozen 0;have y1:=J.frozen 1;have y2:=J.frozen 2;clear c1 r0 r1 b1 J;go_wp2_with fail
 (try simp only[Exit.inBlock,Exit.then])
 obtain⟨wz,ay⟩:=Zn (((w1.setCell ⟨g,0,none⟩ (Iz p)).setCell ⟨g,0+1,none⟩ (Iz qt)).setCell ⟨g,0+1+1,none⟩ (Iz qc));rw[<-ay] at hw hb;refine iv ay ?_;have r0:=hw.cell 0;have r1:=hw.cell 1;have r2:=hw.cell 2;clear z0 z1 z2 y0 y1 y2;refine bodyPost_ret (v:= .tuple #[.agg #[Iz p,Iz qt,Iz qc], .bool true]) (by simp[results,Tryz.results97,go_sem,r0,r1,r2];try rfl) rfl ?_;exact⟨rfl,hb⟩
 ):G:=z
open Ka in
theorem KL (b:Nat) (C:dK) (p:Int) (n:Nat) (l:List (Int×Nat)) (q:jl) (w:World) (h:bS w b C) (hl:C.s0.l=(p,n)::l) (hq:C.X.H[n]?=some q):
  Wz 97 #[Pz b,Iz 1] w fun e w'=>e= .returned (.tuple #[.agg #[Iz p,Iz q.total,Iz q.count], .bool true])/\Bz w w':=Xq
theorem YH {p:Prop} (h:p:=by (try dsimp only [pL,om] at *);omega):p:=h
theorem Xr (z:G:=by
 obtain⟨w0,I⟩:=Zn (w.alloc (.cells #[Iz 0,Iz 0,Iz 0] 75));obtain⟨g,O⟩:=Zn w.heap.size;have B0:=Zw I;have D:=Zq I O;have h0:=h.below B0;have hg:w.heap.size<=g:=YH;have c1:w0.cell? ⟨b,pL,none⟩=some (.slice (om C).A 0 (om C).c):=by
  have:=h0.D.cell pL;rw[this];simp[dK.cells,jX.v,hl]
 have hw:=bO (us:=[Iz 0,Iz 0,Iz 0]) D rfl;have hb:=bA (us:=[Iz 0,Iz 0,Iz 0]) (i:=0) hg B0;simp only[fW] at hw hb;have z0:=D.cell 0;have z1:=D.cell 1;have z2:=D.cell 2;have y0:=D.frozen 0;have y1:=D.frozen 1;have y2:=D.frozen 2;clear h hl D h0
 go_enter Tryz.func97,Tryz.ntmps97
 go_upto_region 1 with(fail)
 rw[<-I,<-O];clear I O;go_wp2_with fail;refine(AY _).mono ?_;rintro e w1⟨rfl,rfl⟩;go_wp2_with fail
 (try simp only[Exit.inBlock,Exit.then])
 obtain⟨wz,J⟩:=Zn (((w0.setCell ⟨g,0,none⟩ (Iz 0)).setCell ⟨g,0+1,none⟩ (Iz 0)).setCell ⟨g,0+1+1,none⟩ (Iz 0));rw[<-J] at hw hb;refine iv J ?_;have r0:=hw.cell 0;have r1:=hw.cell 1;have r2:=hw.cell 2;clear z0 z1 z2 y0 y1 y2;refine bodyPost_ret (v:= .tuple #[.agg #[Iz 0,Iz 0,Iz 0], .bool false]) (by simp[results,Tryz.results97,go_sem,r0,r1,r2];try rfl) rfl ?_;exact⟨rfl,hb⟩
 ):G:=z
open Ka in
theorem Ih (b:Nat) (C:dK) (w:World) (h:bS w b C) (hl:C.s0.l=[]):
  Wz 97 #[Pz b,Iz 1] w fun e w'=>e= .returned (.tuple #[.agg #[Iz 0,Iz 0,Iz 0], .bool false])/\Bz w w':=Xr
theorem xw (w:World):Wz 134 #[Iz 2] w fun e w'=>e= .returned (.bool true)/\w=w':=by
 go_enter Tryz.func134,Tryz.ntmps134
 go_wp2;go_ret;exact⟨rfl,rfl⟩
namespace Kb
abbrev pL {α:Type} [OfNat α (nat_lit 2)]:α:=OfNat.ofNat (nat_lit 2)
abbrev AY:=@xw
abbrev om:=@dK.s1
abbrev AZ:=@bS.o1
end Kb
open Kb in
theorem KM (b:Nat) (C:dK) (p:Int) (n:Nat) (l:List (Int×Nat)) (q:jl) (w:World) (h:bS w b C) (hl:C.s1.l=(p,n)::l) (hq:C.X.H[n]?=some q):
  Wz 97 #[Pz b,Iz 2] w fun e w'=>e= .returned (.tuple #[.agg #[Iz p,Iz q.total,Iz q.count], .bool true])/\Bz w w':=Xq
open Kb in
theorem Ii (b:Nat) (C:dK) (w:World) (h:bS w b C) (hl:C.s1.l=[]):
  Wz 97 #[Pz b,Iz 2] w fun e w'=>e= .returned (.tuple #[.agg #[Iz 0,Iz 0,Iz 0], .bool false])/\Bz w w':=Xr
theorem Tryz.Ua:(Tryz.prog.info? 75).map (fun i=>(i.zero,i.size,i.bytes))=some (some (.agg #[Iz 0,Iz 0,Iz 0]),3,24):=by kernel_rfl
theorem Xs:kA Tryz.prog 73 75 (.agg #[Iz 0,Iz 0,Iz 0]) 3 24:=
 ⟨Tryz.underlying73,let ⟨i,h,D,I,J⟩:=info_parts Tryz.Ua;⟨i,h,D,I,J⟩,rfl,ae,ae⟩
def jO (l:List mE):List Value:=l.flatMap mE.cells
theorem KN {q:jl} (hq:X.H[r.2]?=some q):tS X r=⟨r.1,q.total,q.count⟩:=by unfold tS;rw[hq]
namespace Ka
abbrev xy {α:Type} [OfNat α (nat_lit 1)]:α:=OfNat.ofNat (nat_lit 1)
abbrev Ij:=@xv
abbrev kY:=@dK.s0
abbrev A9:=@bS.o0
end Ka
theorem Be {p:Prop} (h:p:=by (try dsimp only [xy,kY,A9] at *);omega):p:=h
theorem Xt (z:G:=by
 have c1:w.cell? ⟨b,xy,none⟩=some (.slice (kY C).A (kY C).l.length (kY C).c):=h.D.cell xy;have bb:(kY C).l.length<=100000:=by have:=h.small;exact Be
 obtain⟨L,eL⟩:=Zn (kY C).l;obtain⟨N,eN⟩:=Zn L.length;have ho:w.ownsRow 0 227 2 (.slice (kY C).A N (kY C).c) N (cB L):=by rw[eN,eL];exact(A9 h)
 rw[<-eL,<-eN] at c1 bb;rw[<-eL] at hqs;rw[<-eL,<-eN];obtain⟨EN,HO,H,bc⟩:=mh eN ho h hqs;clear eN ho h hqs eL;obtain⟨SA,a6⟩:=Zn (kY C).A;obtain⟨sc,a7⟩:=Zn (kY C).c;rw[<-a6,<-a7] at c1 HO;clear a6 a7
 go_enter Tryz.func99,Tryz.ntmps99
 go_wp2_with fail;refine(Ij _).mono ?_;rintro e w1⟨rfl,rfl⟩;go_wp2_with fail;clear c1
 go_loopw [5,19] (fun v i wr=> ∃(j:Nat) (A:Option Addr) (c:Nat),j<=N/\v= .slice A j c/\i= Iz (j:Int)/\Hid (wr.ownsRow w.heap.size 75 3 (.slice A j c) j (jO ((L.take j).map (tS C.X))))/\Bz w wr) (fun _ i _=>N - (intOf i).toNat)
 case atStart=>exact⟨0,none,0,aB _,rfl,rfl,by exact aM _ _ _ _,aa _ _⟩
 case round=>
  obtain⟨j,A,c,hj,rfl,rfl,HR,B⟩:=hrel
  by_cases a8:j<N
  ·obtain⟨r,hr⟩:∃r,L[j]?=some r:=⟨L[j]'(by rw[<-EN.h];exact a8),aj _⟩
   obtain⟨q,hq⟩:=bc.h r (bF hr);have ay:=KN hq;have I:jO ((L.take (j+1)).map (tS C.X))=jO ((L.take j).map (tS C.X))++[Value.int .i64 r.1,Iz q.total,Iz q.count]:=by
    rw[dN hr];simp[jO,mE.cells,ay]
   obtain⟨p,n⟩:=r;simp only at hq I;have J:=bP HO.h B;obtain⟨g,hg,_,_⟩:=kz J Be;rw[hg] at J;have key:∀(t:Nat) (v:Value),t<2->(tQ (p,n))[t]?=some v->wr.cell? ⟨g,j*2+t,none⟩=some v:=fun t v ht hv=>dI J ((ig mX t ht hr).trans hv);have r0:=key 0 _ Be rfl;have r1:=key 1 _ Be rfl;rw[lO] at r0;simp only at r0 r1;obtain⟨wA,O⟩:=Zn (wr.alloc (.cells #[Iz p,Iz (n:Int)] 227));obtain⟨gA,a5⟩:=Zn wr.heap.size;have D:=Zq O a5;have B1:Bz w wA:=by rw[O];exact au B _
   have ba:Hid (wA.ownsRow w.heap.size 75 3 (.slice A j c) j (jO ((L.take j).map (tS C.X)))):=ao (by rw[O];exact HR.h.alloc _);have i1:(j:Int)<N:=Be;have bt:IntKind.i64.wrap ((j:Int)+1)=(j:Int)+1:=aN _ Be;obtain⟨HQ,bf⟩:=dF hq I;rw[hg];clear hr hq ay I J hg key HR B
   go_upto_region 7 with(fail)
   rw[<-O,<-a5];clear O a5 r0 r1;have z0:=D.cell 0;have z1:=D.cell 1;go_wp2_with fail;refine(En b C p n q _ (H.h.below B1) HQ.h).mono ?_;rintro e w2⟨rfl,b2⟩;have B2:=dW B1 b2;have a0:=bP ba.h b2;clear z0 z1 D ba B1 b2
   go_wp2_with (at_builtin
                refine dO Xs a0 #[Iz p,Iz q.total,Iz q.count] rfl _ _ rfl rfl rfl rfl (by intro u hu;simp at hu;rcases hu with rfl|rfl|rfl<;>rfl) Be B2.size ?_;intro A3 c3 w3 a2 g3 b3 l3;have B3:=b3 _ _ (af _) B2)
   have bh:Hid (w3.ownsRow w.heap.size 75 3 (.slice A3 (j+1) c3) (j+1) (jO ((L.take (j+1)).map (tS C.X)))):=ao (by rw[bf.h];exact a2);clear a0 a2 g3 b3 l3 B2
   (try go_wp2_with fail)
   go_roundw
   case rel=>exact⟨j+1,A3,c3,Be,rfl,by go_num,bh,B3⟩
   case measure=>simp[intOf];exact Be
  ·have bp:j=N:=Be
   have i1:¬(j:Int)<N:=Be;subst bp;have ax:=HR.h;rw[aL (by rw[<-EN.h];exact af _)] at ax;have HF:=ao ax;clear HR ax a8;go_wp2_with fail;go_ret;exact⟨A,c,rfl,HF.h,B⟩
 ):G:=z
open Ka in
theorem Gb (b:Nat) (C:dK) (w:World) (h:bS w b C) (hqs:∀r∈C.s0.l,∃q,C.X.H[r.2]?=some q):
  Wz 99 #[Pz b,Iz 1] w fun e w'=> ∃A c,e= .returned (.slice A C.s0.l.length c)/\w'.ownsRow w.heap.size 75 3 (.slice A C.s0.l.length c) C.s0.l.length (jO (C.s0.l.map (tS C.X)))/\Bz w w':=Xt
namespace Kb
abbrev xy {α:Type} [OfNat α (nat_lit 2)]:α:=OfNat.ofNat (nat_lit 2)
abbrev Ij:=@xw
abbrev kY:=@dK.s1
abbrev A9:=@bS.o1
end Kb
open Kb in
theorem Gc (b:Nat) (C:dK) (w:World) (h:bS w b C) (hqs:∀r∈C.s1.l,∃q,C.X.H[r.2]?=some q):
  Wz 99 #[Pz b,Iz 2] w fun e w'=> ∃A c,e= .returned (.slice A C.s1.l.length c)/\w'.ownsRow w.heap.size 75 3 (.slice A C.s1.l.length c) C.s1.l.length (jO (C.s1.l.map (tS C.X)))/\Bz w w':=Xt
end Go.Proofs.YtbaaheidifacaaaGreat
