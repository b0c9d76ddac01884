import Derived.Test.YtbaaheidifacaaaGreatQMkSC5
import Derived.Test.YtbaaheidifacaaaGreatQDiff1
import Derived.Test.YtbaaheidifacaaaGreatQLawOne
set_option linter.defProp false
set_option linter.unusedVariables false
set_option linter.unusedSimpArgs false
set_option maxRecDepth 100000
set_option maxHeartbeats 12800000
namespace Go.Proofs.YtbaaheidifacaaaGreat
variable {A:Option Addr} {c:bN}
open Go.RowKit
theorem ab7 {P:PD} (J:P.gZ) (c:bN) (i:Nat) (hi:i<=1000):(rB P c i).wf:=by
 have h:=U5 J c i;have D:(rB P c i).kind≠1->(rB P c i).time=0:=by
  unfold rB;simp only
  split
  ·intro h;exact absurd rfl h
  ·intro _;rfl
 obtain⟨y,O⟩:∃y,y=rB P c i:=⟨_,rfl⟩;rw[<-O] at h D⊢;have h1:=h.id;have h2:=h.kd;have h3:=h.inst;have h4:=h.ag;have h5:=h.aw;have h6:=h.least;have h7:=J.cnt;have h8:=h.ky;have hs:0<=y.side/\y.side<=2:=by
  by_cases I:y.kind=1
  ·have:=h.side I;omega
  ·have:=h.Y7 I;omega
 have ht:0<=y.time/\y.time<=3:=by
  by_cases I:y.kind=1
  ·have:=h.time I;omega
  ·have:=D I;omega
 clear h D O;refine⟨?_,?_,?_,?_,?_,?_,?_,?_,by rw[h8];simp⟩<;>(unfold Ke;omega)
theorem ab8 (s:Int):∀(l:List ir) (own:Int->Option Int) (on:Nat),(mQ s (own,on) l).2<=on+l.length
 |[],_,_=>af _
 |r::l,own,on=>by
  have D:=ab8 s l (CP own s r) (TJ own on r);have I:=WJ own on r;show(mQ s (CP own s r,TJ own on r) l).2<=on+(l.length+1);omega
theorem aaS (s:Int):∀(l:List ir) (own:Int->Option Int),(qI s own l).length=l.length
 |[],_=>rfl
 |r::l,own=>congrArg (·+1) (aaS s l _)
theorem acE (P:PD) (G:vJ) (s:Int) (b:List UInt8):(yb P G s b).1.on<=G.on+(yb P G s b).2.length:=by
 unfold yb
 split
 ·exact Nat.le_add_right _ _
 ·split
  ·exact Nat.le_add_right _ _
  ·split
   ·exact Nat.le_add_right _ _
   ·show(mQ s (G.own,G.on) _).2<=G.on+(qI s G.own _).length
    rw[aaS];exact ab8 s _ _ _
theorem abo (P:PD) (ma:Option Addr) (mc:Nat) (sa:Option Addr) (sc:Nat) (c:bN) (i:Nat) (w:World) (hP:iZ w P ma sa) (hi:i<=1000000) (hr:dx (rB P c i)=0):
  Wz 29 #[P.val ma mc sa sc,c.val,Iz (i:Int)] w (tN w (zE (rB P c i))):=by
 obtain⟨y,ey⟩:∃y,y=rB P c i:=⟨_,rfl⟩;rw[<-ey] at hr⊢;have O:y.ky.length<=9223372036854775807:=by rw[ey,(U5 hP.right c i).ky];simp
 have J:=fun u=>MN y O u;have ax:oL y=zE y:=by unfold oL;rw[if_pos hr]
 rw[hr,ax] at J;obtain⟨L,eL⟩:∃L,L=zE y:=⟨_,rfl⟩;rw[<-eL] at J⊢;have EY:=ao ey;clear ey O ax hr eL;obtain⟨q0,q1,q2,q3,q4,q5,q6,q7,q8⟩:=c;rw[PD.jt];simp only[bN.val,bN.cells];obtain⟨w0,I⟩:∃w0,w0=(w.alloc (.cells (P.cells ma mc sa sc) 25)).alloc (.cells (bN.cells ⟨q0,q1,q2,q3,q4,q5,q6,q7,q8⟩) 35):=⟨_,rfl⟩;obtain⟨g,eg⟩:∃g,g=w.heap.size:=⟨_,rfl⟩;obtain⟨h,eh⟩:∃h,h=g+1:=⟨_,rfl⟩;have D:fM w0 g P ma mc sa sc:=I▸eg▸(fM.new w P ma mc sa sc).below (au (aa _ _) _);have ay:kM w0 h ⟨q0,q1,q2,q3,q4,q5,q6,q7,q8⟩:=by rw[I,eh,eg,show w.heap.size+1=(w.alloc (.cells (P.cells ma mc sa sc) 25)).heap.size by simp];exact kM.new _ _
 have B0:Bz w w0:=I▸au (au (aa _ _) _) _;have h0:=hP.below B0;obtain⟨a3,H0,a0⟩:=fY J h0 B0;have k0:=D.cell 0;have k1:=D.cell 1;have k2:=D.cell 2;have k3:=D.cell 3;have k4:=D.cell 4;have k5:=D.cell 5;have k6:=D.cell 6;have k7:=D.cell 7;have k8:=D.cell 8;have k9:=D.cell 9;have a2:=D.cell 10;obtain⟨x0,x1,x2,x3,x4,x5,x6,x7,x8⟩:=ay.reads;clear J h0 hP B0 D ay;unfold bN.cells at I;unfold PD.cells at I k0 k1 k2 k3 k4 k5 k6 k7 k8 k9 a2;unfold PD.cells
 go_enter Tryz.func29,Tryz.ntmps29
 go_upto_region 1 with(fail)
 rw[<-I,<-eg,<-eh];clear I eg eh;go_wp2_with fail;refine(Pj P ma mc sa sc ⟨q0,q1,q2,q3,q4,q5,q6,q7,q8⟩ i w0 H0 hi).mono ?_;clear k0 k1 k2 k3 k4 k5 k6 k7 k8 k9 a2 x0 x1 x2 x3 x4 x5 x6 x7 x8;rintro e w1⟨rfl,b1⟩;rw[<-EY.h];go_wp2_with fail;refine(a3 w1).mono ?_;rintro e w2⟨A,c,rfl,h1,h2,h3,h4,h5⟩;go_wp2_with fail;go_ret;exact⟨A,c,rfl,ch h1 (dW a0 b1).size,h2,h3,h4,dW (dW a0 b1) h5⟩
def GtB (gg g ob:Nat) (C:zt) (Gs R:Nat→Prop) (j:Nat):Prop:=j=gg∨j=ob∨j=g∨j=C.ub∨Gs j∨R j
def MkQ (g:Nat) (C:zt) (Gs R:Nat→Prop) (j:Nat):Prop:=j=g∨j=C.ub∨Gs j∨R j
structure aao (B:Nat) (w:World) (P:PD) (gg g ob:Nat) (C:zt) (Gs R:Nat→Prop) (G:vJ) (g2:Nat) (C2:zt) (Gs2 R2:Nat→Prop) (m1 m:Mk) (s:Int) (N k:Nat):Prop where
 gt:pX w Gs R gg g ob P G C
 mk':jW w Gs2 R2 g2 P m C2
 dis:∀j,GtB gg g ob C Gs R j→MkQ g2 C2 Gs2 R2 j→False
 lo:∀j,GtB gg g ob C Gs R j∨MkQ g2 C2 Gs2 R2 j→B≤j
 gm:G.m=m1
 own:G.own=aae s m1.used
 on:G.on≤N
 un1:m1.un≤k+1
 un:m.un≤k
section
variable {B:Nat} {w w':World} {P:PD} {gg g ob:Nat} {C:zt} {Gs R:Nat→Prop} {G:vJ} {g2:Nat} {C2:zt} {Gs2 R2:Nat→Prop} {m1 m:Mk} {s:Int} {N k:Nat}
theorem aao.below (h:aao B w P gg g ob C Gs R G g2 C2 Gs2 R2 m1 m s N k) (D:Bz w w'):aao B w' P gg g ob C Gs R G g2 C2 Gs2 R2 m1 m s N k:=
 ⟨h.gt.below D,h.mk'.below D,h.dis,h.lo,h.gm,h.own,h.on,h.un1,h.un⟩
theorem aao.lt (h:aao B w P gg g ob C Gs R G g2 C2 Gs2 R2 m1 m s N k):∀j,MkQ g2 C2 Gs2 R2 j->j<w.heap.size:=h.mk'.ZD
def acK (B:Nat) (w:World) (P:PD) (gg g ob:Nat) (C:zt) (R:Nat→Prop) (G:vJ) (g2:Nat) (C2:zt) (Gs2 R2:Nat→Prop) (m:Mk) (s:Int) (N k:Nat) (c:bN) (e:Ending) (w':World):Prop:=
 ∃A cp Gs',e= .returned (.slice A (pC P m c).2.length cp)∧w'.ownsRow w.heap.size 65 9 (.slice A (pC P m c).2.length cp) (pC P m c).2.length (qJ ((pC P m c).2.map fun r=>⟨s,r⟩))∧aao B w' P gg g ob C Gs' R (yb P G s (zE c)).1 g2 C2 Gs2 R2 (pC P m c).1 m s (N+(pC P m c).2.length) k∧Below B w w'
theorem ab9 (h:aao B w P gg g ob C Gs R G g2 C2 Gs2 R2 m m s N k) (hB:B<=w.heap.size) (hs:0<=s/\s<8) (hk:k<1000) (hN:N<=18039*k) (bc:k<=50) (hr:dx c=0) (hw:c.wf) (hq:c.aw<=12) (hc:cK m.S<64) {n cp:Nat} (hn:(zE c).length=n) (a4:n<=cp) (a0:cp<=maxLen) (bf:n<=1000000) (hA:Cells w A (ij (zE c))):
  Wz 28 #[Pz gg,Iz s, .slice A n cp] w (acK B w P gg g ob C R G g2 C2 Gs2 R2 m s N k c):=by
 have a2:=h.mk'.V2;have J:=h.gm;have ax:=ab6 (P:=P) (G:=G) (s:=s) hs (J▸h.own) (J▸a2.su) (J▸a2.f) (J▸hc) hr hw;rw[J] at ax;obtain⟨o1,o2,o3⟩:=ax;have a5:(gw s (zE c)).1.aw.toNat<=12:=by
  have:gw s (zE c)=(RU c,0):=by
   unfold gw;rw[if_neg ae];exact abA hr hw
  rw[this];have ha:(RU c).aw<=12:=by
   unfold RU
   repeat' split
   all_goals first
    |exact hq
    |(show(0:Int)<=12;omega)
  show(RU c).aw.toNat<=12;omega
 have a6:(yb P G s (zE c)).2.length=(pC P m c).2.length:=by rw[o1,br]
 have bh:=acE P G s (zE c);have bp:=h.on;unfold maxLen at a0;refine(UK Gs R gg g ob P G C s A n cp (zE c) w h.gt hn ae a4 a0 hA ⟨ae,ae⟩ (by rw[J];have:=h.un;omega) ae).mono ?_;rintro e w'⟨A',a7,Gs',rfl,I,a8,a3,ay,bb⟩;have ba:=h.lt;unfold sO at I;rw[a6] at I⊢;rw[o1] at I;refine⟨A',a7,Gs',rfl,I,⟨a8,h.mk'.lv a3 fun j O hf=>h.dis j (by rcases hf with D|D|D;exact .inr (.inl D);exact .inr (.inr (.inr (.inl D)));exact .inr (.inr (.inr (.inr (.inl D))))) O,?_,?_,o2,o3,ae,?_,h.un⟩,a3.below (fun j O=>h.lo j (.inl (by rcases O with D|D|D;exact .inr (.inl D);exact .inr (.inr (.inr (.inl D)));exact .inr (.inr (.inr (.inr (.inl D))))))) hB⟩
 ·rintro j (D|D|D|D|D|D) O
  ·exact h.dis j (.inl D) O
  ·exact h.dis j (.inr (.inl D)) O
  ·exact h.dis j (.inr (.inr (.inl D))) O
  ·exact h.dis j (.inr (.inr (.inr (.inl D)))) O
  ·rcases ay j D with h2|h2
   ·exact h.dis j (.inr (.inr (.inr (.inr (.inl h2))))) O
   ·have:=h2.1;have:=ba j O;omega
  ·exact h.dis j (.inr (.inr (.inr (.inr (.inr D))))) O
 ·rintro j ((D|D|D|D|D|D)|D)
  ·exact h.lo j (.inl (.inl D))
  ·exact h.lo j (.inl (.inr (.inl D)))
  ·exact h.lo j (.inl (.inr (.inr (.inl D))))
  ·exact h.lo j (.inl (.inr (.inr (.inr (.inl D)))))
  ·rcases ay j D with h2|h2
   ·exact h.lo j (.inl (.inr (.inr (.inr (.inr (.inl h2))))))
   ·have:=h2.1;omega
  ·exact h.lo j (.inl (.inr (.inr (.inr (.inr (.inr D))))))
  ·exact h.lo j (.inr D)
 ·have:=Yh P m c;have:=h.un;omega
def acL (B:Nat) (w:World) (P:PD) (gg g ob:Nat) (C:zt) (Gs R:Nat→Prop) (G:vJ) (g2:Nat) (C2:zt) (Gs2 R2:Nat→Prop) (m:Mk) (s:Int) (N k:Nat) (c:bN) (e:Ending) (w':World):Prop:=
 ∃A cp Gs',e= .returned (.slice A (pC P m c).2.length cp)∧Cells w' A (fC (pC P m c).2)∧(pC P m c).2.length≤18039∧aao B w' P gg g ob C Gs R G g2 C2 Gs' R2 (pC P m c).1 (pC P m c).1 s N (k+1)∧Lv (MkQ g2 C2 Gs2 R2) w w'∧Below B w w'
theorem acr (h:aao B w P gg g ob C Gs R G g2 C2 Gs2 R2 (pC P m c).1 m s N k) (hB:B<=w.heap.size) (hk:k<1000) (hq:c.aw<=12) (hl:c.ky.length<=9223372036854775807):
  Wz 16 #[Pz g2,c.val] w (acL B w P gg g ob C Gs R G g2 C2 Gs2 R2 m s N k c):=by
 refine(NM g2 P m Gs2 R2 C2 c w h.mk' (cA h.un) hl).mono ?_;rintro e w'⟨hN,A1,cp,Gs',rfl,ay,a0,a2,ax,a4⟩;have a3:=h.gt.lt;have I:Lv (MkQ g2 C2 Gs2 R2) w w':=a2.mono fun j J=> .inl (by rcases J with D|D;exact .inr (.inl D);exact .inr (.inr (.inl D)));refine⟨A1,cp,Gs',rfl,dP.O ay,ae,⟨h.gt.lv I fun j J hf=>h.dis j J hf,a0,?_,?_,h.gm,h.own,h.on,?_,?_⟩,I,I.below (fun j J=>h.lo j (.inr J)) hB⟩
 ·rintro j J (D|D|D|D)
  ·exact h.dis j J (.inl D)
  ·exact h.dis j J (.inr (.inl D))
  ·rcases ax j D with h2|h2
   ·exact h.dis j J (.inr (.inr (.inl h2)))
   ·have:=h2.1;have:=a3 j J;omega
  ·exact h.dis j J (.inr (.inr (.inr D)))
 ·rintro j (D|D|D|D|D)
  ·exact h.lo j (.inl D)
  ·exact h.lo j (.inr (.inl D))
  ·exact h.lo j (.inr (.inr (.inl D)))
  ·rcases ax j D with h2|h2
   ·exact h.lo j (.inr (.inr (.inr (.inl h2))))
   ·have:=h2.1;omega
  ·exact h.lo j (.inr (.inr (.inr (.inr D))))
 ·have:=Yh P m c;have:=h.un;omega
 ·have:=Yh P m c;have:=h.un;omega
end
end Go.Proofs.YtbaaheidifacaaaGreat
