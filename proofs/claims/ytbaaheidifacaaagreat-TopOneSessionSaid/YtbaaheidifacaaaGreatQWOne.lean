import Derived.Test.YtbaaheidifacaaaGreatQArgsT
import Derived.Test.YtbaaheidifacaaaGreatQAwk1
import Derived.Test.YtbaaheidifacaaaGreatQOneP
set_option linter.defProp false
set_option linter.unusedVariables false
set_option linter.unusedSimpArgs false
set_option maxRecDepth 100000
set_option maxHeartbeats 12800000
namespace Go.Proofs.YtbaaheidifacaaaGreat
variable {A:Option Addr} {l:List ir} {w:World}
open Go.RowKit
theorem acO {B D:Nat} {w':World} (e:B=D) (h:Below B w w'):Below D w w':=e▸h
theorem acF {s:Int} (h:Cells w A (qJ (l.map fun r=>⟨s,r⟩))) {m:Nat} {r:ir} (hr:l[m]?=some r):
  ∃b o,A=some ⟨b,o,none⟩/\b<w.heap.size/\∀j v,j<9->(sN.mk s r).cells[j]?=some v->w.cell? ⟨b,o+(m*9+j),none⟩=some v:=by
 have D:(l.map fun r=>sN.mk s r)[m]?=some ⟨s,r⟩:=by rw[bo,hr];rfl
 have I:qJ (l.map fun r=>sN.mk s r)≠[]:=by
  intro e;have J:=GM (l.map fun r=>sN.mk s r);have h2:=yZ D;rw[e] at J;simp only[lZ] at J;omega
 obtain⟨b,o,rfl,O,hc⟩:=h I;exact⟨b,o,rfl,O,fun j v hj hv=>hc _ _ ((ig sN.bG j hj D).trans hv)⟩
theorem abN {c:bN} (h:c.ky=[]):(zE c).length<=1000000:=aF (aa8 c) ae
theorem Z6 (p:kU) (A:Option Addr) (n c:Nat) (a5:Int) (w:World) (h0:p.Ok w) (h1:Commands w A n c) (h2:(Lit.int .i64 a5).wf=true):
  Wz 10 #[p.val, .slice A n c,Iz a5] w fun e w'=>e= .returned (.bool true)/\Bz w w':=by
 replace h2:=V9 h2;obtain⟨hle,a8,l,rfl,hA,cQ⟩:=h1;have gq:l.length<=9223372036854775807:=by unfold maxLen at a8;omega
 have a0:=fun u=>Qh p u h0;obtain⟨P,eP⟩:∃P,P=p.prod:=⟨_,rfl⟩;rw[<-eP] at a0;obtain⟨a2,EP,HA,f9,gb⟩:=rU a0 eP hA cQ (And.intro hle a8);clear a0 eP hA cQ hle a8 h0;obtain⟨pc,eb,mn,ed,ef,eg,ei,ej,ek,el,eo,ep,er,et,eu⟩:=p;simp only[kU.val] at a2⊢;obtain⟨w0,bV⟩:∃v,v=w.alloc (.cells #[.string pc, .slice eb mn ed,Iz ef,Iz eg,Iz ei,Iz ej,Iz ek,Iz el,Iz eo,Iz ep, .slice er et eu] 25):=⟨_,rfl⟩;obtain⟨gx,dT⟩:∃v,v=w.heap.size:=⟨_,rfl⟩;have D0:=Zq bV dT;have B0:=Zw bV;have k0:Cz w0 gx 0 (.string pc):=D0.cell 0;have k1:Cz w0 gx 1 (.slice eb mn ed):=D0.cell 1;have k2:Cz w0 gx 2 (Iz ef):=D0.cell 2;have k3:Cz w0 gx 3 (Iz eg):=D0.cell 3;have k4:Cz w0 gx 4 (Iz ei):=D0.cell 4;have k5:Cz w0 gx 5 (Iz ej):=D0.cell 5;have k6:Cz w0 gx 6 (Iz ek):=D0.cell 6;have k7:Cz w0 gx 7 (Iz el):=D0.cell 7;have k8:Cz w0 gx 8 (Iz eo):=D0.cell 8;have k9:Cz w0 gx 9 (Iz ep):=D0.cell 9;have fi:Cz w0 gx 10 (.slice er et eu):=D0.cell 10;have b0:=ao B0;clear D0 B0
 go_enter Tryz.func10,Tryz.ntmps10
 go_upto_region 1 with(fail)
 rw[<-bV,<-dT];clear bV dT;go_wp2_with fail;refine(a2.h w0).mono ?_;clear k0 k1 k2 k3 k4 k5 k6 k7 k8 k9 fi;rintro e w1⟨ma,mc,sa,sc,rfl,cd,cS,b1⟩;have HR:=ao cd.right;simp only[PD.val]
 go_upto_region 2 with(fail)
 obtain⟨w2,ba⟩:∃v,v=w1.alloc (.cells (P.cells ma mc sa sc) 25):=⟨_,rfl⟩;obtain⟨gp,bb⟩:∃v,v=w1.heap.size:=⟨_,rfl⟩;have D2:fM w2 gp P ma mc sa sc:=ba▸bb▸fM.new _ _ _ _ _ _;have B2:=Zw ba;unfold PD.cells at ba;rw[<-ba,<-bb];obtain⟨cf,ck,d2⟩:=fY D2 (cd.below B2) (dW (dW b0.h b1) B2);have gv:Hid (∀q,qP ma q\/qP sa q->w.heap.size<=q/\q<gp):=ao fun q hq=>⟨jE (cS q hq) b0.h.size,bb▸cd.Xc q hq⟩;have gi:Hid (w.heap.size<=gp):=ao (bb▸aF b0.h.size b1.size);clear D2 B2 ba bb cd cS b1 b0 a2;have D2:=cf.h;have z0:Cz w2 gp 0 (.string (str P.code)):=D2.cell 0;have z1:Cz w2 gp 1 (.slice ma P.E.length mc):=D2.cell 1;have z2:Cz w2 gp 2 (Iz P.tick):=D2.cell 2;have z3:Cz w2 gp 3 (Iz P.low):=D2.cell 3;have z4:Cz w2 gp 4 (Iz P.high):=D2.cell 4;have z5:Cz w2 gp 5 (Iz P.wide):=D2.cell 5;have z6:Cz w2 gp 6 (Iz P.rule):=D2.cell 6;have z7:Cz w2 gp 7 (Iz P.top):=D2.cell 7;have z8:Cz w2 gp 8 (Iz P.least):=D2.cell 8;have z9:Cz w2 gp 9 (Iz P.part):=D2.cell 9;have a3:Cz w2 gp 10 (.slice sa P.settle.length sc):=D2.cell 10;go_wp2_with fail;refine(SK P ma mc sa sc w2 ck.h).mono ?_;clear z0 z1 z2 z3 z4 z5 z6 z7 z8 z9 a3;rintro e w3⟨gg,g,ob,C,ew,R,rfl,d3,b3,d4⟩;have D3:=cf.h.below b3;have z0:Cz w3 gp 0 (.string (str P.code)):=D3.cell 0;have z1:Cz w3 gp 1 (.slice ma P.E.length mc):=D3.cell 1;have z2:Cz w3 gp 2 (Iz P.tick):=D3.cell 2;have z3:Cz w3 gp 3 (Iz P.low):=D3.cell 3;have z4:Cz w3 gp 4 (Iz P.high):=D3.cell 4;have z5:Cz w3 gp 5 (Iz P.wide):=D3.cell 5;have z6:Cz w3 gp 6 (Iz P.rule):=D3.cell 6;have z7:Cz w3 gp 7 (Iz P.top):=D3.cell 7;have z8:Cz w3 gp 8 (Iz P.least):=D3.cell 8;have z9:Cz w3 gp 9 (Iz P.part):=D3.cell 9;have a3:Cz w3 gp 10 (.slice sa P.settle.length sc):=D3.cell 10;go_wp2_with fail;refine(JK P ma mc sa sc w3 (ck.h.below b3)).mono ?_;clear z0 z1 z2 z3 z4 z5 z6 z7 z8 z9 a3;rintro e w4⟨g2,C2,d5,R2,rfl,ez,b4,l1,l2,l3⟩;obtain⟨B,eB⟩:∃B,B=w2.heap.size:=⟨_,rfl⟩;rw[<-eB] at d4;have eA:gp<B:=eB▸D2.lt;have fk:B<=w3.heap.size:=eB▸b3.size;have eC:=d3.lt;have hI:aao B w4 P gg g ob C ew R (vJ.new P) g2 C2 d5 R2 (Mk.new P) (Mk.new P) (within a5 0 7) 0 0:=by
  have eD:∀j,MkQ g2 C2 d5 R2 j->w3.heap.size<=j:=by
   rintro j (h|h|h|h)
   ·rw[h];exact l1
   ·rw[h];exact l2
   ·exact l3 j (.inl h)
   ·exact l3 j (.inr h)
  refine⟨d3.below b4,ez,fun j hj hm=>?_,fun j hj=>?_,rfl,?_,af _,aB _,af _⟩
  ·have:=eC j hj;have:=eD j hm;omega
  ·rcases hj with h|h
   ·exact d4 j h
   ·have:=eD j h;omega
  ·funext y;rfl
 have d6:=cW a5 0 7 ae;have eE:Below B w2 w4:=eB▸dW b3 b4;obtain⟨eF,fq,a4,ax,fx⟩:=rU hI eE eB eA (HA.h.below d2.h);clear d3 b3 d4 D3 ez b4 l1 l2 l3 eB eA fk eC hI eE D2;obtain⟨s,es⟩:∃v,v=within a5 0 7:=⟨_,rfl⟩;rw[<-es] at eF d6;obtain⟨ES,fz⟩:=dF es d6;clear es;go_wp2_with fail;refine(dg a5 0 7 _ ae ae ae).mono ?_;rw[<-ES.h];rintro e wq⟨rfl,rfl⟩;clear d6;go_wp2_with fail
 go_loopw [13] (fun i wr=> ∃(k N:Nat) (m:Mk) (G:vJ) (Gs Gt:Nat->Prop),k<=l.length/\k<=50/\i= Iz k/\Hid (aao B wr P gg g ob C Gs R G g2 C2 Gt R2 m m s N k/\N<=18039*k/\cK m.S<=k)/\Hid (Below B w2 wr)) (fun i _=>50 - (intOf i).toNat)
 case atStart=>exact⟨0,0,Mk.new P,vJ.new P,ew,d5,aB _,aB _,rfl,ao ⟨eF.h,af _,by unfold Mk.new cK;simp only;rw[List.map_replicate];simp[BM.I,gY]⟩,fq⟩
 case round=>
  obtain⟨k,N,m,G,Gs,Gt,hk,gy,rfl,HI,HB⟩:=hrel;obtain⟨wo,rfl⟩:∃wo,wo=wr:=⟨_,rfl⟩;have eG:B<=wo.heap.size:=a4.h▸HB.h.size;have cl:=ao eG;clear eG
  by_cases d7:k<l.length/\k<50
  ·obtain⟨j1,j2⟩:=d7
   obtain⟨b,o,q,rfl,hb,hq,D⟩:=Mv fx.h j1;rw[<-a4.h] at hb;have mv:∀(a:Addr) (v:Value),a.block<B->w2.cell? a=some v->∀u,Below B wo.drew u->u.cell? a=some v:=fun a v ha hv u hu=>((hu.cell (p:=a) ha).trans (HB.h.cell (p:=a) ha)).trans hv;have D2:=cf.h;have z0:=mv _ _ ax.h (D2.cell 0);have z1:=mv _ _ ax.h (D2.cell 1);have z2:=mv _ _ ax.h (D2.cell 2);have z3:=mv _ _ ax.h (D2.cell 3);have z4:=mv _ _ ax.h (D2.cell 4);have z5:=mv _ _ ax.h (D2.cell 5);have z6:=mv _ _ ax.h (D2.cell 6);have z7:=mv _ _ ax.h (D2.cell 7);have z8:=mv _ _ ax.h (D2.cell 8);have z9:=mv _ _ ax.h (D2.cell 9);have a3:=mv _ _ ax.h (D2.cell 10);have a6:=U5 HR.h q k;obtain⟨y,ey⟩:∃y,y=rB P q k:=⟨_,rfl⟩;rw[<-ey] at a6;have eI:=a6.ab0;have cT:=a6.aw;have eJ:=a6.WY ae HR.h;have eK:y.wf:=ey▸ab7 HR.h q k ae;have eL:=abN a6.ky;have cX:cK (pC P m y).1.S<=k+1:=by
    have hf:=HI.h.1.mk'.V2;have:=(Tb hf.f hf.su y).count;have:=HI.h.2.2;omega
   obtain⟨q0,q1,q2,q3,q4,q5,q6,q7,q8⟩:=q;have y0:∀u,Below B wo.drew u->Cz u b (o+k*9) (Iz q0):=mv _ _ hb (D 0 _ ae rfl);have y1:∀u,Below B wo.drew u->Cz u b (o+k*9+1) (Iz q1):=mv ⟨b,o+k*9+1,none⟩ _ hb (D 1 _ ae rfl);have y2:∀u,Below B wo.drew u->Cz u b (o+k*9+2) (Iz q2):=mv ⟨b,o+k*9+2,none⟩ _ hb (D 2 _ ae rfl);have y3:∀u,Below B wo.drew u->Cz u b (o+k*9+3) (Iz q3):=mv ⟨b,o+k*9+3,none⟩ _ hb (D 3 _ ae rfl);have y4:∀u,Below B wo.drew u->Cz u b (o+k*9+4) (Iz q4):=mv ⟨b,o+k*9+4,none⟩ _ hb (D 4 _ ae rfl);have y5:∀u,Below B wo.drew u->Cz u b (o+k*9+5) (Iz q5):=mv ⟨b,o+k*9+5,none⟩ _ hb (D 5 _ ae rfl);have y6:∀u,Below B wo.drew u->Cz u b (o+k*9+6) (Iz q6):=mv ⟨b,o+k*9+6,none⟩ _ hb (D 6 _ ae rfl);have y7:∀u,Below B wo.drew u->Cz u b (o+k*9+7) (Iz q7):=mv ⟨b,o+k*9+7,none⟩ _ hb (D 7 _ ae rfl);have y8:∀u,Below B wo.drew u->Cz u b (o+k*9+8) (.string (str q8)):=mv ⟨b,o+k*9+8,none⟩ _ hb (D 8 _ ae rfl);have i3:(k:Int)<l.length:=ae;have i4:(k:Int)<50:=ae;obtain⟨fH,c0,eN,fT,f0,eO,f1,bc,eQ,EY,J1,J2⟩:=QN eI cT eJ eK eL cX mv D hb ey j1 j2;clear hq D mv D2 a6 eI cT eJ eK eL cX ey j1 j2 hb
   go_upto_region 10 with(fail)
   refine Zb B 99999 [8,9] [0,1,2,3,4,5,6,7,8,9,10] ?_;refine Yt ?_;clear z0 z1 z2 z3 z4 z5 z6 z7 z8 z9 a3 y0 y1 y2 y3 y4 y5 y6 y7 y8;refine Ym fun K hK=>?_;refine(abo P ma mc sa sc ⟨q0,q1,q2,q3,q4,q5,q6,q7,q8⟩ k wo.drew ((ck.h.below (acO a4.h HB.h)).drew) ae (EY.h▸eN.h)).mono ?_;rw[<-EY.h];rintro e w4⟨Ab,cb,rfl,f2,eR,d8,eS,b4⟩;obtain⟨nb,cm⟩:∃v,v=(zE y).length:=⟨_,rfl⟩;rw[<-cm] at d8⊢;have d9:=HI.h.1.below (dW (below_drewN (aa _ wo) 1) b4);have hgate:=ab9 d9 (aF cl.h b4.size) (cA fz.h) ae HI.h.2.1 ae eN.h fT.h c0.h.2 (cA HI.h.2.2) cm.symm d8 eS (cm▸f0.h) eR;obtain⟨res,bf⟩:∃x,x=pC P m y:=⟨_,rfl⟩;unfold acK at hgate;rw[<-bf] at hgate;have bh:=d9.lt;have bp:=ao bh;clear bh;obtain⟨bt,bE,bH⟩:=fY hgate bf b4;clear hgate d9 f2 eR d8 eS cm bf b4;refine Yo hK (bH.h.mono cl.h) ?_;refine Ym fun K hK=>?_;refine bt.h.mono ?_;rintro e w5⟨Ao,co,Gs',rfl,bQ,cn,b5⟩;refine Yo hK (b5) ?_;refine Yt ?_;refine aT ?_;have ct:Below B w2 w5:=(HB.h.drew.trans (bH.h.mono cl.h)).trans b5;have dc:B<=w5.heap.size:=a4.h▸ct.size;obtain⟨M,eM⟩:∃x,x=res.2.length:=⟨_,rfl⟩;rw[<-eM] at bQ cn⊢;obtain⟨G',eT⟩:∃x,x=(yb P G s (zE y)).1:=⟨_,rfl⟩;rw[<-eT] at cn;obtain⟨bR,f3,eU,bU,EM,HN⟩:=FW bQ cn ct dc eM HI.h.2.1;have ay:∀(a:Addr) (v:Value),a.block<B->w2.cell? a=some v->∀u,Below B w5.drew u->u.cell? a=some v:=fun a v ha hv u hu=>((hu.cell (p:=a) ha).trans (ct.cell (p:=a) ha)).trans hv;have D2:=cf.h;have hb:=eQ.h;have D:=bc.h;have z0:=ay _ _ ax.h (D2.cell 0);have z1:=ay _ _ ax.h (D2.cell 1);have z2:=ay _ _ ax.h (D2.cell 2);have z3:=ay _ _ ax.h (D2.cell 3);have z4:=ay _ _ ax.h (D2.cell 4);have z5:=ay _ _ ax.h (D2.cell 5);have z6:=ay _ _ ax.h (D2.cell 6);have z7:=ay _ _ ax.h (D2.cell 7);have z8:=ay _ _ ax.h (D2.cell 8);have z9:=ay _ _ ax.h (D2.cell 9);have a3:=ay _ _ ax.h (D2.cell 10);have y0:∀u,Below B w5.drew u->Cz u b (o+k*9) (Iz q0):=ay ⟨b,o+k*9,none⟩ _ hb (D 0 _ ae rfl);have y1:∀u,Below B w5.drew u->Cz u b (o+k*9+1) (Iz q1):=ay ⟨b,o+k*9+1,none⟩ _ hb (D 1 _ ae rfl);have y2:∀u,Below B w5.drew u->Cz u b (o+k*9+2) (Iz q2):=ay ⟨b,o+k*9+2,none⟩ _ hb (D 2 _ ae rfl);have y3:∀u,Below B w5.drew u->Cz u b (o+k*9+3) (Iz q3):=ay ⟨b,o+k*9+3,none⟩ _ hb (D 3 _ ae rfl);have y4:∀u,Below B w5.drew u->Cz u b (o+k*9+4) (Iz q4):=ay ⟨b,o+k*9+4,none⟩ _ hb (D 4 _ ae rfl);have y5:∀u,Below B w5.drew u->Cz u b (o+k*9+5) (Iz q5):=ay ⟨b,o+k*9+5,none⟩ _ hb (D 5 _ ae rfl);have y6:∀u,Below B w5.drew u->Cz u b (o+k*9+6) (Iz q6):=ay ⟨b,o+k*9+6,none⟩ _ hb (D 6 _ ae rfl);have y7:∀u,Below B w5.drew u->Cz u b (o+k*9+7) (Iz q7):=ay ⟨b,o+k*9+7,none⟩ _ hb (D 7 _ ae rfl);have y8:∀u,Below B w5.drew u->Cz u b (o+k*9+8) (.string (str q8)):=ay ⟨b,o+k*9+8,none⟩ _ hb (D 8 _ ae rfl);clear bQ cn ct dc eM eT ay D2 hb D bt HI HB cl bc eQ f1 b5;go_wp2_with fail
   go_upto_region 11 with(fail)
   refine Zb B 99999 [7,8] [0,1,2,3,4,5,6,7,8,9] ?_;refine Yt ?_;clear z0 z1 z2 z3 z4 z5 z6 z7 z8 z9 a3 y0 y1 y2 y3 y4 y5 y6 y7 y8;refine Ym fun K hK=>?_;refine(Pj P ma mc sa sc ⟨q0,q1,q2,q3,q4,q5,q6,q7,q8⟩ k w5.drew ((ck.h.below (acO a4.h eU.h)).drew) ae).mono ?_;rintro e w6⟨rfl,b6⟩;rw[<-EY.h];have eV:=f3.h.below (dW (below_drewN (aa _ w5) 1) b6);have cv:=acr (c:=y) (bE.h▸eV) (aF bU.h b6.size) ae c0.h.2 fH.h.2;unfold acL at cv;rw[<-bE.h] at cv;obtain⟨eW,cF⟩:=dF cv b6;clear cv eV b6;obtain⟨r0,r1,r2,r3,r4,r5,r6,r7,r8⟩:=y;simp only[bN.val,bN.cells];refine Yo hK (cF.h.mono bU.h) ?_;refine Ym fun K hK=>?_;refine eW.h.mono ?_;rintro e w7⟨Ar,cr,eY,rfl,eZ,hlen,e0,e3,b7⟩;refine Yo hK (b7) ?_;refine Yt ?_;refine aT ?_;have e4:Below B w2 w7:=(eU.h.drew.trans (cF.h.mono bU.h)).trans b7;have e5:Cells w7 Ao (qJ (res.2.map fun r=>⟨s,r⟩)):=by
    by_cases hz:M=0
    ·have:res.2=[]:=aP (EM.h▸hz)
     rw[this];exact Cells.nil _ _
    ·obtain⟨q,rfl,gA,_⟩:=kz bR.h ae
     have c6:=(dP.O bR.h).below (dW (below_drewN (aa _ w5) 1) cF.h);refine e3.cells c6 fun b' o' hA hm=>?_;injection hA with hA;injection hA with e1 _;have:=bp.h b' hm;omega
   rw[<-EM.h] at hlen⊢;obtain⟨f4,f5,dp,f6,e6⟩:=rU e5 eZ hlen e0 e4;clear e5 eZ hlen e0 e4 e3 b7 eW cF bH i3 i4 bR bp;go_wp2_with fail
   go_loopw [16] (fun i wr=> ∃j:Nat,j<=M/\i= Iz j/\Hid (Bz w7 wr)) (fun i _=>M - (intOf i).toNat)
   case atStart=>exact⟨0,aB _,rfl,ao (aa _ _)⟩
   case round=>
    obtain⟨j,hj,rfl,a7⟩:=hrel;obtain⟨wp,rfl⟩:∃wo,wo=wr:=⟨_,rfl⟩
    by_cases cH:j<M
    ·have dS:j<res.2.length:=by rw[<-EM.h];exact cH
     obtain⟨b,o,r,rfl,hb,hr,D⟩:=Tg (f5.h.below a7.h) (m:=j) dS;obtain⟨b2,o2,rfl,gG,J⟩:=acF (f4.h.below a7.h) hr;have gI:j<20000000:=cA dp.h;obtain⟨r0,r1,r2,r3,r4,r5,r6,r7⟩:=r;have gO:Cz wp b2 (o2+j*9) (Iz s):=J 0 _ ae rfl;have y0:Cz wp b (o+j*8) (Iz r0):=D 0 _ ae rfl;have z0:Cz wp b2 (o2+j*9+1) (Iz r0):=J 1 _ ae rfl;have y1:Cz wp b (o+j*8+1) (Iz r1):=D 1 _ ae rfl;have z1:Cz wp b2 (o2+j*9+2) (Iz r1):=J 2 _ ae rfl;have y2:Cz wp b (o+j*8+2) (Iz r2):=D 2 _ ae rfl;have z2:Cz wp b2 (o2+j*9+3) (Iz r2):=J 3 _ ae rfl;have y3:Cz wp b (o+j*8+3) (Iz r3):=D 3 _ ae rfl;have z3:Cz wp b2 (o2+j*9+4) (Iz r3):=J 4 _ ae rfl;have y4:Cz wp b (o+j*8+4) (Iz r4):=D 4 _ ae rfl;have z4:Cz wp b2 (o2+j*9+5) (Iz r4):=J 5 _ ae rfl;have y5:Cz wp b (o+j*8+5) (Iz r5):=D 5 _ ae rfl;have z5:Cz wp b2 (o2+j*9+6) (Iz r5):=J 6 _ ae rfl;have y6:Cz wp b (o+j*8+6) (Iz r6):=D 6 _ ae rfl;have z6:Cz wp b2 (o2+j*9+7) (Iz r6):=J 7 _ ae rfl;have y7:Cz wp b (o+j*8+7) (Iz r7):=D 7 _ ae rfl;have z7:Cz wp b2 (o2+j*9+8) (Iz r7):=J 8 _ ae rfl;have gj:∀u,(binOp .neq 40 (.agg #[Iz r0,Iz r1,Iz r2,Iz r3,Iz r4,Iz r5,Iz r6,Iz r7]) (.agg #[Iz r0,Iz r1,Iz r2,Iz r3,Iz r4,Iz r5,Iz r6,Iz r7])).run Tryz.prog u= .ok (.bool false) u:=fun u=>by rw[UQ,WN];rfl
     have i3:(j:Int)<M:=ae;have e7:=ao cH;clear hr D J cH dS;go_wp2_with fail
     go_quiet (fail)
     go_wp2_with fail;go_roundw
     case rel=>exact⟨j+1,e7.h,by go_num,ao (below_drewN a7.h _)⟩
     case measure=>have:=e7.h;simp[intOf];omega
    ·obtain rfl:j=M:=ae
     have i3:¬(j:Int)<j:=ae;obtain⟨f7,f8⟩:=dF (e6.h.trans (a7.h.mono (a4.h▸e6.h.size))) (show aao B wp P gg g ob C Gs' R G' g2 C2 eY R2 res.1 res.1 s (N+j) (k+1)/\N+j<=18039*(k+1)/\cK res.1.S<=k+1 from⟨f6.h.below a7.h,jE dp.h HN.h,bE.h▸eO.h⟩);clear cH a7;go_wp2_with fail;go_roundw
     case rel=>exact⟨k+1,N+j,res.1,G',Gs',eY,J1.h,J2.h,by go_num,f8,f7⟩
     case measure=>have:=J2.h;simp[intOf];omega
  ·have e9:Bz w wo:=d2.h.trans (HB.h.mono (a4.h▸d2.h.size))
   have ea:=abe (G:=G) (s:=s) (by rw[HI.h.1.gm];exact HI.h.1.own) (by rw[HI.h.1.gm];exact HI.h.1.mk'.su);rw[HI.h.1.gm] at ea;obtain⟨fa,ff⟩:=dF e9 ea;clear e9 ea HB
   by_cases hl:k=l.length
   ·have i3:¬(k:Int)<l.length:=ae
    clear d7 hl;go_wp2_with fail;refine(P4 Gs R gg g ob P G C s wo HI.h.1.gt).mono ?_;rintro e w8⟨rfl,b8⟩;go_wp2_with fail;refine(aat g2 P m Gt R2 C2 w8 (HI.h.1.mk'.below b8)).mono ?_;rintro e w9⟨rfl,rfl⟩;rw[ff.h];go_wp2_with fail;refine(Qw w8).mono ?_;rintro e w9⟨rfl,b9⟩;go_wp2_with fail;go_ret;exact⟨rfl,dW (dW fa.h b8) b9⟩
   ·have i3:(k:Int)<l.length:=ae
    have i4:¬(k:Int)<50:=ae;clear d7 hl;go_wp2_with fail;refine(P4 Gs R gg g ob P G C s wo HI.h.1.gt).mono ?_;rintro e w8⟨rfl,b8⟩;go_wp2_with fail;refine(aat g2 P m Gt R2 C2 w8 (HI.h.1.mk'.below b8)).mono ?_;rintro e w9⟨rfl,rfl⟩;rw[ff.h];go_wp2_with fail;refine(Qw w8).mono ?_;rintro e w9⟨rfl,b9⟩;go_wp2_with fail;go_ret;exact⟨rfl,dW (dW fa.h b8) b9⟩
end Go.Proofs.YtbaaheidifacaaaGreat
