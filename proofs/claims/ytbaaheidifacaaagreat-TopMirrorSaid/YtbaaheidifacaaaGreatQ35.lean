import Derived.Test.YtbaaheidifacaaaGreatQ30
import Derived.Test.YtbaaheidifacaaaGreatQ33
import Derived.Test.YtbaaheidifacaaaGreatQ34
set_option linter.defProp false
set_option linter.unusedVariables false
set_option linter.unusedSimpArgs false
set_option maxRecDepth 100000
set_option maxHeartbeats 12800000
namespace Go.Proofs.YtbaaheidifacaaaGreat
variable {A A' A2 Ab ma sa:Option Addr} {B N b c' c2 cb f g go k mc n s sc ub x:Nat} {Fs:Nat→Nat→Prop} {G G0 Gm Gs R R0:Nat→Prop} {M:BM} {P:PD} {S S' S1:Sm} {T T':TypeId} {X c:bN} {a id p ag q q1 aw t:Int} {bs:List Nat} {cs:Array Value} {im:Option Qt} {l:List fG} {m:Mk} {r:iQ} {res:Mk×List ir} {st:jz} {tp tp':kJ} {u w w' w0 w3 wr:World} {us xs ys:List Value}
open Go.RowKit
theorem kM.WA {c':bN} (h:kM w g c) (i:Nat) (u:Value) (hc:c.cells.setIfInBounds i u=c'.cells):kM (w.setCell ⟨g,i,none⟩ u) g c':=by
 have:=aE.set (T:=35) h i u;rw[hc] at this;exact this
structure nR (w0 v:World) (g:Nat) (P:PD) (ma:Option Addr) (mc:Nat) (sa:Option Addr) (sc:Nat) (c X:bN):Prop where
 b:Bz w0 v
 pb:fM v g P ma mc sa sc
 cc:kM v (g+1) c
 zz:kM v (g+2) bN.zero
 O:kM v (g+3) X
 hg:w0.heap.size≤g
theorem nR.below {v v':World} (h:nR w0 v g P ma mc sa sc c X) (D:Bz v v'):nR w0 v' g P ma mc sa sc c X:=
 ⟨dW h.b D,aE.below h.pb D,h.cc.below D,h.zz.below D,h.O.below D,h.hg⟩
theorem nR.drew {v:World} (h:nR w0 v g P ma mc sa sc c X):nR w0 v.drew g P ma mc sa sc c X:=h.below (aS (aa _ _))
theorem nR.set {v:World} {I:bN} (h:nR w0 v g P ma mc sa sc c X) (i:Nat) (u:Value) (hc:X.cells.setIfInBounds i u=I.cells):nR w0 (v.setCell ⟨g+3,i,none⟩ u) g P ma mc sa sc c I:=by
 have D:∀k,k≠g+3->(v.setCell ⟨g+3,i,none⟩ u).heap[k]?=v.heap[k]?:=fun k J=>heap_setCell_other _ _ _ _ J;exact⟨h.b.setCell (by show w0.heap.size<=g+3;have:=h.hg;omega) u,aE.block h.pb (D g ae),(D (g+1) ae).trans h.cc,(D (g+2) ae).trans h.zz,h.O.WA i u hc,h.hg⟩
theorem bN.frozen (h:kM w g c) (i:Nat):w.frozen? ⟨g,i,none⟩=false:=aE.frozen (T:=35) h i
theorem Ph (D:1<=t/\t<=1000) (ha:0<=a/\a<=9):wrap64 (t*a)=t*a:=by
 have I:0<=t*a:=jG ae ae;have J:t*a<=1000*9:=tA ae ae ae ae;exact py _ ae
theorem Ut (I:1<=t/\t<=1000) (ha:0<=a/\a<=9):0<=t*a/\t*a<=9000:=by
 have D:0<=t*a:=jG ae ae;have J:t*a<=1000*9:=tA ae ae ae ae;exact⟨D,ae⟩
def VP (P:PD) (c:bN) (i:Nat) (w:World) (e:Ending) (w':World):Prop:=e= .returned (rB P c i).val∧Bz w w'
theorem Pj (P:PD) (ma:Option Addr) (mc:Nat) (sa:Option Addr) (sc:Nat) (c:bN) (i:Nat) (w:World) (hP:iZ w P ma sa) (hi:i<=1000000):
  Wz 17 #[P.val ma mc sa sc,c.val,Iz (i:Int)] w (VP P c i w):=by
 obtain⟨ck,ci,cn,cs,ax,cq,cl,ct,cb⟩:=c;have ed:=hP.right.cnt;obtain⟨N,eN⟩:=Zn (P.count:Nat);obtain⟨tk,b9⟩:=Zn P.tick;have ht:1<=tk/\tk<=1000:=b9▸⟨hP.right.BO,hP.right.EH⟩;have hN:2<=N/\N<=21:=ae;have b0:=cW ck 0 8 ae;have b1:=cW ci 0 30 ae;have b2:=cW cn 0 ((N:Int) - 1) ae;have b3:=cW cs 0 1 ae;have b4:=cW ax 0 9 ae;have b5:=cW cq 0 11 ae;obtain⟨a0,bp⟩:=Zn (within ck 0 8);obtain⟨a1,cT⟩:=Zn (within ci 0 30);obtain⟨a2,cX⟩:=Zn (within cn 0 ((N:Int) - 1));obtain⟨a3,dc⟩:=Zn (within cs 0 1);obtain⟨a4,cd⟩:=Zn (within ax 0 9);obtain⟨a5,cf⟩:=Zn (within cq 0 11);rw[<-bp] at b0;rw[<-cT] at b1;rw[<-cX] at b2;rw[<-dc] at b3;rw[<-cd] at b4;rw[<-cf] at b5;have b6:=cW cl 0 (1+a5) ae;obtain⟨a6,dp⟩:=Zn (within cl 0 (1+a5));rw[<-dp] at b6;obtain⟨kd,bQ⟩:=Zn (if 4<1+a0 then 1 else 1+a0:Int);obtain⟨pr,bR⟩:=Zn (tk*a4:Int);have ef:=Ut ht b4;have cm:wrap64 (tk*a4)=pr:=bR▸Ph ht b4;have bE:IntKind.i64.wrap (tk*a4)=pr:=(IntWalk.i64_left _).trans cm;rw[<-bR] at ef;obtain⟨r5,cv⟩:=Zn (ct.tmod 5:Int);obtain⟨r4,cF⟩:=Zn (cl.tmod 4:Int);have eC: -4<=r5/\r5<=4:=by
  have h1:=Int.tmod_lt_of_pos ct (b:=5) ae;have h2:=Int.lt_tmod_of_pos ct (b:=5) ae;omega
 have eD: -3<=r4/\r4<=3:=by
  have h1:=Int.tmod_lt_of_pos cl (b:=4) ae;have h2:=Int.lt_tmod_of_pos cl (b:=4) ae;omega
 have bU:IntKind.i64.wrap (ct.tmod 5)=r5:=cv▸aN _ ae;have ba:wrap64 (ct.tmod 5)=r5:=cv▸py _ ae;have dS:IntKind.i64.wrap (cl.tmod 4)=r4:=cF▸aN _ ae;have bH:wrap64 (cl.tmod 4)=r4:=cF▸py _ ae;obtain⟨bV,cH⟩:=Zn (if r5=2 then 2 else 1:Int);obtain⟨tm,d6⟩:=Zn (if r5=3 then 3 else bV:Int);obtain⟨ls,els⟩:=Zn (if r4=1 then a6 else 0:Int);obtain⟨sp,d7⟩:=Zn (decide (P.n<=a2.toNat):Bool);obtain⟨p4,d8⟩:=Zn (if kd=4 then pr+5*tk else pr:Int);have d4:kd=1->rB P ⟨ck,ci,cn,cs,ax,cq,cl,ct,cb⟩ i=⟨1,(i:Int)+1,a2,1+a3,if sp=true then pr - 4*tk else pr+8*tk,1+a5,ls,tm,[]⟩:=fun hk=>by
  have d9:(1+within ck 0 8=1\/4<1+within ck 0 8):=by rw[<-bp];rw[bQ] at hk;split at hk<;>omega
  have bc:(a2<(P.n:Int))↔¬sp=true:=by rw[d7,decide_eq_true_iff];omega
  unfold rB;simp only;rw[if_pos d9,<-eN,<-cX,<-dc,<-cd,<-cf,<-dp,<-b9,<-cv,<-cF,<-bR,<-els,lM 8 tk,lM 4 tk];have e5:(if r5=3 then (3:Int) else if r5=2 then 2 else 1)=tm:=by rw[d6,cH]
  rw[e5]
  by_cases hs:sp=true
  ·rw[if_pos hs,if_neg (fun e=>bc.1 e hs)]
  ·rw[if_neg hs,if_pos (bc.2 hs)]
 have hold:kd≠1->rB P ⟨ck,ci,cn,cs,ax,cq,cl,ct,cb⟩ i=⟨kd,1+a1,0,0,p4,1+a5,0,0,[]⟩:=fun hk=>by
  have d9:¬(1+within ck 0 8=1\/4<1+within ck 0 8):=by rw[<-bp];rw[bQ] at hk;split at hk<;>omega
  have e1:kd=1+a0:=by rw[bQ,if_neg (by rw[bp];omega)]
  unfold rB;simp only;rw[if_neg d9,<-bp,<-e1,<-cT,<-cd,<-cf,<-b9,<-bR,lM 5 tk,lM tk 5,<-d8]
 have eE:1<=kd/\kd<=4:=by rw[bQ];split<;>omega
 obtain⟨A0,A1,A2,A3,A4,A5,A6,EN,dT,ei,eF,ej,ez,d5,ek,el,eA,eo⟩:=TN bp cT cX dc cd cf dp eN b9 bQ bR cv cF cH d6 els d7 d8;obtain⟨er,et,HP,W5,W6,W4⟩:=FW d4 hold hP (And.intro bU ba) (And.intro dS bH) (And.intro cm bE);clear bp cT cX dc cd cf dp eN b9 bQ bR cv cF cH d6 els d7 d8 d4 hold hP ed bU ba dS bH cm bE;obtain⟨R,eR⟩:=Zn (VP P ⟨ck,ci,cn,cs,ax,cq,cl,ct,cb⟩ i w);have ER:=ao eR;rw[PD.jt,show bN.val ⟨ck,ci,cn,cs,ax,cq,cl,ct,cb⟩= .agg (bN.cells ⟨ck,ci,cn,cs,ax,cq,cl,ct,cb⟩) from rfl,<-eR];clear eR;obtain⟨W3,bt⟩:=Zn (((w.alloc (.cells (P.cells ma mc sa sc) 25)).alloc (.cells (bN.cells ⟨ck,ci,cn,cs,ax,cq,cl,ct,cb⟩) 35)).alloc (.cells (bN.cells bN.zero) 35));obtain⟨g,eg⟩:=Zn w.heap.size;have d2:W3.heap.size=g+3:=by rw[bt,eg];simp
 have B3:Bz w W3:=bt▸au (au (au (aa _ _) _) _) _;have K0:fM W3 g P ma mc sa sc:=bt▸eg▸aE.below (aE.below (fM.new _ _ _ _ _ _) (au (aa _ _) _)) (au (aa _ _) _);have K1:kM W3 (g+1) ⟨ck,ci,cn,cs,ax,cq,cl,ct,cb⟩:=by
  rw[bt,eg];have h:=(kM.new (w.alloc (.cells (P.cells ma mc sa sc) 25)) ⟨ck,ci,cn,cs,ax,cq,cl,ct,cb⟩).below (au (aa _ _) (.cells (bN.cells bN.zero) 35));rw[cw] at h;exact h
 have K2:kM W3 (g+2) bN.zero:=by
  rw[bt,eg];have h:=kM.new ((w.alloc (.cells (P.cells ma mc sa sc) 25)).alloc (.cells (bN.cells ⟨ck,ci,cn,cs,ax,cq,cl,ct,cb⟩) 35)) bN.zero;rw[cw,cw] at h;exact h
 have c0:Cz W3 (g+1) 0 (Iz ck):=K1.cell 0;have d3:w.heap.size<=g:=ae;have HK:=ao (And.intro K0 (And.intro K1 (And.intro K2 (And.intro B3 (And.intro d2 d3)))));clear K0 K1 K2 B3 d2 d3
 go_enter Tryz.func17,Tryz.ntmps17
 go_upto_region 1 with(fail)
 refine jN bt ?_;rw[<-eg];have EG:=ao eg;clear bt eg;go_wp2_with fail;refine(dg ck 0 8 W3 ae ae ae).mono ?_;rw[<-A0.h];rintro e u⟨rfl,rfl⟩
 go_upto_region 2 with(fail)
 obtain⟨v0,e2⟩:=Zn (W3.alloc (.cells (bN.cells ⟨1+a0,0,0,0,0,0,0,0,[]⟩) 35));refine jN e2 ?_;rw[HK.h.2.2.2.2.1];have D:Hid (nR w v0 g P ma mc sa sc ⟨ck,ci,cn,cs,ax,cq,cl,ct,cb⟩ ⟨1+a0,0,0,0,0,0,0,0,[]⟩):=ao (by
  obtain⟨K0,K1,K2,B3,d2,d3⟩:=HK.h;have hb:=Zw e2;refine⟨dW B3 hb,aE.below K0 hb,K1.below hb,K2.below hb,?_,d3⟩;rw[e2,<-d2];exact kM.new W3 _)
 clear HK e2 c0;have c1:Cz v0 (g+1) 1 (Iz ci):=D.h.cc.cell 1;have x1:Cz v0 (g+3) 1 (Iz 0):=D.h.O.cell 1;have y1:=bN.frozen D.h.O 1;go_wp2_with fail;refine(dg ci 0 30 v0 ae ae ae).mono ?_;rw[<-A1.h];rintro e u⟨rfl,rfl⟩
 go_upto_region 3 with(fail)
 clear c1 x1 y1;obtain⟨v1,e2⟩:=Zn (v0.setCell ⟨g+3,1,none⟩ (Iz (1+a1)));refine jN e2 ?_;have I:Hid (nR w v1 g P ma mc sa sc ⟨ck,ci,cn,cs,ax,cq,cl,ct,cb⟩ ⟨1+a0,1+a1,0,0,0,0,0,0,[]⟩):=ao (e2▸D.h.set 1 (Iz (1+a1)) rfl);clear D e2;have D:=I;clear I;have x0:Cz v1 (g+3) 0 (Iz (1+a0)):=D.h.O.cell 0;have y0:=bN.frozen D.h.O 0
 go_upto_if 24 with(fail)
 go_cut [] (fun wx=>Hid (nR w wx g P ma mc sa sc ⟨ck,ci,cn,cs,ax,cq,cl,ct,cb⟩ ⟨kd,1+a1,0,0,0,0,0,0,[]⟩))
 case first=>
  by_cases h4:4<1+a0
  ·have e1:kd=1:=by rw[ei.h,if_pos h4]
   subst e1;go_wp2_with fail;go_meet;exact ao (D.h.set 0 _ rfl)
  ·have e1:kd=1+a0:=by rw[ei.h,if_neg h4]
   have hf:decide (4<1+a0)=false:=decide_eq_false h4;go_wp2_with fail;go_meet;rw[e1];exact D
 clear x0 y0;clear D;have D:=hcut;clear hcut;obtain⟨v2,a7⟩:=Zn wc;rw[<-a7] at D⊢;clear a7;have k0:Cz v2 g 0 (.string (str P.code)):=D.h.pb.cell 0;have k1:Cz v2 g 1 (.slice ma P.E.length mc):=D.h.pb.cell 1;have k2:Cz v2 g 2 (Iz P.tick):=D.h.pb.cell 2;have k3:Cz v2 g 3 (Iz P.low):=D.h.pb.cell 3;have k4:Cz v2 g 4 (Iz P.high):=D.h.pb.cell 4;have k5:Cz v2 g 5 (Iz P.wide):=D.h.pb.cell 5;have k6:Cz v2 g 6 (Iz P.rule):=D.h.pb.cell 6;have k7:Cz v2 g 7 (Iz P.top):=D.h.pb.cell 7;have k8:Cz v2 g 8 (Iz P.least):=D.h.pb.cell 8;have k9:Cz v2 g 9 (Iz P.part):=D.h.pb.cell 9;have ea:Cz v2 g 10 (.slice sa P.settle.length sc):=D.h.pb.cell 10;go_wp2_with fail;refine(Lj P ma mc sa sc v2 (HP.h.below D.h.b)).mono ?_;rw[<-EN.h];rintro e v3⟨rfl,eu⟩;clear k0 k1 k2 k3 k4 k5 k6 k7 k8 k9 ea;have I:=ao (D.h.below eu);clear D eu;have D:=I;clear I;have c2:Cz v3 (g+1) 2 (Iz cn):=D.h.cc.cell 2;have x2:Cz v3 (g+3) 2 (Iz 0):=D.h.O.cell 2;have y2:=bN.frozen D.h.O 2;go_wp2_with fail;refine(dg cn 0 ((N:Int) - 1) v3 ae ae ae).mono ?_;rw[<-A2.h];rintro e u⟨rfl,rfl⟩
 go_upto_region 7 with(fail)
 clear c2 x2 y2;obtain⟨v4,e2⟩:=Zn (v3.setCell ⟨g+3,2,none⟩ (Iz a2));refine jN e2 ?_;have I:Hid (nR w v4 g P ma mc sa sc ⟨ck,ci,cn,cs,ax,cq,cl,ct,cb⟩ ⟨kd,1+a1,a2,0,0,0,0,0,[]⟩):=ao (e2▸D.h.set 2 (Iz a2) rfl);clear D e2;have D:=I;clear I;have c3:Cz v4 (g+1) 3 (Iz cs):=D.h.cc.cell 3;have x3:Cz v4 (g+3) 3 (Iz 0):=D.h.O.cell 3;have y3:=bN.frozen D.h.O 3;go_wp2_with fail;refine(dg cs 0 1 v4 ae ae ae).mono ?_;rw[<-A3.h];rintro e u⟨rfl,rfl⟩
 go_upto_region 8 with(fail)
 clear c3 x3 y3;obtain⟨v5,e2⟩:=Zn (v4.setCell ⟨g+3,3,none⟩ (Iz (1+a3)));refine jN e2 ?_;have I:Hid (nR w v5 g P ma mc sa sc ⟨ck,ci,cn,cs,ax,cq,cl,ct,cb⟩ ⟨kd,1+a1,a2,1+a3,0,0,0,0,[]⟩):=ao (e2▸D.h.set 3 (Iz (1+a3)) rfl);clear D e2;have D:=I;clear I;have c5:Cz v5 (g+1) 5 (Iz cq):=D.h.cc.cell 5;have x5:Cz v5 (g+3) 5 (Iz 0):=D.h.O.cell 5;have y5:=bN.frozen D.h.O 5;go_wp2_with fail;refine(dg cq 0 11 v5 ae ae ae).mono ?_;rw[<-A5.h];rintro e u⟨rfl,rfl⟩
 go_upto_region 9 with(fail)
 clear c5 x5 y5;obtain⟨v6,e2⟩:=Zn (v5.setCell ⟨g+3,5,none⟩ (Iz (1+a5)));refine jN e2 ?_;have I:Hid (nR w v6 g P ma mc sa sc ⟨ck,ci,cn,cs,ax,cq,cl,ct,cb⟩ ⟨kd,1+a1,a2,1+a3,0,1+a5,0,0,[]⟩):=ao (e2▸D.h.set 5 (Iz (1+a5)) rfl);clear D e2;have D:=I;clear I;have c4:Cz v6 (g+1) 4 (Iz ax):=D.h.cc.cell 4;have k2:Cz v6 g 2 (Iz tk):=dT.h▸D.h.pb.cell 2;have l2:∀u,Below v6.heap.size v6.drew u->Cz u g 2 (Iz tk):=fun u hu=>Yb hu (aE.lt D.h.pb) k2;have l4:∀u,Below v6.heap.size v6.drew u->Cz u (g+1) 4 (Iz ax):=fun u hu=>Yb hu D.h.cc.lt c4;obtain⟨cm,bE⟩:=W4.h;clear c4 k2;refine Zb v6.heap.size 7 [4,7] [0,1,2,3,4,5,6,7] ?_;refine Yt ?_;clear l2 l4;refine Ym fun K hK=>?_;refine(dg ax 0 9 v6.drew ae ae ae).mono ?_;rw[<-A4.h];rintro e u⟨rfl,rfl⟩;refine Yo hK (dH.J _ _) ?_;have z4:Cz v6.drew (g+3) 4 (Iz 0):=D.h.drew.O.cell 4;have y4:Fz v6.drew (g+3) 4:=bN.frozen D.h.drew.O 4;refine Yt ?_;refine Zl fun K hK=>?_;go_simp;refine Yl hK ?_;refine aT ?_;clear z4 y4 cm bE;obtain⟨v7,e2⟩:=Zn ((v6.setCell ⟨g+3,4,none⟩ (Iz pr)).drew);rw[<-e2];have I:Hid (nR w v7 g P ma mc sa sc ⟨ck,ci,cn,cs,ax,cq,cl,ct,cb⟩ ⟨kd,1+a1,a2,1+a3,pr,1+a5,0,0,[]⟩):=ao (e2▸nR.drew (D.h.set 4 (Iz pr) rfl));clear D e2;have D:=I;clear I
 by_cases b7:kd=1
 ·have bb:=er.h b7
  subst b7;have x0:Cz v7 (g+3) 0 (Iz 1):=D.h.O.cell 0;have x1:Cz v7 (g+3) 1 (Iz (1+a1)):=D.h.O.cell 1;have y1:=bN.frozen D.h.O 1
  go_upto_region 12 with(fail)
  clear x0 x1 y1;obtain⟨v8,e2⟩:=Zn (v7.setCell ⟨g+3,1,none⟩ (Iz ((i:Int)+1)));refine jN e2 ?_;have I:Hid (nR w v8 g P ma mc sa sc ⟨ck,ci,cn,cs,ax,cq,cl,ct,cb⟩ ⟨1,(i:Int)+1,a2,1+a3,pr,1+a5,0,0,[]⟩):=ao (e2▸D.h.set 1 (Iz ((i:Int)+1)) rfl);clear D e2;have D:=I;clear I;have x7:Cz v8 (g+3) 7 (Iz 0):=D.h.O.cell 7;have y7:=bN.frozen D.h.O 7
  go_upto_region 13 with(fail)
  clear x7 y7;obtain⟨v9,e2⟩:=Zn (v8.setCell ⟨g+3,7,none⟩ (Iz 1));refine jN e2 ?_;have I:Hid (nR w v9 g P ma mc sa sc ⟨ck,ci,cn,cs,ax,cq,cl,ct,cb⟩ ⟨1,(i:Int)+1,a2,1+a3,pr,1+a5,0,1,[]⟩):=ao (e2▸D.h.set 7 (Iz 1) rfl);clear D e2;have D:=I;clear I;have c7:Cz v9 (g+1) 7 (Iz ct):=D.h.cc.cell 7;have x7:Cz v9 (g+3) 7 (Iz 1):=D.h.O.cell 7;have y7:=bN.frozen D.h.O 7;obtain⟨bU,ba⟩:=W5.h;have eb:=ej.h.symm
  go_upto_if 61 with(fail)
  go_cut [] (fun wx=>Hid (nR w wx g P ma mc sa sc ⟨ck,ci,cn,cs,ax,cq,cl,ct,cb⟩ ⟨1,(i:Int)+1,a2,1+a3,pr,1+a5,0,bV,[]⟩))
  case first=>
   by_cases h4:r5=2
   ·have e1:bV=2:=by rw[d5.h,if_pos h4]
    subst e1;have hf:(r5==2)=true:=by rw[h4];rfl
    go_wp2_with fail;go_meet;exact ao (D.h.set 7 _ rfl)
   ·have e1:bV=1:=by rw[d5.h,if_neg h4]
    have hf:(r5==2)=false:=beq_eq_false_iff_ne.2 h4;go_wp2_with fail;go_meet;rw[e1];exact D
  clear c7 x7 y7;clear D;have D:=hcut;clear hcut;obtain⟨v10,a7⟩:=Zn wc;rw[<-a7] at D⊢;clear a7;clear bU ba eb;have c7:Cz v10 (g+1) 7 (Iz ct):=D.h.cc.cell 7;have x7:Cz v10 (g+3) 7 (Iz bV):=D.h.O.cell 7;have y7:=bN.frozen D.h.O 7;obtain⟨bU,ba⟩:=W5.h;have eb:=ej.h.symm
  go_upto_if 66 with(fail)
  go_cut [] (fun wx=>Hid (nR w wx g P ma mc sa sc ⟨ck,ci,cn,cs,ax,cq,cl,ct,cb⟩ ⟨1,(i:Int)+1,a2,1+a3,pr,1+a5,0,tm,[]⟩))
  case first=>
   by_cases h4:r5=3
   ·have e1:tm=3:=by rw[ek.h,if_pos h4]
    subst e1;have hf:(r5==3)=true:=by rw[h4];rfl
    go_wp2_with fail;go_meet;exact ao (D.h.set 7 _ rfl)
   ·have e1:tm=bV:=by rw[ek.h,if_neg h4]
    have hf:(r5==3)=false:=beq_eq_false_iff_ne.2 h4;go_wp2_with fail;go_meet;rw[e1];exact D
  clear c7 x7 y7;clear D;have D:=hcut;clear hcut;obtain⟨v11,a7⟩:=Zn wc;rw[<-a7] at D⊢;clear a7;clear bU ba eb;have c6:Cz v11 (g+1) 6 (Iz cl):=D.h.cc.cell 6;have x5:Cz v11 (g+3) 5 (Iz (1+a5)):=D.h.O.cell 5;have x6:Cz v11 (g+3) 6 (Iz 0):=D.h.O.cell 6;have y6:=bN.frozen D.h.O 6;obtain⟨dS,bH⟩:=W6.h;have eB:=ez.h.symm
  go_upto_if 71 with(fail)
  go_cut [] (fun wx=>Hid (nR w wx g P ma mc sa sc ⟨ck,ci,cn,cs,ax,cq,cl,ct,cb⟩ ⟨1,(i:Int)+1,a2,1+a3,pr,1+a5,ls,tm,[]⟩))
  case first=>
   by_cases h4:r4=1
   ·have e1:ls=a6:=by rw[el.h,if_pos h4]
    subst e1;have hf:(r4==1)=true:=by rw[h4];rfl
    go_wp2_with fail;refine(dg cl 0 (1+a5) v11 ae ae ae).mono ?_;rw[<-A6.h];rintro e u⟨rfl,rfl⟩;go_wp2_with fail;go_meet;exact ao (D.h.set 6 _ rfl)
   ·have e1:ls=0:=by rw[el.h,if_neg h4]
    have hf:(r4==1)=false:=beq_eq_false_iff_ne.2 h4;go_wp2_with fail;go_meet;rw[e1];exact D
  clear c6 x5 x6 y6;clear D;have D:=hcut;clear hcut;obtain⟨a8,a7⟩:=Zn wc;rw[<-a7] at D⊢;clear a7;clear dS bH eB;have x2:Cz a8 (g+3) 2 (Iz a2):=D.h.O.cell 2;have k0:Cz a8 g 0 (.string (str P.code)):=D.h.pb.cell 0;have k1:Cz a8 g 1 (.slice ma P.E.length mc):=D.h.pb.cell 1;have k2:Cz a8 g 2 (Iz P.tick):=D.h.pb.cell 2;have k3:Cz a8 g 3 (Iz P.low):=D.h.pb.cell 3;have k4:Cz a8 g 4 (Iz P.high):=D.h.pb.cell 4;have k5:Cz a8 g 5 (Iz P.wide):=D.h.pb.cell 5;have k6:Cz a8 g 6 (Iz P.rule):=D.h.pb.cell 6;have k7:Cz a8 g 7 (Iz P.top):=D.h.pb.cell 7;have k8:Cz a8 g 8 (Iz P.least):=D.h.pb.cell 8;have k9:Cz a8 g 9 (Iz P.part):=D.h.pb.cell 9;have ea:Cz a8 g 10 (.slice sa P.settle.length sc):=D.h.pb.cell 10;obtain⟨x,ex⟩:∃x:Nat,a2=(x:Int):=⟨a2.toNat,ae⟩;have ew:x<P.count:=cA EN.h;rw[ex] at x2;go_wp2_with fail;refine(Pc P ma mc sa sc x a8 (HP.h.below D.h.b) ew).mono ?_;rw[show decide (P.n<=x)=sp from by rw[eA.h];congr 2;omega];rintro e b8⟨rfl,ey⟩;clear x2 k0 k1 k2 k3 k4 k5 k6 k7 k8 k9 ea;have I:=ao (D.h.below ey);clear D ey;have D:=I;clear I;have EX:=ao ex;clear ex ew;rcases cG sp with bc|bc
  ·have ep:(if sp=true then pr - 4*tk else pr+8*tk)=pr - 4*tk:=by rw[bc];rfl
   rw[ep] at bb;have bf:=ao bb;clear ep bb;subst bc;have x4:Cz b8 (g+3) 4 (Iz pr):=D.h.O.cell 4;have y4:=bN.frozen D.h.O 4;have k2:Cz b8 g 2 (Iz tk):=dT.h▸D.h.pb.cell 2
   go_upto_region 23 with(fail)
   clear x4 y4 k2;obtain⟨ay,e2⟩:=Zn (b8.setCell ⟨g+3,4,none⟩ (Iz (pr - 4*tk)));refine jN e2 ?_;have I:Hid (nR w ay g P ma mc sa sc ⟨ck,ci,cn,cs,ax,cq,cl,ct,cb⟩ ⟨1,(i:Int)+1,a2,1+a3,pr - 4*tk,1+a5,ls,tm,[]⟩):=ao (e2▸D.h.set 4 (Iz (pr - 4*tk)) rfl);clear D e2;have D:=I;clear I;obtain⟨q0,q1,q2,q3,q4,q5,q6,q7,q8⟩:=D.h.zz.reads;have f0:=bN.frozen D.h.zz 0;have f1:=bN.frozen D.h.zz 1;have f2:=bN.frozen D.h.zz 2;have f3:=bN.frozen D.h.zz 3;have f4:=bN.frozen D.h.zz 4;have f5:=bN.frozen D.h.zz 5;have f6:=bN.frozen D.h.zz 6;have f7:=bN.frozen D.h.zz 7;have f8:=bN.frozen D.h.zz 8;have x0:Cz ay (g+3) 0 (Iz 1):=D.h.O.cell 0;have x1:Cz ay (g+3) 1 (Iz ((i:Int)+1)):=D.h.O.cell 1;have x2:Cz ay (g+3) 2 (Iz a2):=D.h.O.cell 2;have x3:Cz ay (g+3) 3 (Iz (1+a3)):=D.h.O.cell 3;have x4:Cz ay (g+3) 4 (Iz (pr - 4*tk)):=D.h.O.cell 4;have x5:Cz ay (g+3) 5 (Iz (1+a5)):=D.h.O.cell 5;have x6:Cz ay (g+3) 6 (Iz ls):=D.h.O.cell 6;have x7:Cz ay (g+3) 7 (Iz tm):=D.h.O.cell 7;have x8:Cz ay (g+3) 8 (.string (str [])):=D.h.O.cell 8;go_wp2_with fail;have hf:=iA D.h.zz ⟨1,(i:Int)+1,a2,1+a3,pr - 4*tk,1+a5,ls,tm,[]⟩;obtain⟨wz,bh⟩:=Zn (lA ay (g+2) ⟨1,(i:Int)+1,a2,1+a3,pr - 4*tk,1+a5,ls,tm,[]⟩);rw[<-bh] at hf
   (try simp only[Exit.inBlock,Exit.then])
   refine post_at bh ?_;obtain⟨r0,r1,r2,r3,cQ,cS,r6,r7,r8⟩:=hf.1.cL;refine bodyPost_ret (v:=bN.val ⟨1,(i:Int)+1,a2,1+a3,pr - 4*tk,1+a5,ls,tm,[]⟩) (by simp[results,Tryz.results17,go_sem,r0,r1,r2,r3,cQ,cS,r6,r7,r8];try rfl) rfl ?_;rw[ER.h];exact⟨by rw[bf.h],Leaves.jd D.h.b hf.2 (cA D.h.hg)⟩
  ·have ep:(if sp=true then pr - 4*tk else pr+8*tk)=pr+8*tk:=by rw[bc];rfl
   rw[ep] at bb;have bf:=ao bb;clear ep bb;subst bc;have x4:Cz b8 (g+3) 4 (Iz pr):=D.h.O.cell 4;have y4:=bN.frozen D.h.O 4;have k2:Cz b8 g 2 (Iz tk):=dT.h▸D.h.pb.cell 2
   go_upto_region 23 with(fail)
   clear x4 y4 k2;obtain⟨ay,e2⟩:=Zn (b8.setCell ⟨g+3,4,none⟩ (Iz (pr+8*tk)));refine jN e2 ?_;have I:Hid (nR w ay g P ma mc sa sc ⟨ck,ci,cn,cs,ax,cq,cl,ct,cb⟩ ⟨1,(i:Int)+1,a2,1+a3,pr+8*tk,1+a5,ls,tm,[]⟩):=ao (e2▸D.h.set 4 (Iz (pr+8*tk)) rfl);clear D e2;have D:=I;clear I;obtain⟨q0,q1,q2,q3,q4,q5,q6,q7,q8⟩:=D.h.zz.reads;have f0:=bN.frozen D.h.zz 0;have f1:=bN.frozen D.h.zz 1;have f2:=bN.frozen D.h.zz 2;have f3:=bN.frozen D.h.zz 3;have f4:=bN.frozen D.h.zz 4;have f5:=bN.frozen D.h.zz 5;have f6:=bN.frozen D.h.zz 6;have f7:=bN.frozen D.h.zz 7;have f8:=bN.frozen D.h.zz 8;have x0:Cz ay (g+3) 0 (Iz 1):=D.h.O.cell 0;have x1:Cz ay (g+3) 1 (Iz ((i:Int)+1)):=D.h.O.cell 1;have x2:Cz ay (g+3) 2 (Iz a2):=D.h.O.cell 2;have x3:Cz ay (g+3) 3 (Iz (1+a3)):=D.h.O.cell 3;have x4:Cz ay (g+3) 4 (Iz (pr+8*tk)):=D.h.O.cell 4;have x5:Cz ay (g+3) 5 (Iz (1+a5)):=D.h.O.cell 5;have x6:Cz ay (g+3) 6 (Iz ls):=D.h.O.cell 6;have x7:Cz ay (g+3) 7 (Iz tm):=D.h.O.cell 7;have x8:Cz ay (g+3) 8 (.string (str [])):=D.h.O.cell 8;go_wp2_with fail;have hf:=iA D.h.zz ⟨1,(i:Int)+1,a2,1+a3,pr+8*tk,1+a5,ls,tm,[]⟩;obtain⟨wz,bh⟩:=Zn (lA ay (g+2) ⟨1,(i:Int)+1,a2,1+a3,pr+8*tk,1+a5,ls,tm,[]⟩);rw[<-bh] at hf
   (try simp only[Exit.inBlock,Exit.then])
   refine post_at bh ?_;obtain⟨r0,r1,r2,r3,cQ,cS,r6,r7,r8⟩:=hf.1.cL;refine bodyPost_ret (v:=bN.val ⟨1,(i:Int)+1,a2,1+a3,pr+8*tk,1+a5,ls,tm,[]⟩) (by simp[results,Tryz.results17,go_sem,r0,r1,r2,r3,cQ,cS,r6,r7,r8];try rfl) rfl ?_;rw[ER.h];exact⟨by rw[bf.h],Leaves.jd D.h.b hf.2 (cA D.h.hg)⟩
 ·have bf:=ao (et.h b7)
  have eG:(kd==1)=false:=beq_eq_false_iff_ne.2 b7;have eI:=ao b7;clear b7;have x0:Cz v7 (g+3) 0 (Iz kd):=D.h.O.cell 0;have x4:Cz v7 (g+3) 4 (Iz pr):=D.h.O.cell 4;have y4:=bN.frozen D.h.O 4;have k2:Cz v7 g 2 (Iz tk):=dT.h▸D.h.pb.cell 2
  go_upto_if 105 with(fail)
  go_cut [] (fun wx=>Hid (nR w wx g P ma mc sa sc ⟨ck,ci,cn,cs,ax,cq,cl,ct,cb⟩ ⟨kd,1+a1,a2,1+a3,p4,1+a5,0,0,[]⟩))
  case first=>
   by_cases h4:kd=4
   ·have e1:p4=pr+5*tk:=by rw[eo.h,if_pos h4]
    have hf:(kd==4)=true:=by rw[h4];rfl
    go_wp2_with fail;go_meet;rw[e1];exact ao (D.h.set 4 _ rfl)
   ·have e1:p4=pr:=by rw[eo.h,if_neg h4]
    have hf:(kd==4)=false:=beq_eq_false_iff_ne.2 h4;go_wp2_with fail;go_meet;rw[e1];exact D
  clear x0 x4 y4 k2;clear D;have D:=hcut;clear hcut;obtain⟨v8,a7⟩:=Zn wc;rw[<-a7] at D⊢;clear a7;have x3:Cz v8 (g+3) 3 (Iz (1+a3)):=D.h.O.cell 3;have y3:=bN.frozen D.h.O 3
  go_upto_region 27 with(fail)
  clear x3 y3;obtain⟨v9,e2⟩:=Zn (v8.setCell ⟨g+3,3,none⟩ (Iz 0));refine jN e2 ?_;have I:Hid (nR w v9 g P ma mc sa sc ⟨ck,ci,cn,cs,ax,cq,cl,ct,cb⟩ ⟨kd,1+a1,a2,0,p4,1+a5,0,0,[]⟩):=ao (e2▸D.h.set 3 (Iz 0) rfl);clear D e2;have D:=I;clear I;have x2:Cz v9 (g+3) 2 (Iz a2):=D.h.O.cell 2;have y2:=bN.frozen D.h.O 2
  go_upto_region 28 with(fail)
  clear x2 y2;obtain⟨v10,e2⟩:=Zn (v9.setCell ⟨g+3,2,none⟩ (Iz 0));refine jN e2 ?_;have I:Hid (nR w v10 g P ma mc sa sc ⟨ck,ci,cn,cs,ax,cq,cl,ct,cb⟩ ⟨kd,1+a1,0,0,p4,1+a5,0,0,[]⟩):=ao (e2▸D.h.set 2 (Iz 0) rfl);clear D e2;have D:=I;clear I;obtain⟨q0,q1,q2,q3,q4,q5,q6,q7,q8⟩:=D.h.zz.reads;have f0:=bN.frozen D.h.zz 0;have f1:=bN.frozen D.h.zz 1;have f2:=bN.frozen D.h.zz 2;have f3:=bN.frozen D.h.zz 3;have f4:=bN.frozen D.h.zz 4;have f5:=bN.frozen D.h.zz 5;have f6:=bN.frozen D.h.zz 6;have f7:=bN.frozen D.h.zz 7;have f8:=bN.frozen D.h.zz 8;have x0:Cz v10 (g+3) 0 (Iz kd):=D.h.O.cell 0;have x1:Cz v10 (g+3) 1 (Iz (1+a1)):=D.h.O.cell 1;have x2:Cz v10 (g+3) 2 (Iz 0):=D.h.O.cell 2;have x3:Cz v10 (g+3) 3 (Iz 0):=D.h.O.cell 3;have x4:Cz v10 (g+3) 4 (Iz p4):=D.h.O.cell 4;have x5:Cz v10 (g+3) 5 (Iz (1+a5)):=D.h.O.cell 5;have x6:Cz v10 (g+3) 6 (Iz 0):=D.h.O.cell 6;have x7:Cz v10 (g+3) 7 (Iz 0):=D.h.O.cell 7;have x8:Cz v10 (g+3) 8 (.string (str [])):=D.h.O.cell 8;go_wp2_with fail;have hf:=iA D.h.zz ⟨kd,1+a1,0,0,p4,1+a5,0,0,[]⟩;obtain⟨wz,bh⟩:=Zn (lA v10 (g+2) ⟨kd,1+a1,0,0,p4,1+a5,0,0,[]⟩);rw[<-bh] at hf
  (try simp only[Exit.inBlock,Exit.then])
  refine post_at bh ?_;obtain⟨r0,r1,r2,r3,cQ,cS,r6,r7,r8⟩:=hf.1.cL;refine bodyPost_ret (v:=bN.val ⟨kd,1+a1,0,0,p4,1+a5,0,0,[]⟩) (by simp[results,Tryz.results17,go_sem,r0,r1,r2,r3,cQ,cS,r6,r7,r8];try rfl) rfl ?_;rw[ER.h];exact⟨by rw[bf.h],Leaves.jd D.h.b hf.2 (cA D.h.hg)⟩
theorem Tryz.Sl:(Tryz.prog.info? 240).map (fun i=>(i.zero,i.size,i.bytes))=some (some (.agg #[Iz 0,Iz 0,Iz 0,Iz 0,Iz 0,Iz 0]),6,48):=by kernel_rfl
theorem LM:kA Tryz.prog 184 240 (.agg #[Iz 0,Iz 0,Iz 0,Iz 0,Iz 0,Iz 0]) 6 48:=
 ⟨Tryz.underlying184,let ⟨i,h,D,I,J⟩:=info_parts Tryz.Sl;⟨i,h,D,I,J⟩,rfl,ae,ae⟩
theorem Jv {l:List iQ} (D:S[x]?=some M) (hs:M.side k=r::l):bM P S x k q=(S.set x (ja M r.2 (mA P k r q)),dC x k r.1 r.2 (mA P k r q)):=by
 unfold bM;rw[D];simp only[hs]
theorem qj.gX {C:NF} (h:qj w s P S C):
  w.cell? ⟨s,0,none⟩=some (.string (str P.code))/\w.cell? ⟨s,1,none⟩=some (.slice C.ma P.E.length C.mc)/\w.cell? ⟨s,2,none⟩=some (Iz P.tick)/\w.cell? ⟨s,3,none⟩=some (Iz P.low)/\w.cell? ⟨s,4,none⟩=some (Iz P.high)/\w.cell? ⟨s,5,none⟩=some (Iz P.wide)/\
  w.cell? ⟨s,6,none⟩=some (Iz P.rule)/\w.cell? ⟨s,7,none⟩=some (Iz P.top)/\w.cell? ⟨s,8,none⟩=some (Iz P.least)/\w.cell? ⟨s,9,none⟩=some (Iz P.part)/\w.cell? ⟨s,10,none⟩=some (.slice C.sa P.settle.length C.sc)/\w.cell? ⟨s,11,none⟩=some (.slice C.A C.bs.length C.c)/\w.cell? ⟨s,12,none⟩=some (.map (some C.mb)):=
 ⟨h.D.cell 0,h.D.cell 1,h.D.cell 2,h.D.cell 3,h.D.cell 4,h.D.cell 5,h.D.cell 6,h.D.cell 7,h.D.cell 8,h.D.cell 9,h.D.cell 10,h.D.cell 11,h.D.cell 12⟩
structure CD (w w':World) (G R:Nat→Prop) (s:Nat) (P:PD) (S':Sm) (fl:List fG) (A:Option Addr) (c:Nat) (G':Nat→Prop):Prop where
 own:w'.ownsRow w.heap.size 240 6 (.slice A fl.length c) fl.length (gW fl)
 st:dR w' G' R s P S'
 lv:Lv G w w'
 sub:∀j,G' j→G j∨qO w w' j
 off:∀g,(Value.slice A fl.length c).ownBlock=some g→¬G' g
def Y2 (w w5 wr:World) (G0 Gm R:Nat→Prop) (s:Nat) (P:PD) (S:Sm) (x k:Nat) (M:BM) (es:List dn) (ks:List Int) (p:Int) (m:Nat) (v:Value):Prop:=
 wr.ownsRow w5.heap.size 240 6 v (dC x k p (es.take m) (ks.take m)).length (gW (dC x k p (es.take m) (ks.take m)))∧dR wr Gm R s P (S.set x (ja M (es.take m) (ks.take m)))∧Lv G0 w5 wr∧(∀j,Gm j→G0 j∨(w5.heap.size≤j∧j<wr.heap.size))∧∀g,v.ownBlock=some g→¬Gm g
theorem PE (s:Nat) (P:PD) (S:Sm) (G R:Nat->Prop) (x k:Nat) (M:BM) (r:iQ) (lr:List iQ) (sd q:Int) (w:World) (h:dR w G R s P S) (hM:S[x]?=some M) (hs:M.side k=r::lr) (O:k<2) (eY:sd=(k:Int)+1) (hq:0<=q) (gq:q<=mq r.2):
  Wz 105 #[Pz s, .agg #[Iz (x:Int),Iz sd],Iz q] w fun e w'=> ∃A c G',e= .returned (.slice A (bM P S x k q).2.length c)/\CD w w' G R s P (bM P S x k q).1 (bM P S x k q).2 A c G':=by
 obtain⟨C,hS,gv,gx,hR⟩:=h;have cl:r∈M.side k:=by rw[hs];simp
 have hlen:=(az.1 hM).1;have kx:x<P.count:=by rw[<-hS.sn];exact hlen
 obtain⟨b,M',hb,cm,hB⟩:=hS.book kx;rw[hM] at cm;injection cm with cm;subst cm;obtain⟨gA,hA,hp⟩:=mB hS.ob hb;have xX:=hB.ok;obtain⟨eZ,e5,e6⟩:=xX.lvl cl;obtain⟨eo,er⟩:=yL hS.pd.right xX cl hq gq;rw[Jv hM hs];obtain⟨ks,et⟩:=Zn (mA P k r q);rw[<-et] at eo er⊢;obtain⟨w0,cn⟩:=Zn (w.alloc (.cells #[Iz (x:Int),Iz sd] 175));obtain⟨g4,ct⟩:=Zn w.heap.size;have D4:=Zq cn ct;have B0:=Zw cn;have eu:qj w0 s P S C:=hS.same (fun k O=>B0.block k (hS.Pt k O)) (fun y k O=>B0.block k (hS.NG y k O)) (fun k O=>B0.block k (hS.Ps k O)) B0.size;have e7:=hB.below B0;have e8:Cz w0 s 11 (.slice (some ⟨gA,0,none⟩) C.bs.length C.c):=hA▸eu.D.cell 11;have e9:gA<w.heap.size:=(hS.ob.lt gA (by rw[hA];rfl)).2;have gy:Cz w0 gA x (Pz b):=Yb B0 e9 hp;have x0:=D4.cell;obtain⟨N,eN⟩:=Zn C.bs.length;rw[<-eN] at e8;have i5:(x:Int)<N:=by rw[eN,hS.bn];omega
 obtain⟨HS,HB,HM,fa,gG,gI,gP,gR,cF,gT,ew,d7,g3,g6,g7,cH⟩:=Yz hS hB hM cl hs eo er et eu e7 D4 B0 eZ e5 e6 eY;clear hS hB hM cl hs eo er et eu e7 D4 B0 eZ e5 e6 eY hA hb hp xX eN e9 kx
 go_enter Tryz.func105,Tryz.ntmps105
 go_wp2_with fail;rw[<-cn,<-ct];clear cn;have g9:=ao ct;clear ct
 go_quiet (fail)
 obtain⟨w1,ey⟩:=Zn (w0.drewN nq);rw[<-ey];have B1:Bz w0 w1:=ey▸below_drewN (aa _ _) _;have x1:Cz w1 g4 1 (Iz sd):=(ew.below B1).cell 1;obtain⟨ez,ff,fi⟩:=fY (ew.below B1) (gT.below B1) B1;clear e8 gy x0 ey B1;go_wp2_with fail;refine(yI b M (C.Fs x) k sd r lr w1 ff O cH gG).mono ?_;rintro e w2⟨rfl,b2⟩;have x2:Cz w2 g4 1 (Iz sd):=(ez.below b2).cell 1;have y2:Cz w2 g4 0 (Iz (x:Int)):=(ez.below b2).cell 0;have hh:g4<w2.heap.size:=(ez.below b2).lt;obtain⟨w3,bE⟩:=Zn (w2.alloc (.cells #[Iz r.1,Iz (mq r.2),Iz (r.2.length:Int)] 75));have B3:Bz w1 w3:=bE▸au b2 _;obtain⟨hl,fk⟩:=dF (ff.below B3) B3;obtain⟨p,ep⟩:=Zn r.1;rw[<-ep] at bE⊢;have EP:=ao ep;clear x1 b2 B3 ep;go_wp2_with fail;rw[<-bE];have ia:=ao bE;clear bE x2 y2 hh;refine(Uu b M (C.Fs x) k sd p r w3 hl O cH fa EP.symm).mono ?_;rintro e w4⟨A5,c5,rfl,a6,b4⟩;have eA:Bz w1 w4:=dW fk b4;have bp:Bz w0 w4:=dW fi eA;have S4:qj w4 s P S C:=cF.same (fun k O=>bp.block k (cF.Pt k O)) (fun y k O=>bp.block k (cF.NG y k O)) (fun k O=>bp.block k (cF.Ps k O)) bp.size;obtain⟨k0,k1,k2,k3,k4,k5,k6,k7,k8,k9,ho,ht,hy⟩:=S4.gX;obtain⟨L5,cQ⟩:=Zn (r.2.map (kB sd p));have eB:L5.length=r.2.length:=by rw[cQ,br]
 rw[<-cQ] at a6;obtain⟨n5,cS⟩:=Zn r.2.length;rw[<-cS] at a6 eB⊢;have i6:n5<=250:=cS▸g6;have C5:=dP.cC a6;obtain⟨i7,ib,bH,fq,cT,eC,hC,hD,i9⟩:=QG S4 eA bp cQ eB cS C5 a6 b4;clear S4 eA bp cQ eB cS C5 a6 b4;go_wp2_with fail;have eD:=O2 (.string (str P.code)) (.slice C.ma P.E.length C.mc) (Iz P.tick) (Iz P.low) (Iz P.high) (Iz P.wide) (.slice C.sa P.settle.length C.sc) P.rule P.top P.least P.part A5 n5 c5 L5 q w4 cT (by rw[cT.h];omega) (by rw[cT.h];omega) hC;have eE:kg P.rule P.top P.least P.part L5 q=ks:=by rw[gR.h,fq.h,cH.h,EP.h];rfl
 rw[eE] at eD;have j0:=ao eE;clear eE;refine eD.mono ?_;clear eD;rintro e w5⟨A6,c6,rfl,d8,C6,_,_,b5⟩;obtain⟨G0,cX⟩:=Zn (fun k=>G k/\k<w.heap.size:Nat->Prop);obtain⟨R0,eF⟩:=Zn (fun k=>R k/\k<w.heap.size:Nat->Prop);have eG:Bz w w5:=dW (dW d7 bH) b5;have d9:=d7.h.size;have ea:=bH.h.size;have eb:=b5.size;have fx:w.heap.size<=w3.heap.size:=jE fi.h.size fk.h.size;have S5:dR w5 G0 R0 s P S:=by
  have h1:dR w G0 R0 s P S:=⟨C,HS,fun k O=>cX▸⟨gv k O,HS.Pt k O⟩,fun y k O=>cX▸⟨gx y k O,HS.NG y k O⟩,fun k O=>eF▸⟨hR k O,HS.Ps k O⟩⟩;exact h1.below eG
 have O5:w5.ownsRow w3.heap.size 81 5 (.slice A5 n5 c5) n5 (flat L5):=bP hD b5;have fz:aE w5 g4 175 #[Iz (x:Int),Iz sd]:=(ew.below bH).below b5;obtain⟨hE,bQ,eI,ed,bR,eJ,fH,j1,eK⟩:=QG S5 O5 d8 fz eG cX eF b5 (And.intro d9 (And.intro ea (And.intro eb fx)));clear S5 O5 d8 fz eG cX eF b5 k0 k1 k2 k3 k4 k5 k6 k7 k8 k9 ho ht hy C6 d9 ea eb fx;have bU:w.heap.size<=g4/\g4<w5.heap.size:=⟨g9.h▸af _,ed.lt⟩;have eL:=ao bU;clear bU;obtain⟨nk,c0⟩:=Zn ks.length;have fT:nk=n5:=c0▸eC.h▸gI;rw[<-c0];obtain⟨f0,dc⟩:=dF c0 fT;have ih:nk<=250:=ae;clear c0 fT;go_wp2_with fail
 go_loopw [11,44] (fun v i wr=> ∃m:Nat,m<=nk/\i= Iz (m:Int)/\Hid (∃Gm,Y2 w w5 wr G0 Gm R0 s P S x k M r.2 ks p m v)) (fun _ i _=>nk - (intOf i).toNat)
 case atStart=>
  refine⟨0,aB _,rfl,ao ⟨G0,aM _ _ _ _,?_,Lv.refl _ _,fun j I=> .inl I,fun g hg=>by simp[Value.ownBlock] at hg⟩⟩;have h0:ja M (r.2.take 0) (ks.take 0)=M:=by simp[ja]
  rw[h0,Cs HM.h];exact hE
 case round=>
  obtain⟨m,hm,rfl,HT⟩:=hrel;obtain⟨Gm,J,bt,bb,bc,ax⟩:=HT.h;have ay:∀j,G0 j->j<w.heap.size:=fun j I=>by rw[eJ.h] at I;exact I.2
  have a2:∀j,w.heap.size<=j->¬G0 j:=fun j I h=>cA (ay j h);have dp:wr.ownsRow w3.heap.size 81 5 (.slice A5 n5 c5) n5 (flat L5):=aX bQ fun g hg=>bb.block g (bQ.lt g hg).2 (a2 g (jE ((bQ.lt g hg).1) eK.h.2.2.2));have dS:wr.ownsRow w4.heap.size 2 1 (.slice A6 ks.length c6) ks.length (bZ ks):=aX eI fun g hg=>bb.block g (eI.lt g hg).2 (a2 g (QF ((eI.lt g hg).1) eK.h.1 eK.h.2.1));have eM:aE wr g4 175 #[Iz (x:Int),Iz sd]:=ed.lv bb (a2 g4 eL.1);obtain⟨Av,cv,rfl,_⟩:=gD J
  by_cases bV:m<nk
  ·obtain⟨b6,o6,cc,rfl,hG,hH,hI⟩:=(Cells.cC dS).jK (k:=m) (f0.h▸bV)
   obtain⟨b7,o7,od,rfl,hJ,e0,e1,e2,e3,e4,hL⟩:=(dP.cC dp).KA (k:=m) (cT.h▸dc.h▸bV);obtain⟨e,he⟩:∃e,r.2[m]?=some e:=⟨_,aj (jE eC.h dc.h)⟩;have hN:od=kB sd p e:=by
    have h1:=hL.h;rw[fq.h,bo,he] at h1;injection h1 with h1;exact h1.symm
   subst hN;have hO:=gP.h m e he;obtain⟨c',dT,f1,f2⟩:=hO;have f3:c'=cc:=by have:=hI.h;rw[dT] at this;injection this
   subst f3;have i1:(m:Int)<nk:=ae;have i2:(m:Int)<n5:=cA dc.h;have hf:=zq (x:=x) (k:=k) (p:=p) he dT;have a4:=Ct (M:=M) he dT;obtain⟨fl,a7⟩:=Zn (dC x k p (r.2.take m) (ks.take m));obtain⟨Mm,eO⟩:=Zn (ja M (r.2.take m) (ks.take m));rw[<-a7] at J hf ax⊢;rw[<-eO] at bt a4;have j2:fl.length<=250:=by rw[a7];refine aF (sK _ _) (aF (nA _ _) ae)
   obtain⟨b0,d2,b3,a0,a8,f4,HE,HF,f5,d3,eP,j3,hP,il,bf,iF,i3⟩:=YC J bt bb bc ax eM he hf a4 bV (And.intro f1 f2) a7 eO a2 ay dp dS;clear J bt bb bc ax eM he hf a4 bV f1 f2 a7 eO a2 ay dp dS dT HT hm;simp only[kB] at e0 e1 e2 e3 e4
   by_cases bh:0<c'
   ·have ef:=ao bh
    obtain⟨r',eQ,f6⟩:=wQ (cs:=ks.take m) fa (aH HE) (xY g3 HE);rw[<-hP.h] at eQ;obtain⟨hQ,hT⟩:=dF eQ f6;clear eQ f6;go_wp2_with fail;obtain⟨wq,b9⟩:=Zn (wr.alloc (.cells #[Iz e.id,Iz sd,Iz p,Iz e.aw, .bool e.top] 81));obtain⟨gO,d4⟩:=Zn wr.heap.size;have DO:=Zq b9 d4;have BQ:=Zw b9;have f7:wq.heap.size=wr.heap.size+1:=by rw[b9];simp
    rw[<-b9,<-d4];have eg:w5.heap.size<=wr.heap.size:=b3.size;have f8:w.heap.size<=w5.heap.size:=bR.size;have eR:∀j,wr.heap.size<=j->¬Gm j:=fun j I h=>by
     rcases a0 j h with h1|h1
     ·have:=bf.h j h1;omega
     ·omega
    have f9:¬Gm g4:=fun h=>by
     rcases a0 g4 h with h1|h1
     ·have:=bf.h g4 h1;have:=eL.h.1;omega
     ·have:=eL.h.2;omega
    clear b9 e0 e1 e2 e3 e4 hH i2 hG hJ;have hU:=ao d4;clear d4;refine(vp s P (S.set x Mm) Gm R0 x k Mm r' e e.id c' wq (d2.below BQ) (aD hlen) hQ hT rfl O ⟨cA ef.h,eP.2⟩).mono ?_;rintro en wT⟨rfl,ei,a3⟩;have d5:aE wT gO 81 #[Iz e.id,Iz sd,Iz p,Iz e.aw, .bool e.top]:=DO.lv a3 (eR gO (hU.h▸af _));have eS:aE wT g4 175 #[Iz (x:Int),Iz sd]:=(f4.below BQ).lv a3 f9;have a5:∀g,(Value.slice Av fl.length cv).ownBlock=some g->w5.heap.size<=g/\g<wr.heap.size:=fun g hg=>b0.lt g hg;have OT:wT.ownsRow w5.heap.size 240 6 (.slice Av fl.length cv) fl.length (gW fl):=aX (bP b0 BQ) fun g hg=>a3.block g (cA (a5 g hg)) (a8 g hg);have o0:=d5.cell 0;have o2:=d5.cell 2;have o3:=d5.cell 3;have l0:=eS.cell 0;have l1:=eS.cell 1;have ej:wq.heap.size<=wT.heap.size:=a3.size;have j4:1<=c':=cA ef.h;have j5:=eP.h.2;have j6:=(g7 e (aH HE)).2.1;obtain⟨gb,gi,hV,cd,i4,hW,gj,ek⟩:=Dw ei a3 OT a5 eR BQ f7 (And.intro eg (And.intro f8 ej));clear DO BQ f7 eg f8 eR f9 ei a3 d5 eS a5 OT ej
    go_wp2_with (at_builtin
                 refine dO LM hV #[Iz e.id,Iz (x:Int),Iz sd,Iz p,Iz c',Iz (e.aw - c')] rfl _ _ rfl rfl rfl rfl (by intro u hu;simp at hu;rcases hu with rfl|rfl|rfl|rfl|rfl|rfl<;>rfl) ae (jE ek.h gj.h) ?_;intro A8 c8 w8 el g8 b8 l8)
    obtain⟨hX,eT,hY⟩:=fY el g8 l8;clear el g8 b8 l8;go_roundw
    case rel=>
     have hf:=HF.h;have a4:=f5.h;rw[if_pos bh] at hf a4;have eU:(fl++[(⟨e.id,x,k,p,c',e.aw - c'⟩:fG)]).length=fl.length+1:=bT;have d6:(⟨e.id,x,k,p,c',e.aw - c'⟩:fG).cells=[Iz e.id,Iz (x:Int),Iz sd,Iz p,Iz c',Iz (e.aw - c')]:=by unfold fG.cells;rw[cH.h]
     obtain⟨z1,z2,z3⟩:=ek.h;have z4:=gj.h;have z5:wT.heap.size<=w8.heap.size:=eT.size;have cf:∀j,grow Gm wq wT j->G0 j\/(w5.heap.size<=j/\j<wT.heap.size):=fun j I=>by
      rcases I with I|⟨h1,h2⟩
      ·rcases a0 j I with h3|⟨h3,h4⟩
       ·exact .inl h3
       ·exact .inr ⟨h3,ae⟩
      ·exact .inr ⟨ae,h2⟩
     have ck:∀j,grow Gm wq wT j->(Value.slice Av fl.length cv).ownBlock≠some j:=fun j I he=>by
      have h5:=cd.h j he;rcases I with I|⟨h1,h2⟩
      ·exact a8 j he I
      ·omega
     refine⟨m+1,cA d3.h,by go_num,ao ⟨grow Gm wq wT,?_,?_,?_,fun j I=>?_,fun g hg=>?_⟩⟩
     ·rw[hf,eU,Jq,d6]
      exact hX
     ·rw[a4]
      have h1:=gb.h;rw[nS (aD hlen),List.set_set] at h1;refine h1.same (fun j I ba=>eT.block j I fun he=>?_) z5;rcases ba with ba|ba
      ·exact ck j ba he.symm
      ·rw[fH.h] at ba
       have:=cd.h j he.symm;omega
     ·refine((b3.then (Lv.bL hW)).trans gi fun j I=>?_).trans (Lv.dy (F:=fun j=>(Value.slice Av fl.length cv).ownBlock=some j) eT fun j I=> .inl I) fun j I=>?_
      ·rcases a0 j I with h3|⟨h3,h4⟩
       ·exact .inl h3
       ·exact .inr h3
      ·exact .inr (cd j I).1
     ·rcases cf j I with h3|⟨h3,h4⟩
      ·exact .inl h3
      ·exact .inr ⟨h3,ae⟩
     ·intro ba
      rcases hY with h3|h3
      ·exact ck g ba (h3▸hg)
      ·have h6:(Value.slice A8 (fl.length+1) c8).ownBlock=some g:=hg
       rw[h3] at h6;injection h6 with h6;rcases cf g ba with h7|⟨h7,h8⟩
       ·have:=bf.h g h7;omega
       ·omega
    case measure=>have:=d3.h;simp[intOf];omega
   ·have hz:c'=0:=cA eP.h.1
    go_wp2_with fail;go_roundw
    case rel=>
     refine⟨m+1,cA d3.h,by go_num,ao ⟨Gm,?_⟩⟩;have hf:=HF.h;have a4:=f5.h;rw[if_neg bh,fe] at hf;rw[if_neg bh] at a4;unfold Y2;rw[hf,a4];exact⟨b0,d2,b3,a0,a8⟩
    case measure=>have:=d3.h;simp[intOf];omega
  ·obtain rfl:m=nk:=ae
   have eV:r.2.take m=r.2:=aL (jE dc.h eC.h);have eW:ks.take m=ks:=aL (cA f0.h);rw[eV,eW] at J bt ax;rw[eV,eW];obtain⟨fl,a7⟩:=Zn (dC x k p r.2 ks);have gm:dC x k r.1 r.2 ks=fl:=by rw[a7,<-EP.h]
   rw[<-a7] at J ax⊢;obtain⟨b0,d2,b3,a0,a8,gp,bf⟩:=yY J bt bb bc ax gm ay;clear J bt bb bc ax HT dp dS eM eV eW a7 gm hm bV a2 ay;go_wp2_with fail;go_ret;have h9:w.heap.size<=w5.heap.size:=bR.size;refine⟨Av,cv,Gm,by rw[gp.h];rfl,?_⟩;rw[gp.h];refine⟨ch b0 h9,d2.mono (fun j I _=>I) fun j I=>by rw[fH.h] at I;exact I.1,(Lv.iD bR b3).mono fun j I=> .inl (by rw[eJ.h] at I;exact I.1),fun j I=>?_,a8⟩;rcases a0 j I with h1|⟨h1,h2⟩
   ·rw[eJ.h] at h1
    exact .inl h1.1
   ·exact .inr ⟨ae,h2⟩
theorem wV (s:Int) (w:World) (h:1<=s/\s<=2):Wz 103 #[Iz s] w fun e w'=>e= .returned (Iz (3 - s))/\w=w':=by
 go_enter Tryz.func103,Tryz.ntmps103
 go_wp2;go_ret;exact⟨rfl,rfl⟩
theorem Fk (s p x:Int) (k:Nat) (w:World) (I:k<2) (hs:s=(k:Int)+1):Wz 104 #[Iz s,Iz p,Iz x] w fun e w'=>e= .returned (.bool (lp k p x))/\w=w':=by
 obtain⟨B,D⟩:=Zn (lp k p x);rw[<-D];rcases mI I with rfl|rfl
 ·obtain rfl:s=1:=ae
  have e:B=decide (x<=p):=by rw[D];simp[lp]
  subst e;clear D hs
  by_cases h:x<=p
  ·have hd:decide (x<=p)=true:=by simpa using h
   go_enter Tryz.func104,Tryz.ntmps104
   go_wp2;go_ret;exact⟨by simp[h],rfl⟩
  ·have hd:decide (x<=p)=false:=by simpa using h
   go_enter Tryz.func104,Tryz.ntmps104
   go_wp2;go_ret;exact⟨by simp[h],rfl⟩
 ·obtain rfl:s=2:=ae
  have e:B=decide (p<=x):=by rw[D];simp[lp]
  subst e;clear D hs
  go_enter Tryz.func104,Tryz.ntmps104
  go_wp2;go_ret;exact⟨rfl,rfl⟩
theorem Ag (s:Nat) (P:PD) (S:Sm) (G R:Nat->Prop) (x:Nat) (w:World) (h:dR w G R s P S) (hx:x<P.count):Wz 98 #[Pz s,Iz (x:Int)] w fun e w'=>e= .returned (.bool true)/\w=w':=by
 obtain⟨C,hS,_⟩:=h;have I:Cz w s 11 (.slice C.A C.bs.length C.c):=hS.D.cell 11;obtain⟨N,J⟩:=Zn C.bs.length;rw[<-J] at I;have i1:(x:Int)<N:=by rw[J,hS.bn];omega
 clear hS J hx
 go_enter Tryz.func98,Tryz.ntmps98
 go_wp2;go_ret;exact⟨bT,rfl⟩
theorem Fl (s:Nat) (P:PD) (S:Sm) (G R:Nat->Prop) (x:Nat) (sd q:Int) (w:World) (h:dR w G R s P S) (hx:x<P.count) (hs:1<=sd/\sd<=2) (hq:1<=q/\q<=1000000):Wz 63 #[Pz s,Iz (x:Int),Iz sd,Iz q] w fun e w'=>e= .returned (.bool true)/\w=w':=by
 obtain⟨q1,q2⟩:=hq;obtain rfl|rfl:sd=1\/sd=2:=ae
 ·go_enter Tryz.func63,Tryz.ntmps63
  go_wp2_with fail;refine(Ag s P S G R x w h hx).mono ?_;rintro e u⟨rfl,rfl⟩;go_wp2_with fail;go_ret;exact⟨bT,rfl⟩
 ·go_enter Tryz.func63,Tryz.ntmps63
  go_wp2_with fail;refine(Ag s P S G R x w h hx).mono ?_;rintro e u⟨rfl,rfl⟩;go_wp2_with fail;go_ret;exact⟨bT,rfl⟩
theorem LN (s:Nat) (P:PD) (S:Sm) (G R:Nat->Prop) (w:World) (h:dR w G R s P S):Wz 55 #[Pz s] w fun e w'=>e= .returned (Iz (cK S:Int))/\w=w':=by
 obtain⟨C,hS,_⟩:=h;have I:Cz w s 12 (.map (some C.mb)):=hS.D.cell 12;have hlen:=hS.mp.len Tryz.underlying107 3;clear hS
 go_enter Tryz.func55,Tryz.ntmps55
 go_wp2;go_ret;exact⟨rfl,rfl⟩
theorem Sn (s:Nat) (P:PD) (S:Sm) (G R:Nat->Prop) (x k:Nat) (M:BM) (sd id p aw:Int) (w:World) (h:dR w G R s P S) (hM:S[x]?=some M) (J:k<2) (bE:sd=(k:Int)+1) (a4:dZ id) (a5:∀(y:Nat) (N:BM),S[y]?=some N->∀e∈N.I,e.id≠id) (a6:cK S<250) (hp:P.fy x p=0) (hq:1<=aw/\aw<=1000000):
  Wz 109 #[Pz s,Iz (x:Int),Iz id,Iz sd,Iz p,Iz aw] w fun e w'=>e= .returned (Iz 0)/\dR w' (grow G w w') R s P (oW S x k id p aw)/\Lv G w w':=by
 have bH:=h;obtain⟨C,hS,bQ,a7,hR⟩:=h;have hlen:=(az.1 hM).1;have kx:x<P.count:=by rw[<-hS.sn];exact hlen
 obtain⟨b,M',hb,ay,hB⟩:=hS.book kx;rw[hM] at ay;injection ay with ay;subst ay;obtain⟨gA,hA,b9⟩:=mB hS.ob hb;have hf:C.f id=none:=by
  cases hf:C.f id with
  |none=>rfl
  |some v=>
   obtain⟨y,N,e,h1,h2,h3,_⟩:=hS.bw id v hf;exact absurd h3 (a5 y N h1 e h2)
 have a8:=pU hS.mp a4;rw[hf] at a8;simp only[Option.getD_none,tC] at a8;have bR:=hS.mp.len Tryz.underlying107 3;obtain⟨cS,ba⟩:=Zn (cK S:Nat);rw[<-ba] at bR a6;have cX:(cS:Int)<250:=ae;obtain⟨k0,k1,k2,k3,k4,k5,k6,k7,k8,k9,cd,cf,ck⟩:=hS.gX;obtain⟨HS,HB,HM,cl,HF,HA,bU,bV,bb,HP,cm,b0,b2,HQ,bc⟩:=V8 hS hB hM bH hf hA hb a4 a5 hp bE ba a6 hq kx;clear hS hB hM bH hf hA hb a4 a5 hp bE ba hq a6
 go_enter Tryz.func109,Tryz.ntmps109
 go_wp2_with fail;refine(Ag s P S G R x w cl.h bc.h).mono ?_;rintro e u⟨rfl,rfl⟩;go_wp2_with fail;refine(pQ P C.ma C.mc C.sa C.sc (x:Int) p w HS.h.pd).mono ?_;rintro e w1⟨rfl,b1⟩;rw[Jm P bc.h,HP.h];have S1:qj w1 s P S C:=HS.h.same (fun k J=>b1.block k (HS.h.Pt k J)) (fun y k J=>b1.block k (HS.h.NG y k J)) (fun k J=>b1.block k (HS.h.Ps k J)) b1.size;obtain⟨j0,j1,j2,j3,j4,j5,j6,j7,j8,j9,cn,bf,ct⟩:=S1.gX;obtain⟨dS,a0,b3⟩:=mB S1.ob bU.h;have ax:=HA.h;rw[a0] at ax;injection ax with ax;injection ax with ax _;subst ax;rw[a0] at bf;obtain⟨N,eN⟩:=Zn C.bs.length;rw[<-eN] at bf;have dT:(x:Int)<N:=by rw[eN,S1.bn];have:=bc.h;omega
 obtain⟨bh,bp,d2,EN⟩:=mh S1 b1 a0 eN;clear k0 k1 k2 k3 k4 k5 k6 k7 k8 k9 cd cf ck j0 j1 j2 j3 j4 j5 j6 j7 j8 j9 cn b9 a8 bR S1 b1 a0 eN;go_wp2_with fail;refine(R8 b M (C.Fs x) k sd id p aw w1 (HB.h.below bp.h) J cm.h bV.h (fun e he=>bb.h x M HM.h e he) (QF (Pu HM.h) b2.h b0.h) HQ.h).mono ?_;rintro e w2⟨rfl,b4,L2⟩;have off:=fun k (J:C.QH s k) (hF:C.Fs x k)=>(bh.h.off x k hF).1 J;have a3:=bh.h.D.lv L2 (off s (.inl rfl));have d3:Cz w2 s 12 (.map (some C.mb)):=a3.cell 12;have b5:=bh.h.mp.lv L2 (off _ (.inr (.inl rfl)));obtain⟨w3,c0,a2,b6⟩:=b5.put Tryz.underlying107 bV.h (Iz (x:Int)) (cA HS.h.cnt);rw[HF.h] at a2;simp only[tC] at a2;obtain⟨cv,cF,cH,bt⟩:=mh b4 L2 a2 b6;clear bf ct b3 a3 b5 b4 L2 a2 b6;go_wp2_with fail;go_ret;have cs:=lB HM.h (M.add k id p aw);have al:=Uv M k id p aw;have b7:cK (S.set x (M.add k id p aw))=cK S+1:=ae;have hm:=cH.h;rw[if_neg bT,<-b7] at hm;have L3:Lv (fun k=>C.Fs x k\/k=C.mb) w w3:=((Lv.iD bp.h cF.h).mono (G:=fun k=>C.Fs x k\/k=C.mb) fun k J=> .inl (.inl J)).then (Lv.dy bt.h fun k J=> .inl (.inr (by injection J with J;exact J.symm)));have b8:∀k,C.Fs x k->k≠C.mb:=fun k J e=>(HS.h.off x k J).1 (.inr (.inl e));have dc:w.heap.size<=w1.heap.size:=bp.h.size;have dp:w2.heap.size<=w3.heap.size:=bt.h.size;have B3:cz w3 (grow (C.Fs x) w w3) b (M.add k id p aw):=by
  have h4:cz w3 (grow (C.Fs x) w1 w2) b (M.add k id p aw):=cv.h.same fun j hj hF=>bt.h.block j hj fun e=>by
   injection e with e;rcases hF with hF|⟨h5,_⟩
   ·exact b8 j hF e
   ·have:=HS.h.Pt C.mb (.inr (.inl rfl));omega
  refine h4.mono fun j hj _=>?_;rcases hj with hj|⟨h5,h6⟩
  ·exact .inl hj
  ·exact .inr ⟨ae,ae⟩
 have cQ:=HS.h.change (w':=w3) bU.h HM.h L3 B3 hm
  (fun y N' e0 h1 h2=>by
   rcases nX h1 with⟨rfl,rfl⟩|⟨d4,h1⟩
   ·rcases Co h2 with⟨h3,_⟩|⟨e1,h3,h4,_⟩
    ·rw[if_pos h3]
    ·rw[<-h4,if_neg (bb.h y M HM.h e1 h3)]
     exact HS.h.fw y M e1 HM.h h3
   ·rw[if_neg (bb.h y N' h1 e0 h2)]
    exact HS.h.fw y N' e0 h1 h2)
  (fun i v hv=>by
   by_cases hi:i=id
   ·rw[if_pos hi] at hv
    injection hv with hv;obtain⟨e1,h3,h4⟩:=(Sb M k id p aw).1;exact⟨x,_,e1,aD hlen,h3,h4.trans hi.symm,hv.symm⟩
   ·rw[if_neg hi] at hv
    obtain⟨y,N',e0,h1,h2,h3,h4⟩:=HS.h.bw i v hv
    by_cases hy:y=x
    ·subst hy
     rw[HM.h] at h1;injection h1 with h1;subst h1;obtain⟨e1,h5,h6⟩:=(Sb M k id p aw).2 e0 h2;exact⟨y,_,e1,aD hlen,h5,h6.trans h3,h4⟩
    ·exact⟨y,N',e0,by rw[aZ (fun e=>hy e.symm)];exact h1,h2,h3,h4⟩)
  (fun kk rr cT=>by
   rcases Sc cT with h1|⟨r0,h1,h2⟩
   ·rw[h1];exact HP.h
   ·rw[<-h2]
    exact HS.h.pr x kk M r0 HM.h h1)
  (by rw[b7];have:=b2.h;have:=b0.h;omega)
 rw[LG HM.h];refine⟨rfl,⟨_,cQ,fun k J=> .inl (bQ k J),fun y j hj=>?_,hR⟩,L3.mono fun k J=> .inl ?_⟩
 ·have O:rF C x w w3 y j:=hj
  unfold rF at O
  split at O
  ·rcases O with O|O
   ·exact .inl (a7 x j O)
   ·exact .inr O
  ·exact .inl (a7 y j O)
 ·rcases J with J|rfl
  ·exact a7 x k J
  ·exact bQ _ (.inr (.inl rfl))
theorem LO (s:Nat) (P:PD) (S:Sm) (G R:Nat->Prop) (id:Int) (w:World) (h:dR w G R s P S) (ay:dZ id) (a0:∀(y:Nat) (N:BM),S[y]?=some N->∀e∈N.I,e.id≠id):
  Wz 40 #[Pz s,Iz id] w fun e w'=>e= .returned (.tuple #[Iz 0, .agg #[Iz 0,Iz 0,Iz 0,Iz 0, .bool false], .bool false])/\Bz w w':=by
 obtain⟨C,hS,a7,a8,hR⟩:=h;have hf:C.f id=none:=by
  cases hf:C.f id with
  |none=>rfl
  |some v=>
   obtain⟨y,N,e,h1,h2,h3,_⟩:=hS.bw id v hf;exact absurd h3 (a0 y N h1 e h2)
 obtain⟨wz,O⟩:=Zn (w.alloc (.cells #[Iz 0,Iz 0,Iz 0,Iz 0, .bool false] 81));obtain⟨g5,ax⟩:=Zn w.heap.size;have D5:=Zq O ax;have BZ:=Zw O;have a2:=pU (hS.mp.below BZ) ay;rw[hf] at a2;simp only[Option.getD_none,tC] at a2;have ba:Cz wz s 12 (.map (some C.mb)):=(hS.D.below BZ).cell 12;have a3:w.heap.size<=g5:=ae;obtain⟨J,a5,a6⟩:=fY D5 BZ a3;clear hS hf D5 BZ a3 a0 ay
 go_enter Tryz.func40,Tryz.ntmps40
 go_upto_region 1 with(fail)
 rw[<-O,<-ax];clear O ax;have z0:=J.h.cell 0;have z1:=J.h.cell 1;have z2:=J.h.cell 2;have z3:=J.h.cell 3;have z4:=J.h.cell 4;have y0:=J.h.frozen 0;have y1:=J.h.frozen 1;have y2:=J.h.frozen 2;have y3:=J.h.frozen 3;have y4:=J.h.frozen 4;have hw:=bO (us:=[Iz 0,Iz 0,Iz 0,Iz 0, .bool false]) J rfl;have hb:=bA (us:=[Iz 0,Iz 0,Iz 0,Iz 0, .bool false]) (i:=0) a6 a5;simp only[fW] at hw hb;obtain⟨HW,HB⟩:=dF hw hb;clear hw hb;go_wp2_with fail
 (try simp only[Exit.inBlock,Exit.then])
 obtain⟨wf,a4⟩:=Zn (((((wz.setCell ⟨g5,0,none⟩ (Iz 0)).setCell ⟨g5,0+1,none⟩ (Iz 0)).setCell ⟨g5,0+1+1,none⟩ (Iz 0)).setCell ⟨g5,0+1+1+1,none⟩ (Iz 0)).setCell ⟨g5,0+1+1+1+1,none⟩ (.bool false));have hw:=HW.h;have hb:=HB.h;rw[<-a4] at hw hb;refine iv a4 ?_;have r0:=hw.cell 0;have r1:=hw.cell 1;have r2:=hw.cell 2;have r3:=hw.cell 3;have r4:=hw.cell 4;clear z0 z1 z2 z3 z4 y0 y1 y2 y3 y4;refine bodyPost_ret (v:= .tuple #[Iz 0, .agg #[Iz 0,Iz 0,Iz 0,Iz 0, .bool false], .bool false]) (by simp[results,Tryz.results40,go_sem,r0,r1,r2,r3,r4];try rfl) rfl ?_;exact⟨rfl,hb⟩
theorem LP (s:Nat) (P:PD) (S:Sm) (G R:Nat->Prop) (x k:Nat) (M:BM) (r:iQ) (e:dn) (id:Int) (w:World) (h:dR w G R s P S) (hM:S[x]?=some M) (hr:r∈M.side k) (he:e∈r.2) (a5:e.id=id) (hk:k<2):
  Wz 40 #[Pz s,Iz id] w fun en w'=>en= .returned (.tuple #[Iz (x:Int), .agg #[Iz id,Iz ((k:Int)+1),Iz r.1,Iz e.aw, .bool e.top], .bool true])/\Bz w w':=by
 obtain⟨C,hS,bV,b0,hR⟩:=h;obtain⟨kf,ki,b3,b4,kx⟩:=hS.known hM hr he;rw[a5] at kf ki;obtain⟨b,M',hb,ay,hB⟩:=hS.book kx;rw[hM] at ay;injection ay with ay;subst ay;obtain⟨gA,hA,hp⟩:=mB hS.ob hb;obtain⟨wz,a0⟩:=Zn (w.alloc (.cells #[Iz 0,Iz 0,Iz 0,Iz 0, .bool false] 81));obtain⟨g5,a2⟩:=Zn w.heap.size;have D5:=Zq a0 a2;have BZ:=Zw a0;have a6:=pU (hS.mp.below BZ) ki;rw[kf] at a6;simp only[qo,oG] at a6;have O:=hS.D.below BZ;have a8:Cz wz s 11 (.slice (some ⟨gA,0,none⟩) C.bs.length C.c):=hA▸O.cell 11;have bp:Cz wz s 12 (.map (some C.mb)):=O.cell 12;have ba:gA<w.heap.size:=(hS.ob.lt gA (by rw[hA];rfl)).2;have bt:Cz wz gA x (Pz b):=Yb BZ ba hp;obtain⟨N,eN⟩:=Zn C.bs.length;rw[<-eN] at a8;have b5:(x:Int)<N:=by rw[eN,hS.bn];omega
 have bb:w.heap.size<=g5:=ae;obtain⟨bc,bE,bH,HB,HR,HE,bQ⟩:=yY D5 BZ bb (hB.below BZ) hr he a5;clear hS hb hM hr he ki kf hA eN kx D5 BZ bb hB a5 O ba hp
 go_enter Tryz.func40,Tryz.ntmps40
 go_upto_region 1 with(fail)
 rw[<-a0,<-a2];clear a0;have b6:=ao a2;clear a2;go_wp2_with fail;refine(yH b M (C.Fs x) k ((k:Int)+1) r e id wz HB.h hk rfl HR.h HE.h bQ.h).mono ?_;rintro en w2⟨rfl,b2⟩;obtain⟨w3,a3⟩:=Zn (w2.alloc (.cells #[Iz id,Iz ((k:Int)+1),Iz r.1,Iz e.aw, .bool e.top] 81));obtain⟨g9,a7⟩:=Zn w2.heap.size;have D9:=Zq a3 a7;have B3:Bz wz w3:=a3▸au b2 _;have bf:=bc.h.below B3;have bR:Hid (g9≠g5):=ao (by have h1:=bc.h.lt;have h2:=b2.size;omega);obtain⟨ax,bU,I⟩:=fY D9 B3 bf;clear b2 D9 B3 bf a8 bp bt a6
 go_upto_region 5 with(fail)
 rw[<-a3,<-a7];clear a3 a7;obtain⟨Fs,a4⟩:=Zn (fun j=>j=g9:Nat->Prop);have m9:Fs g9:=by rw[a4]
 have n9:∀j,Fs j->j≠g5:=fun j hj e=>by
  rw[a4] at hj;exact bR.h (hj.symm.trans e)
 have d0:∀u,aI Fs w3.drew u->Cz u g9 0 (Iz id):=fun u hu=>(hu.cell m9).trans (ax.h.cell 0);have d1:∀u,aI Fs w3.drew u->Cz u g9 1 (Iz ((k:Int)+1)):=fun u hu=>(hu.cell m9).trans (ax.h.cell 1);have d2:∀u,aI Fs w3.drew u->Cz u g9 2 (Iz r.1):=fun u hu=>(hu.cell m9).trans (ax.h.cell 2);have d3:∀u,aI Fs w3.drew u->Cz u g9 3 (Iz e.aw):=fun u hu=>(hu.cell m9).trans (ax.h.cell 3);have d4:∀u,aI Fs w3.drew u->Cz u g9 4 (.bool e.top):=fun u hu=>(hu.cell m9).trans (ax.h.cell 4);have z0:=I.h.cell 0;have z1:=I.h.cell 1;have z2:=I.h.cell 2;have z3:=I.h.cell 3;have z4:=I.h.cell 4;have y0:=I.h.frozen 0;have y1:=I.h.frozen 1;have y2:=I.h.frozen 2;have y3:=I.h.frozen 3;have y4:=I.h.frozen 4;have hw:=bO (us:=[Iz id,Iz ((k:Int)+1),Iz r.1,Iz e.aw, .bool e.top]) I.h rfl;have hb:=bA (us:=[Iz id,Iz ((k:Int)+1),Iz r.1,Iz e.aw, .bool e.top]) (i:=0) bH.h (dW bE.h bU.h);have hh:aI Fs w3.drew (fW w3 g5 0 [Iz id,Iz ((k:Int)+1),Iz r.1,Iz e.aw, .bool e.top]).drew:=fun j hj=>mJ (n9 j hj);simp only[fW] at hw hb hh;obtain⟨HW,HB,HH,b7⟩:=mh hw hb hh a4;clear hw hb hh m9 n9 a4;refine bx (R:=aI Fs) 99999 [3] [0,1,2,3,4] (by kernel_rfl) (aI.tr _) (aI.J _) (by kernel_rfl) (fun _ _ _ _ _ h=>h) ?_;refine Yt ?_;clear d0 d1 d2 d3 d4;refine Ym fun K hK=>?_;refine Yo hK (HH.h) ?_;refine Yt ?_;refine aT ?_;clear z0 z1 z2 z3 z4 y0 y1 y2 y3 y4;go_wp2_with fail
 (try simp only[Exit.inBlock,Exit.then])
 obtain⟨wf,bh⟩:=Zn ((((((w3.setCell ⟨g5,0,none⟩ (Iz id)).setCell ⟨g5,0+1,none⟩ (Iz ((k:Int)+1))).setCell ⟨g5,0+1+1,none⟩ (Iz r.1)).setCell ⟨g5,0+1+1+1,none⟩ (Iz e.aw)).setCell ⟨g5,0+1+1+1+1,none⟩ (.bool e.top)).drew);have hw:=HW.h.drew;have hb:=HB.h.drew;rw[<-bh] at hw hb;refine iv bh ?_;have r0:=hw.cell 0;have r1:=hw.cell 1;have r2:=hw.cell 2;have r3:=hw.cell 3;have r4:=hw.cell 4;refine bodyPost_ret (v:= .tuple #[Iz (x:Int), .agg #[Iz id,Iz ((k:Int)+1),Iz r.1,Iz e.aw, .bool e.top], .bool true]) (by simp[results,Tryz.results40,go_sem,r0,r1,r2,r3,r4];try rfl) rfl ?_;exact⟨rfl,hb⟩
theorem rH (N:Nat) (tp:kJ) (i:Nat):(lC N tp)[i]?=if i<N*6 then (qQ tp (i / 6))[i % 6]? else none:=by
 split
 ·rename_i h
  have:=ig (uC tp) (l:=List.range N) (i:=i / 6) (x:=i / 6) (i % 6) (oF _ ae) (rS ae);rw[(ae:i / 6*6+i % 6=i)] at this;exact this
 ·rw[cO]
  rw[ph];omega
theorem CE (h:∀k,k<2->tp x k=tp' x k):qQ tp x=qQ tp' x:=by
 unfold qQ wS wU;rw[h 0 ae,h 1 ae]
theorem zr (h:∀x k,x<N->k<2->tp x k=tp' x k):lC N tp=lC N tp':=by
 apply fA;intro i;rw[rH,rH]
 split
 ·rw[CE fun k D=>h (i / 6) k ae D]
 ·rfl
def uE (tp:kJ) (x k:Nat) (p q:Int):kJ:=fun y m=>if y=x∧m=k then some (p,q) else tp y m
theorem PF (hx:x<N) (O:k<2) (p q:Int):
  (((lC N tp).set (x*6+k) (.bool true)).set (x*6+(2+k)) (Iz p)).set (x*6+(4+k)) (Iz q)=lC N (uE tp x k p q):=by
 apply fA;intro i;rw[rH];simp only[List.getElem?_set,jn,ph,rH]
 by_cases hi:i<N*6
 ·by_cases J:i / 6=x
  ·obtain⟨b,hb⟩:=Zn (i % 6)
   have I:i=x*6+b:=ae;have D:b<6:=ae;subst I;have e1:(x*6+b) / 6=x:=ae;have e2:(x*6+b) % 6=b:=ae;rw[e1,e2];obtain rfl|rfl:k=0\/k=1:=ae
   ·match b,D with
    |0,_=>simp[hi,qQ,wS,wU,uE]
    |1,_=>simp[hi,qQ,wS,wU,uE]
    |2,_=>simp[hi,qQ,wS,wU,uE]
    |3,_=>simp[hi,qQ,wS,wU,uE]
    |4,_=>simp[hi,qQ,wS,wU,uE]
    |5,_=>simp[hi,qQ,wS,wU,uE]
   ·match b,D with
    |0,_=>simp[hi,qQ,wS,wU,uE]
    |1,_=>simp[hi,qQ,wS,wU,uE]
    |2,_=>simp[hi,qQ,wS,wU,uE]
    |3,_=>simp[hi,qQ,wS,wU,uE]
    |4,_=>simp[hi,qQ,wS,wU,uE]
    |5,_=>simp[hi,qQ,wS,wU,uE]
  ·have hc:qQ (uE tp x k p q) (i / 6)=qQ tp (i / 6):=CE fun m _=>by unfold uE;rw[if_neg (fun h=>J h.1)]
   rw[hc,if_neg ae,if_neg ae,if_neg ae]
 ·rw[if_neg ae,if_neg ae,if_neg ae,if_neg hi,if_neg hi]
def Kf (tp:kJ) (n j:Nat):kJ:=fun x k=>if x<n∨(x=n∧k<j) then tp x k else none
theorem So {j:Nat} (p q:Int) (h:tp n j=some (p,q)):uE (Kf tp n j) n j p q=Kf tp n (j+1):=by
 funext x k
 unfold uE Kf
 by_cases D:x=n/\k=j
 ·rw[if_pos D,if_pos (.inr ⟨D.1,ae⟩),D.1,D.2,h]
 ·rw[if_neg D]
  by_cases I:x<n\/x=n/\k<j
  ·rw[if_pos I,if_pos ae]
  ·rw[if_neg I,if_neg ae]
theorem Sp {j:Nat} (h:tp n j=none):Kf tp n j=Kf tp n (j+1):=by
 funext x k
 unfold Kf
 by_cases D:x=n/\k=j
 ·rw[if_neg ae,if_pos (.inr ⟨D.1,ae⟩),D.1,D.2,h]
 ·by_cases I:x<n\/x=n/\k<j
  ·rw[if_pos I,if_pos ae]
  ·rw[if_neg I,if_neg ae]
theorem Uw (N:Nat) (tp:kJ) (n:Nat):lC N (Kf tp n 2)=lC N (Kf tp (n+1) 0):=zr fun x k _ D=>by
 unfold Kf
 by_cases h:x<n\/x=n/\k<2
 ·rw[if_pos h,if_pos ae]
 ·rw[if_neg h,if_neg ae]
theorem Ux (N:Nat) (tp:kJ):lC N (Kf tp N 0)=lC N tp:=zr fun x k hx _=>by
 unfold Kf;rw[if_pos (.inl hx)]
theorem Sq (tp:kJ):Kf tp 0 0=fun _ _=>none:=by
 funext x k
 unfold Kf;rw[if_neg ae]
theorem PG (n:Nat):(madeCells (Value.agg #[.bool false, .bool false,Iz 0,Iz 0,Iz 0,Iz 0]).cells (n*6)).toList=lC n (fun _ _=>none):=by
 apply fA;intro j;rw[rH]
 by_cases D:j<n*6
 ·rw[if_pos D]
  have J:(madeCells (Value.agg #[.bool false, .bool false,Iz 0,Iz 0,Iz 0,Iz 0]).cells (n*6)).toList[j]?=some ((Value.agg #[.bool false, .bool false,Iz 0,Iz 0,Iz 0,Iz 0]).cells[j % 6]!):=by
   simp[madeCells,D,Value.cells]
  rw[J];have I:j % 6<6:=oF _ ae;obtain⟨m,hm⟩:=Zn (j % 6);rw[<-hm] at I⊢
  match m,I with
  |0,_=>rfl
  |1,_=>rfl
  |2,_=>rfl
  |3,_=>rfl
  |4,_=>rfl
  |5,_=>rfl
 ·rw[if_neg D,cO (by simp[madeCells];omega)]
theorem Fm (h:M.side k=[]):yG M k=none:=by unfold yG;rw[h]
theorem Fo {l:List iQ} (h:M.side k=r::l):yG M k=some (r.1,mq r.2):=by unfold yG;rw[h]
theorem Sr (h:S[x]?=some M):lU S x k=yG M k:=by unfold lU;rw[h]
theorem vr (s:Nat) (P:PD) (S:Sm) (G R:Nat->Prop) (w:World) (h:dR w G R s P S):
  Wz 58 #[Pz s] w fun e w'=> ∃A c,e= .returned (.slice A P.count c)/\w'.ownsRow w.heap.size 171 6 (.slice A P.count c) P.count (lC P.count (lU S))/\Bz w w':=by
 obtain⟨C,hS,eb,ed,hR⟩:=h;have ba:=hS.pd.right.cnt;obtain⟨N,eN⟩:=Zn P.count;have bb:C.bs.length=N:=by rw[hS.bn,eN]
 have ck:Cz w s 11 (.slice C.A N C.c):=bb▸hS.D.cell 11;have d9:N<=21:=eN▸ba.1;obtain⟨i,hi,hz,b5,b6⟩:=Sj.info;have cl:∀w:World,(Instr.makeSlice 118 (Iz (N:Int)) (Iz (N:Int))).run Tryz.prog w= .ok (.slice (some ⟨w.heap.size,0,none⟩) N N) (w.alloc (.cells (madeCells (Value.agg #[.bool false, .bool false,Iz 0,Iz 0,Iz 0,Iz 0]).cells (N*6)) 171)):=fun w=>by
  have hr:=run_make (P:=Tryz.prog) w 118 171 i _ Sj.under hi hz .i64 .i64 N N ae ae (by rw[b6];omega) ae;rw[b5] at hr;exact hr
 obtain⟨MC,a3⟩:=Zn (madeCells (Value.agg #[.bool false, .bool false,Iz 0,Iz 0,Iz 0,Iz 0]).cells (N*6));rw[<-a3] at cl;have a4:(w.alloc (.cells MC 171)).ownsRow w.heap.size 171 6 (.slice (some ⟨w.heap.size,0,none⟩) N N) N (lC N (fun _ _=>none)):=by
  have:=cI (base:=w.heap.size) (size:=6) (e:=171) w MC N (af _) (by unfold maxLen;omega) (a3▸size_madeCells _ _);rw[a3,PG] at this;rw[a3];exact this
 obtain⟨w1,bc⟩:=Zn (w.alloc (.cells MC 171));obtain⟨gT,bf⟩:=Zn w.heap.size;have B1:=Zw bc;rw[<-bc,<-bf] at a4;have ea:=Yb B1 hS.D.lt ck;obtain⟨tp,bh⟩:=Zn (lU S);rw[<-eN,<-bh];obtain⟨HS,HN,b7,cm,b8,ef,bp,cn⟩:=Dw hS eN a4 B1 bh bb bf hS.D.lt;clear hS eN a4 B1 bh bb hi hz b5 b6 a3 ba bf
 go_enter Tryz.func58,Tryz.ntmps58
 have eg:=cn.h;go_wp2_with fail;rw[<-bc,<-bp.h]
 go_loopw [21] (fun v wr=> ∃n:Nat,n<=N/\v= Iz (n:Int)/\Hid (wr.ownsRow w.heap.size 171 6 (.slice (some ⟨gT,0,none⟩) N N) N (lC N (Kf tp n 0))/\Bz w wr)) (fun v _=>N - (intOf v).toNat)
 case atStart=>exact⟨0,aB _,rfl,ao ⟨by rw[Sq];exact ch b7 (bu bp.symm),cm⟩⟩
 case round=>
  obtain⟨n,hn,rfl,HM⟩:=hrel;obtain⟨I,hB⟩:=HM.h
  by_cases bt:n<N
  ·obtain⟨b,M,hb,hM,ct⟩:=HS.h.book (HN.h▸bt)
   obtain⟨gA,hA,hp⟩:=mB HS.ob hb;have cv:=(HS.ob.lt gA (by rw[hA];rfl)).2;have cF:=Yb hB cv hp;have i1:(n:Int)<N:=ae;obtain⟨wo,rfl⟩:=Zn wr;obtain⟨wi,a5⟩:=Zn (wo.alloc (.cells #[Iz 1,Iz 2] 3));obtain⟨gI,bE⟩:=Zn wo.heap.size;have DI:=Zq a5 bE;have BI:=Zw a5;have cH:=bP I BI;have cQ:=hB.trans (BI.mono hB.size);have cS:∀j,lU S n j=yG M j:=fun j=>Sr hM;obtain⟨cT,cX,dc,b9,cd,bH,dp,ei⟩:=Dw cH cQ DI ct cS bt bE hA;rw[hA];go_wp2_with fail;rw[<-a5,<-dp.h];clear cF a5 bE
   go_loopw [28] (fun v wr=> ∃j:Nat,j<=2/\v= Iz (j:Int)/\Hid (wr.ownsRow w.heap.size 171 6 (.slice (some ⟨gT,0,none⟩) N N) N (lC N (Kf tp n j))/\Bz w wr/\aE wr gI 3 #[Iz 1,Iz 2])) (fun v _=>2 - (intOf v).toNat)
   case atStart=>exact⟨0,ae,rfl,ao ⟨cT,cX,dc⟩⟩
   case round=>
    obtain⟨j,hj,rfl,HJ⟩:=hrel;obtain⟨I,hB,a6⟩:=HJ.h
    by_cases a7:j<2
    ·have y:Cz wr gI j (Iz ((j:Int)+1)):=by
      obtain rfl|rfl:j=0\/j=1:=ae
      ·exact a6.cell 0
      ·exact a6.cell 1
     have j1:(j:Int)<2:=ae;obtain⟨a0,HB,HD,ax⟩:=mh I hB a6 a7;go_wp2_with fail
     cases a2:M.side j with
     |nil=>
      refine(uA b M (C.Fs n) j ((j:Int)+1) wr (b9.below HB) ax rfl a2).mono ?_;rintro e w2⟨rfl,b2⟩;have ht:tp n j=none:=by rw[b8.h,cd.h,Fm a2]
      obtain⟨HT,bQ⟩:=dF ht b2;clear a2 ht b2;go_wp2_with fail;go_roundw
      case rel=>
       refine⟨j+1,cA ax.h,by go_num,ao ⟨?_,?_,?_⟩⟩
       ·rw[<-Sp HT.h]
        exact bP a0 (au bQ _)
       ·exact HB.trans ((au bQ _).mono HB.size)
       ·exact HD.below (au bQ _)
      case measure=>have:=ax.h;simp[intOf];omega
     |cons r lr=>
      refine(yI b M (C.Fs n) j ((j:Int)+1) r lr wr (b9.below HB) ax rfl a2).mono ?_;rintro e w2⟨rfl,b2⟩;have ht:tp n j=some (r.1,mq r.2):=by rw[b8.h,cd.h,Fo a2]
      obtain⟨w3,a8⟩:=Zn (w2.alloc (.cells #[Iz r.1,Iz (mq r.2),Iz (r.2.length:Int)] 75));obtain⟨g8,bR⟩:=Zn w2.heap.size;have D8:=Zq a8 bR;have B3:Bz wr w3:=a8▸au b2 _;have O:=bP a0 B3;have cf:∀j,j=g8->j≠gT:=by
       rintro j rfl e;obtain⟨cur,hc⟩:=bY O (g:=gT) rfl;rw[<-e] at hc;exact jY D8 hc (by decide) rfl
      have ay:gI≠gT:=by
       rintro e;obtain⟨cur,hc⟩:=bY O (g:=gT) rfl;rw[<-e] at hc;exact jY (HD.below B3) hc (by decide) rfl
      obtain⟨T,eT⟩:=Zn (lC N (Kf tp n j));rw[<-eT] at O;have dS:T.length=N*6:=by rw[eT,ph]
      have dT:=bH.h;have a7:=ax.h;have q0:∃v,T[n*6+j]?=some v:=⟨_,aj ae⟩;have q1:∃v,T[n*6+(2+j)]?=some v:=⟨_,aj ae⟩;have q2:∃v,T[n*6+(4+j)]?=some v:=⟨_,aj ae⟩;obtain⟨v0,q0⟩:=q0;obtain⟨v1,q1⟩:=q1;obtain⟨v2,q2⟩:=q2;have o1:=jM O q0 (.bool true);have bU:(T.set (n*6+j) (.bool true))[n*6+(2+j)]?=some v1:=by rw[aZ ae];exact q1
      have o2:=jM o1 bU (Iz r.1);have bV:((T.set (n*6+j) (.bool true)).set (n*6+(2+j)) (Iz r.1))[n*6+(4+j)]?=some v2:=by rw[aZ ae,aZ ae];exact q2
      have o3:=jM o2 bV (Iz (mq r.2));rw[eT,PF dT a7,So _ _ ht] at o3;have c0:=dI O q0;have c1:=dI o1 bU;have c2:=dI o2 bV;have f0:=fJ O (n*6+j);have f1:=fJ o1 (n*6+(2+j));have f2:=fJ o2 (n*6+(4+j));have d2:=dI O q1;have d3:=dI O q2;have d4:=fJ O (n*6+(2+j));have d5:=fJ O (n*6+(4+j));rw[<-bg] at c1 f1 c2 f2 d2 d3 d4 d5;have b0:=bu bp.symm;have Bf:=(((HB.trans (B3.mono HB.size)).setCell b0 (p:=⟨gT,n*6+j,none⟩) (.bool true)).setCell b0 (p:=⟨gT,n*6+(2+j),none⟩) (Iz r.1)).setCell b0 (p:=⟨gT,n*6+(4+j),none⟩) (Iz (mq r.2));have Df:aE (((w3.setCell ⟨gT,n*6+j,none⟩ (.bool true)).setCell ⟨gT,n*6+(2+j),none⟩ (Iz r.1)).setCell ⟨gT,n*6+(4+j),none⟩ (Iz (mq r.2))) gI 3 #[Iz 1,Iz 2]:=by
       refine(HD.below B3).block ?_;rw[av _ _ _ _ ay,av _ _ _ _ ay,av _ _ _ _ ay]
      obtain⟨Fs,b3⟩:=Zn (fun j=>j=g8:Nat->Prop);have m8:Fs g8:=by rw[b3]
      have d0:∀u,aI Fs w3.drew u->Cz u g8 0 (Iz r.1):=fun u hu=>(hu.cell m8).trans (D8.cell 0);have d1:∀u,aI Fs w3.drew u->Cz u g8 1 (Iz (mq r.2)):=fun u hu=>(hu.cell m8).trans (D8.cell 1);have hs:∀(u:World) (i:Nat) (v:Value),aI Fs u (u.setCell ⟨gT,i,none⟩ v):=fun u i v k hk=>av _ _ _ _ (cf k (by rw[b3] at hk;exact hk));obtain⟨d6,d7,d8,b4⟩:=mh o3 Bf Df hs;clear q0 q1 q2 bU bV o1 o2 o3 Bf Df hs cf ay O B3 D8 b2 a2 ht eT dS m8 b3;go_wp2_with fail;rw[<-a8,<-bR];clear a8 bR;refine bx (R:=aI Fs) 99999 [16,20,24] [0,1,2,3,4,5,6,7,8,9,10,11,12,13,14,15,17,18,21,22,16,19,20,23,24] (by kernel_rfl) (aI.tr _) (aI.J _) (by kernel_rfl) (fun _ _ _ _ _ h=>h) ?_;refine Yt ?_;clear d0 d1;refine Ym fun K hK=>?_;refine Yo hK (b4 _ _ _) ?_;refine Yt ?_;refine Ym fun K hK=>?_;refine Yo hK (b4 _ _ _) ?_;refine Yt ?_;refine Ym fun K hK=>?_;refine Yo hK (b4 _ _ _) ?_;refine aT ?_;go_wp2_with fail;go_roundw
      case rel=>
       have e1:n*6+2+j=n*6+(2+j):=bg ..;have e2:n*6+4+j=n*6+(4+j):=bg ..;rw[e1,e2];exact⟨j+1,cA ax.h,by go_num,ao ⟨aX d6 fun _ _=>rfl,d7.drew,d8.drew⟩⟩
      case measure=>have:=ax.h;simp[intOf];omega
    ·obtain rfl:j=2:=ae
     obtain⟨a0,HB⟩:=dF I hB;clear I hB a6 HJ hj a7;go_wp2_with fail;go_roundw
     case rel=>exact⟨n+1,cA bH.h,by go_num,ao ⟨by rw[<-Uw];exact a0,HB⟩⟩
     case measure=>have:=bH.h;simp[intOf];omega
  ·obtain rfl:n=N:=ae
   rw[Ux] at I;obtain⟨a0,HB⟩:=dF I hB;clear I hB HM hn bt;go_wp2_with fail;go_ret;exact⟨_,n,rfl,a0,HB⟩
def Uy (o:Option Qt):Array Value:=match o with|some q=>q.arr|none=> #[Iz 0,Iz 0,Iz 0,Iz 0,Iz 0,Iz 0]
theorem PH (o:Option Qt):∃D a1 I J O a5:Int,Uy o=#[Iz D,Iz a1,Iz I,Iz J,Iz O,Iz a5]:=by
 cases o with
 |none=>exact⟨_,_,_,_,_,_,rfl⟩
 |some q=>exact⟨_,_,_,_,_,_,rfl⟩
theorem rI (A:Option Addr) (n c:Nat) (l:List Qt) (k:Nat) (s:Int) (w:World) (hn:l.length=n) (D:n<=1000) (hA:Cells w A (uD l)) (I:k<2) (hs:s=(k:Int)+1):
  Wz 100 #[.slice A n c,Iz s] w fun e w'=>e= .returned (.tuple #[.agg (Uy (nF k l)), .bool (nF k l).isSome])/\Bz w w':=by
 cases l with
 |nil=>
  subst hn;exact PB A c s w
 |cons q l=>exact PC A n c q l k s w (by rw[<-hn];rfl) D hA I hs
theorem uF (P:PD) (tp:kJ) (x k:Nat):(iq P tp x k).length<=1+2*P.n:=aF (qi _ _) (Cx P.n tp x k)
theorem qj.WD {C:NF} (h:qj w s P S C):GC (lU S):=by
 intro x k p q hx;unfold lU at hx
 cases D:S[x]? with
 |none=>rw[D] at hx;cases hx
 |some M=>
  rw[D] at hx;unfold yG at hx
  cases hs:M.side k with
  |nil=>simp only[hs] at hx;cases hx
  |cons r l=>
   simp only[hs] at hx;injection hx with hx;injection hx with h1 h2;have hr:r∈M.side k:=by rw[hs];simp
   have I:=h.pd.right.ag (h.pr x k M r D hr);have O:x<P.count:=by rw[<-h.sn];exact(az.1 D).1
   obtain⟨b,M',_,J,h5⟩:=h.book O;rw[D] at J;injection J with J;subst J;obtain⟨h6,h7,h8⟩:=h5.ok.lvl hr;have h9:=Gh fun e he=>⟨(h8 e he).1,(h8 e he).2.1⟩;subst h1 h2;exact⟨⟨I.1,I.2.1⟩,ae,ae⟩
def Jw (k:Nat) (a:Option (Int×Int)) (o:Option Qt):Option (Int×Int×Option Qt):=match a,o with
 |some r,some q=>if bz k q.ag r.1=true then some (q.ag,q.aw,some q) else some (r.1,r.2,none)
 |some r,none=>some (r.1,r.2,none)
 |none,some q=>some (q.ag,q.aw,some q)
 |none,none=>none
theorem CG (P:PD) (S:Sm) (x k:Nat):jZ P S x k=Jw k (lU S x k) (nF k (iq P (lU S) x k)):=rfl
def CH (o:Option (Int×Int×Option Qt)):Array Value:=match o with
 |none=> #[.agg #[Iz 0,Iz 0,Iz 0,Iz 0,Iz 0,Iz 0], .bool false, .bool false]
 |some (p,q,none)=> #[.agg #[Iz p,Iz q,Iz 0,Iz 0,Iz 0,Iz 0], .bool false, .bool true]
 |some (_,_,some q)=> #[q.val, .bool true, .bool true]
theorem PI (s:Nat) (P:PD) (S:Sm) (G R:Nat->Prop) (x k:Nat) (sd:Int) (w:World) (h:dR w G R s P S) (hx:x<P.count) (hk:k<2) (bE:sd=(k:Int)+1):
  Calls Tryz.prog 102 #[.pointer (some ⟨s,0,none⟩), .int .i64 (x:Int), .int .i64 sd] w fun e w'=>e= .returned (.tuple (CH (jZ P S x k)))/\Below w.heap.size w w':=by
 have er:=h;obtain⟨C,hS,f1,f2,hR⟩:=h;have et:=hS.pd.right.cnt;obtain⟨b,M,hb,hM,hB⟩:=hS.book hx;obtain⟨gA,hA,hp⟩:=mB hS.ob hb;obtain⟨L,eL⟩:=Zn (iq P (lU S) x k);have eu:L.length<=1000:=by rw[eL];have:=uF P (lU S) x k;omega
 obtain⟨o,eo⟩:=Zn (nF k L);obtain⟨a0,a1,a2,a3,a4,a5,ea⟩:=PH o;obtain⟨zb,ew⟩:=Zn o.isSome;have b8:=hS.WD;have e5:gA<w.heap.size:=(hS.ob.lt gA (by rw[hA];rfl)).2;obtain⟨O,cF⟩:=Zn (w.alloc (.cells #[.int .i64 0, .int .i64 0, .int .i64 0, .int .i64 0, .int .i64 0, .int .i64 0] 178));obtain⟨g6,cH⟩:=Zn w.heap.size;have D6:aE O g6 178 #[.int .i64 0, .int .i64 0, .int .i64 0, .int .i64 0, .int .i64 0, .int .i64 0]:=by rw[cF,cH];exact heap_alloc_new _ _
 have BA:Below w.heap.size w O:=by rw[cF];exact au (aa _ _) _
 have b9:qj O s P S C:=hS.same (fun k hk=>BA.block k (hS.Pt k hk)) (fun y k hk=>BA.block k (hS.NG y k hk)) (fun k hk=>BA.block k (hS.Ps k hk)) BA.size;obtain⟨S0,ef⟩:=Zn O.heap.size;have e6:s<S0:=by rw[ef];exact b9.D.lt
 obtain⟨k0,k1,k2,k3,k4,k5,k6,k7,k8,k9,ey,e7,e8⟩:=b9.gX;have st:∀{u:World} {i:Nat} {v:Value},Below S0 O.drew u->O.cell? ⟨s,i,none⟩=some v->u.cell? ⟨s,i,none⟩=some v:=fun {u i v} hu hv=>Yb hu e6 hv;have d0:=fun u (hu:Below S0 O.drew u)=>st hu k0;have d1:=fun u (hu:Below S0 O.drew u)=>st hu k1;have d2:=fun u (hu:Below S0 O.drew u)=>st hu k2;have d3:=fun u (hu:Below S0 O.drew u)=>st hu k3;have d4:=fun u (hu:Below S0 O.drew u)=>st hu k4;have d5:=fun u (hu:Below S0 O.drew u)=>st hu k5;have d6:=fun u (hu:Below S0 O.drew u)=>st hu k6;have d7:=fun u (hu:Below S0 O.drew u)=>st hu k7;have d8:=fun u (hu:Below S0 O.drew u)=>st hu k8;have d9:=fun u (hu:Below S0 O.drew u)=>st hu k9;have eA:=fun u (hu:Below S0 O.drew u)=>st hu ey;have eB:=ao (er.below BA);have eg:=ao b9.pd;have cQ:=ao b9;have HB:=ao (hB.below BA);have HM:=ao hM;have e9:=ao hb;have HA:=ao hA;have EL:=ao eL;have EO:=ao eo;have EA:=ao ea;have EZ:=ao ew;have ei:=ao b8;have bt:=ao bE;have HX:=ao hx;have bf:=ao D6;have eC:=ao BA;have ax:=ao ef;have eD:=ao cH;have cS:=ao eu;have f3:=ao et;clear er hS hB hM hb hA eL eo ea ew b8 bE hx D6 BA b9 ef hp e5 eu st k0 k1 k2 k3 k4 k5 k6 k7 k8 k9 ey e7 e8 et
 go_enter Tryz.func102,Tryz.ntmps102
 go_upto_region 1 with(fail)
 rw[<-cF,<-cH];clear cF cH
 go_cut [9,10] (fun v v' wx=>v'= .bool zb/\∃g9,v= .pointer (some ⟨g9,0,none⟩)/\Hid (aE wx g9 178 #[.int .i64 a0, .int .i64 a1, .int .i64 a2, .int .i64 a3, .int .i64 a4, .int .i64 a5]/\Below S0 O wx/\S0<=g9))
 case first=>
  refine Zy S0 17 ?_;refine Zr [0,1,2,3,4,6,7,9] 9 ?_;refine Yr ?_;clear d0 d1 d2 d3 d4 d5 d6 d7 d8 d9 eA;refine Zf [5,14] 8 ?_;refine Zo (fun K hK=>?_) ?_
  ·go_simp
   refine(vr s P S G R _ (eB.h.below (aS (aa _ _):Below O.heap.size O O.drew))).mono ?_;rintro e w1⟨A1,c1,rfl,J,b1⟩;have I:Below S0 O.drew w1:=b1.mono (bu ax.h);have BN:Below S0 O w1:=(aa _ _).drew.trans I;have eE:=ao (dP.cC J);have bH:=ao BN;refine Yo hK (I) ?_;clear b1 I BN J;refine Zf [8,14] 7 ?_;refine Zo (fun K hK=>?_) ?_
   ·go_simp
    refine(pV P C.ma C.mc C.sa C.sc A1 c1 (lU S) x k sd _ (eg.h.below (show Below O.heap.size O w1 by rw[<-ax.h];exact bH.h)) eE.h HX.h hk bt.h ei.h).mono ?_;rintro e w2⟨A2,c2,rfl,J,b1⟩;rw[<-EL.h] at J⊢;have I:Below S0 w1 w2:=b1.mono (by have:=bH.h.size;have:=ax.h;omega);have BN:Below S0 O w2:=bH.h.trans I;have eF:=ao (dP.cC J);have b7:=ao BN;refine Yo hK (I) ?_;clear b1 I BN J;refine Zf [10,14] 6 ?_;refine Zo (fun K hK=>?_) ?_
    ·go_simp
     refine(rI A2 _ c2 L k sd _ rfl cS.h eF.h hk bt.h).mono ?_;rintro e w3⟨rfl,b1⟩;rw[<-EO.h,EA.h,<-EZ.h];have I:Below S0 w2 w3:=b1.mono (by have:=b7.h.size;have:=ax.h;omega);have BN:Below S0 O w3:=b7.h.trans I;have dS:=ao BN;refine Yo hK (I) ?_;clear b1 I BN;refine Zr [11,12,13] 3 ?_;refine Yr ?_;refine Zf [14] 2 ?_;refine Zo (fun K hK=>?_) ?_
     ·go_simp
      have a8:S0<=w3.heap.size:=by have:=dS.h.size;have:=ax.h;omega
      refine Yo hK (iV (aa _ _) a8 _) ?_;have fa:Hid (∀o o':Obj,Below S0 (w3.alloc o) (w3.alloc o')):=ao fun o o'=>qD a8 o o';have eG:Hid (S0<=w3.heap.size):=ao a8;clear a8;refine Zf [15] 1 ?_;refine Zo (fun K hK=>?_) ?_
      ·go_simp
       refine Yo hK (fa.h _ _) ?_;refine Zr [16] 0 ?_;refine Yr ?_;refine Ze ?_;go_wp2_with fail;go_meet;exact⟨by first|rfl|skip,_,rfl,ao ⟨aE.new _ _ _,dS.h.alloc (by exact eG.h) _,eG.h⟩⟩
      exact aQ
     exact aQ
    refine Zo (fun K hK=>?_) ?_
    ·go_simp
     have a8:S0<=w2.heap.size:=by have:=b7.h.size;have:=ax.h;omega
     refine Yo hK (iV (aa _ _) a8 _) ?_;obtain⟨w5,a6⟩:=Zn (w2.alloc (.cells #[.int .i64 0, .int .i64 0, .int .i64 0, .int .i64 0, .int .i64 0, .int .i64 0] 178));obtain⟨cd,ba⟩:=Zn w2.heap.size;have DN:aE w5 cd 178 #[.int .i64 0, .int .i64 0, .int .i64 0, .int .i64 0, .int .i64 0, .int .i64 0]:=by rw[a6,ba];exact aE.new w2 _ _
     have BN:Below S0 O w5:=by rw[a6];exact b7.h.alloc a8 _
     have bh:Hid (S0<=cd):=ao (by rw[ba];exact a8);have BL:Below w2.heap.size w2 w5:=by rw[a6];exact au (aa _ _) _
     have ff:=ao (eF.h.below BL);rw[<-a6,<-ba];have fi:=ao DN;have dT:=ao BN;clear a6 ba DN BN BL a8;refine Zf [10] 5 ?_;refine Zo (fun K hK=>?_) ?_
     ·go_simp
      refine(rI A2 _ c2 L k sd _ rfl cS.h ff.h hk bt.h).mono ?_;rintro e w6⟨rfl,b1⟩;rw[<-EO.h,EA.h,<-EZ.h];have I:Below S0 w5 w6:=b1.mono (by have:=dT.h.size;have:=ax.h;omega);have BN:Below S0 O w6:=dT.h.trans I;have bf:=ao (fi.h.below b1);have eI:=ao BN;refine Yo hK (I) ?_;clear b1 I BN;have z0:=bf.h.cell 0;have z1:=bf.h.cell 1;have z2:=bf.h.cell 2;have z3:=bf.h.cell 3;have z4:=bf.h.cell 4;have z5:=bf.h.cell 5;obtain⟨y0,y1,y2,y3,y4,y5⟩:=bf.h.oD;have hw:=bO (us:=[.int .i64 a0, .int .i64 a1, .int .i64 a2, .int .i64 a3, .int .i64 a4, .int .i64 a5]) bf.h rfl;have hb:=bA (us:=[.int .i64 a0, .int .i64 a1, .int .i64 a2, .int .i64 a3, .int .i64 a4, .int .i64 a5]) (i:=0) bh.h eI.h;have I:=bA (us:=[.int .i64 a0, .int .i64 a1, .int .i64 a2, .int .i64 a3, .int .i64 a4, .int .i64 a5]) (i:=0) bh.h (aa S0 w6);simp only[fW] at hw hb I;have HW:=ao hw;have HB:=ao hb;have cf:=ao I;clear hw hb I;refine Zr [11,12,13] 2 ?_;refine Yr ?_;refine Zf [15] 1 ?_;refine Zo (fun K hK=>?_) ?_
      ·go_simp
       refine Yo hK (cf.h) ?_;refine Zr [16] 0 ?_;refine Yr ?_;refine Ze ?_;clear z0 z1 z2 z3 z4 z5 y0 y1 y2 y3 y4 y5;go_wp2_with fail;go_meet;exact⟨rfl,cd,rfl,ao ⟨HW.h,HB.h,bh.h⟩⟩
      exact aQ
     exact aQ
    exact aQ
   refine Zo (fun K hK=>?_) ?_
   ·go_simp
    have a8:S0<=w1.heap.size:=by have:=bH.h.size;have:=ax.h;omega
    refine Yo hK (iV (aa _ _) a8 _) ?_;obtain⟨w7,a6⟩:=Zn (w1.alloc (.cells #[.int .i64 0, .int .i64 0, .int .i64 0, .int .i64 0, .int .i64 0, .int .i64 0] 178));obtain⟨ck,ba⟩:=Zn w1.heap.size;have DN:aE w7 ck 178 #[.int .i64 0, .int .i64 0, .int .i64 0, .int .i64 0, .int .i64 0, .int .i64 0]:=by rw[a6,ba];exact aE.new w1 _ _
    have BN:Below S0 O w7:=by rw[a6];exact bH.h.alloc a8 _
    have bh:Hid (S0<=ck):=ao (by rw[ba];exact a8);have BL:Below w1.heap.size w1 w7:=by rw[a6];exact au (aa _ _) _
    have fk:=ao (eE.h.below BL);rw[<-a6,<-ba];have fq:=ao DN;have cl:=ao BN;clear a6 ba DN BN BL a8;refine Zf [8] 6 ?_;refine Zo (fun K hK=>?_) ?_
    ·go_simp
     refine(pV P C.ma C.mc C.sa C.sc A1 c1 (lU S) x k sd _ (eg.h.below (show Below O.heap.size O w7 by rw[<-ax.h];exact cl.h)) fk.h HX.h hk bt.h ei.h).mono ?_;rintro e w8⟨A2,c2,rfl,J,b1⟩;rw[<-EL.h] at J⊢;have I:Below S0 w7 w8:=b1.mono (by have:=cl.h.size;have:=ax.h;omega);have BN:Below S0 O w8:=cl.h.trans I;have fx:=ao (dP.cC J);have fz:=ao (fq.h.below b1);have eb:=ao BN;refine Yo hK (I) ?_;clear b1 I BN J;refine Zf [10] 5 ?_;refine Zo (fun K hK=>?_) ?_
     ·go_simp
      refine(rI A2 _ c2 L k sd _ rfl cS.h fx.h hk bt.h).mono ?_;rintro e w9⟨rfl,b1⟩;rw[<-EO.h,EA.h,<-EZ.h];have I:Below S0 w8 w9:=b1.mono (by have:=eb.h.size;have:=ax.h;omega);have BN:Below S0 O w9:=eb.h.trans I;have bQ:=ao (fz.h.below b1);have eJ:=ao BN;refine Yo hK (I) ?_;clear b1 I BN;have z0:=bQ.h.cell 0;have z1:=bQ.h.cell 1;have z2:=bQ.h.cell 2;have z3:=bQ.h.cell 3;have z4:=bQ.h.cell 4;have z5:=bQ.h.cell 5;obtain⟨y0,y1,y2,y3,y4,y5⟩:=bQ.h.oD;have hw:=bO (us:=[.int .i64 a0, .int .i64 a1, .int .i64 a2, .int .i64 a3, .int .i64 a4, .int .i64 a5]) bQ.h rfl;have hb:=bA (us:=[.int .i64 a0, .int .i64 a1, .int .i64 a2, .int .i64 a3, .int .i64 a4, .int .i64 a5]) (i:=0) bh.h eJ.h;have I:=bA (us:=[.int .i64 a0, .int .i64 a1, .int .i64 a2, .int .i64 a3, .int .i64 a4, .int .i64 a5]) (i:=0) bh.h (aa S0 w9);simp only[fW] at hw hb I;have HW:=ao hw;have HB:=ao hb;have cf:=ao I;clear hw hb I;refine Zr [11,12,13] 2 ?_;refine Yr ?_;refine Zf [15] 1 ?_;refine Zo (fun K hK=>?_) ?_
      ·go_simp
       refine Yo hK (cf.h) ?_;refine Zr [16] 0 ?_;refine Yr ?_;refine Ze ?_;clear z0 z1 z2 z3 z4 z5 y0 y1 y2 y3 y4 y5;go_wp2_with fail;go_meet;exact⟨rfl,ck,rfl,ao ⟨HW.h,HB.h,bh.h⟩⟩
      exact aQ
     exact aQ
    exact aQ
   exact aQ
  refine Zo (fun K hK=>?_) ?_
  ·go_simp
   refine Yo hK ((by rw[ax.h];exact fo O _)) ?_;obtain⟨cT,a6⟩:=Zn ((O.alloc (.cells #[.int .i64 0, .int .i64 0, .int .i64 0, .int .i64 0, .int .i64 0, .int .i64 0] 178)).drew);obtain⟨cm,ba⟩:=Zn O.heap.size;have DN:aE cT cm 178 #[.int .i64 0, .int .i64 0, .int .i64 0, .int .i64 0, .int .i64 0, .int .i64 0]:=by rw[a6,ba];exact(aE.new O _ _).drew
   have BN:Below S0 O cT:=by rw[a6,ax.h];exact aS (au (aa _ _) _)
   have bh:Hid (S0<=cm):=ao (by rw[ba,ax.h];exact af _);rw[<-a6,<-ba];have eK:=ao DN;have b4:=ao BN;clear a6 ba DN BN;refine Zf [5] 7 ?_;refine Zo (fun K hK=>?_) ?_
   ·go_simp
    refine(vr s P S G R _ (eB.h.below (show Below O.heap.size O cT by rw[<-ax.h];exact b4.h))).mono ?_;rintro e cX⟨A1,c1,rfl,J,b1⟩;have I:Below S0 cT cX:=b1.mono (by have:=b4.h.size;have:=ax.h;omega);have BN:Below S0 O cX:=b4.h.trans I;have eM:=ao (dP.cC J);have eO:=ao (eK.h.below b1);have b5:=ao BN;refine Yo hK (I) ?_;clear b1 I BN J;refine Zf [8] 6 ?_;refine Zo (fun K hK=>?_) ?_
    ·go_simp
     refine(pV P C.ma C.mc C.sa C.sc A1 c1 (lU S) x k sd _ (eg.h.below (show Below O.heap.size O cX by rw[<-ax.h];exact b5.h)) eM.h HX.h hk bt.h ei.h).mono ?_;rintro e ej⟨A2,c2,rfl,J,b1⟩;rw[<-EL.h] at J⊢;have I:Below S0 cX ej:=b1.mono (by have:=b5.h.size;have:=ax.h;omega);have BN:Below S0 O ej:=b5.h.trans I;have eP:=ao (dP.cC J);have eQ:=ao (eO.h.below b1);have cn:=ao BN;refine Yo hK (I) ?_;clear b1 I BN J;refine Zf [10] 5 ?_;refine Zo (fun K hK=>?_) ?_
     ·go_simp
      refine(rI A2 _ c2 L k sd _ rfl cS.h eP.h hk bt.h).mono ?_;rintro e ek⟨rfl,b1⟩;rw[<-EO.h,EA.h,<-EZ.h];have I:Below S0 ej ek:=b1.mono (by have:=cn.h.size;have:=ax.h;omega);have BN:Below S0 O ek:=cn.h.trans I;have bc:=ao (eQ.h.below b1);have el:=ao BN;refine Yo hK (I) ?_;clear b1 I BN;have z0:=bc.h.cell 0;have z1:=bc.h.cell 1;have z2:=bc.h.cell 2;have z3:=bc.h.cell 3;have z4:=bc.h.cell 4;have z5:=bc.h.cell 5;obtain⟨y0,y1,y2,y3,y4,y5⟩:=bc.h.oD;have hw:=bO (us:=[.int .i64 a0, .int .i64 a1, .int .i64 a2, .int .i64 a3, .int .i64 a4, .int .i64 a5]) bc.h rfl;have hb:=bA (us:=[.int .i64 a0, .int .i64 a1, .int .i64 a2, .int .i64 a3, .int .i64 a4, .int .i64 a5]) (i:=0) bh.h el.h;have I:=bA (us:=[.int .i64 a0, .int .i64 a1, .int .i64 a2, .int .i64 a3, .int .i64 a4, .int .i64 a5]) (i:=0) bh.h (aa S0 ek);simp only[fW] at hw hb I;have HW:=ao hw;have HB:=ao hb;have cf:=ao I;clear hw hb I;refine Zr [11,12,13] 2 ?_;refine Yr ?_;refine Zf [15] 1 ?_;refine Zo (fun K hK=>?_) ?_
      ·go_simp
       refine Yo hK (cf.h) ?_;refine Zr [16] 0 ?_;refine Yr ?_;refine Ze ?_;clear z0 z1 z2 z3 z4 z5 y0 y1 y2 y3 y4 y5;go_wp2_with fail;go_meet;exact⟨rfl,cm,rfl,ao ⟨HW.h,HB.h,bh.h⟩⟩
      exact aQ
     exact aQ
    exact aQ
   exact aQ
  exact aQ
 obtain⟨rfl,g9,rfl,HC⟩:=hcut;clear d0 d1 d2 d3 d4 d5 d6 d7 d8 d9 eA;obtain⟨E9,EB,fH⟩:=HC.h;have bR:Below O.heap.size O wc:=by rw[<-ax.h];exact EB
 have c0:qj wc s P S C:=cQ.h.same (fun k hk=>bR.block k (cQ.h.Pt k hk)) (fun y k hk=>bR.block k (cQ.h.NG y k hk)) (fun k hk=>bR.block k (cQ.h.Ps k hk)) bR.size;have dc:wc.cell? ⟨s,11,none⟩=some (.slice C.A C.bs.length C.c):=c0.D.cell 11;obtain⟨f4,eR,eS⟩:=mB c0.ob e9.h;rw[eR] at dc;obtain⟨N,eN⟩:=Zn C.bs.length;rw[<-eN] at dc;have f5:(x:Int)<N:=by rw[eN,c0.bn];have:=HX.h;omega
 have eT:=ao (HB.h.below bR);have eU:=ao E9;have eV:=ao bR;have f6:=ao eN;have ed:=ao (bf.h.below bR);have eW:g9≠g6:=by have h1:=bf.h.lt;have h2:=ax.h;omega
 have f7:=ao eW;clear E9 EB bR fH c0 eN HC eR eW;have eY:jZ P S x k=Jw k (yG M k) o:=by rw[CG,Sr HM.h,<-EL.h,<-EO.h]
 have dp:=ao eY;clear eY;go_wp2_with fail
 cases bE:M.side k with
 |nil=>
  refine(uA b M (C.Fs x) k sd wc eT.h hk bt.h bE).mono ?_;rintro e w2⟨rfl,b2⟩;have ht:=Fm bE;obtain⟨w3,bU⟩:=Zn (w2.alloc (.cells #[.int .i64 0, .int .i64 0, .int .i64 0] 75));have B3:Below wc.heap.size wc w3:=by rw[bU];exact au b2 _
  have a7:=eU.h.below B3;have ay:=ed.h.below B3;have p0:=a7.cell 0;have p1:=a7.cell 1;have p2:=a7.cell 2;have p3:=a7.cell 3;have p4:=a7.cell 4;have p5:=a7.cell 5;have z0:=ay.cell 0;have z1:=ay.cell 1;have z2:=ay.cell 2;have z3:=ay.cell 3;have z4:=ay.cell 4;have z5:=ay.cell 5;obtain⟨y0,y1,y2,y3,y4,y5⟩:=ay.oD;have bV:=ao ay;have HT:=ao ht;have b0:=ao (dW (dW eC.h eV.h) B3);have b3:Hid (w.heap.size<=g6):=ao (by rw[eD.h];exact af _);clear a7 ay B3 b2 ht bE dc eS
  go_upto_region 3 with(fail)
  rw[<-bU];clear bU;have hw:=bO (us:=[.int .i64 a0, .int .i64 a1, .int .i64 a2, .int .i64 a3, .int .i64 a4, .int .i64 a5]) bV.h rfl;have hb:=bA (us:=[.int .i64 a0, .int .i64 a1, .int .i64 a2, .int .i64 a3, .int .i64 a4, .int .i64 a5]) (i:=0) b3.h b0.h;simp only[fW] at hw hb;have HW:=ao hw;have b6:=ao hb;clear hw hb;go_wp2_with fail
  (try simp only[Exit.inBlock,Exit.then])
  obtain⟨wf,bp⟩:=Zn ((((((w3.setCell ⟨g6,0,none⟩ (.int .i64 a0)).setCell ⟨g6,0+1,none⟩ (.int .i64 a1)).setCell ⟨g6,0+1+1,none⟩ (.int .i64 a2)).setCell ⟨g6,0+1+1+1,none⟩ (.int .i64 a3)).setCell ⟨g6,0+1+1+1+1,none⟩ (.int .i64 a4)).setCell ⟨g6,0+1+1+1+1+1,none⟩ (.int .i64 a5));have hw:=HW.h;have hb:=b6.h;rw[<-bp] at hw hb;refine iv bp ?_;have r0:=hw.cell 0;have r1:=hw.cell 1;have r2:=hw.cell 2;have r3:=hw.cell 3;have r4:=hw.cell 4;have r5:=hw.cell 5;clear z0 z1 z2 z3 z4 z5 y0 y1 y2 y3 y4 y5 p0 p1 p2 p3 p4 p5;have bb:CH (jZ P S x k)=#[.agg #[.int .i64 a0, .int .i64 a1, .int .i64 a2, .int .i64 a3, .int .i64 a4, .int .i64 a5], .bool zb, .bool zb]:=by
   rw[dp.h,HT.h,<-EA.h,EZ.h]
   cases o<;>rfl
  rw[bb];refine bodyPost_ret (v:= .tuple #[.agg #[.int .i64 a0, .int .i64 a1, .int .i64 a2, .int .i64 a3, .int .i64 a4, .int .i64 a5], .bool zb, .bool zb]) (by simp[results,Tryz.results102,go_sem,r0,r1,r2,r3,r4,r5];try rfl) rfl ?_;exact⟨rfl,hb⟩
 |cons r lr=>
  refine(yI b M (C.Fs x) k sd r lr wc eT.h hk bt.h bE).mono ?_;rintro e w2⟨rfl,b2⟩;have ht:=Fo bE;obtain⟨q2,eZ⟩:=Zn (mq r.2);rw[<-eZ] at ht⊢;obtain⟨w3,bU⟩:=Zn (w2.alloc (.cells #[.int .i64 r.1, .int .i64 q2, .int .i64 (r.2.length:Int)] 75));obtain⟨fT,ct⟩:=Zn w2.heap.size;have ep:aE w3 fT 75 #[.int .i64 r.1, .int .i64 q2, .int .i64 (r.2.length:Int)]:=by rw[bU,ct];exact heap_alloc_new _ _
  have B3:Below wc.heap.size wc w3:=by rw[bU];exact au b2 _
  have a7:=eU.h.below B3;have ay:=ed.h.below B3;have p0:=a7.cell 0;have p1:=a7.cell 1;have p2:=a7.cell 2;have p3:=a7.cell 3;have p4:=a7.cell 4;have p5:=a7.cell 5;have z0:=ay.cell 0;have z1:=ay.cell 1;have z2:=ay.cell 2;have z3:=ay.cell 3;have z4:=ay.cell 4;have z5:=ay.cell 5;obtain⟨y0,y1,y2,y3,y4,y5⟩:=ay.oD;have l0:=ep.cell 0;have l1:=ep.cell 1;have bV:=ao ay;have HT:=ao ht;have b0:=ao (dW (dW eC.h eV.h) B3);have b3:Hid (w.heap.size<=g6):=ao (by rw[eD.h];exact af _);clear a7 ay B3 b2 ht bE dc eS ep eZ
  go_upto_region 3 with(fail)
  rw[<-bU,<-ct];clear bU ct
  cases o with
  |none=>
   obtain rfl:zb=false:=EZ.h;have bb:CH (jZ P S x k)=#[.agg #[.int .i64 r.1, .int .i64 q2, .int .i64 0, .int .i64 0, .int .i64 0, .int .i64 0], .bool false, .bool true]:=by rw[dp.h,HT.h];rfl
   have hw:=bO (us:=[.int .i64 r.1, .int .i64 q2, .int .i64 0, .int .i64 0, .int .i64 0, .int .i64 0]) bV.h rfl;have hb:=bA (us:=[.int .i64 r.1, .int .i64 q2, .int .i64 0, .int .i64 0, .int .i64 0, .int .i64 0]) (i:=0) b3.h b0.h;simp only[fW] at hw hb;have HW:=ao hw;have b6:=ao hb;clear hw hb;go_wp2_with fail
   (try simp only[Exit.inBlock,Exit.then])
   obtain⟨wf,bp⟩:=Zn ((((((w3.setCell ⟨g6,0,none⟩ (.int .i64 r.1)).setCell ⟨g6,0+1,none⟩ (.int .i64 q2)).setCell ⟨g6,0+1+1,none⟩ (.int .i64 0)).setCell ⟨g6,0+1+1+1,none⟩ (.int .i64 0)).setCell ⟨g6,0+1+1+1+1,none⟩ (.int .i64 0)).setCell ⟨g6,0+1+1+1+1+1,none⟩ (.int .i64 0));have hw:=HW.h;have hb:=b6.h;rw[<-bp] at hw hb;refine iv bp ?_;have r0:=hw.cell 0;have r1:=hw.cell 1;have r2:=hw.cell 2;have r3:=hw.cell 3;have r4:=hw.cell 4;have r5:=hw.cell 5;clear z0 z1 z2 z3 z4 z5 y0 y1 y2 y3 y4 y5 p0 p1 p2 p3 p4 p5;rw[bb];refine bodyPost_ret (v:= .tuple #[.agg #[.int .i64 r.1, .int .i64 q2, .int .i64 0, .int .i64 0, .int .i64 0, .int .i64 0], .bool false, .bool true]) (by simp[results,Tryz.results102,go_sem,r0,r1,r2,r3,r4,r5];try rfl) rfl ?_;exact⟨rfl,hb⟩
  |some q=>
   obtain rfl:zb=true:=EZ.h;have ha:q.arr=#[.int .i64 a0, .int .i64 a1, .int .i64 a2, .int .i64 a3, .int .i64 a4, .int .i64 a5]:=EA.h;have e0:q.ag=a0:=by
    have h1:=congrArg (fun a=>a[0]?) ha;simp[Qt.arr] at h1;exact h1
   have e3:=ao e0;have f0:=ao ha;clear ha e0;go_wp2_with fail;refine(pK sd a0 r.1 k bt.h w3).mono ?_;rintro e u⟨rfl,rfl⟩;obtain⟨z,ez⟩:=Zn (bz k a0 r.1);rw[<-ez];have e4:=ao ez;clear ez
   cases z
   ·have bb:CH (jZ P S x k)=#[.agg #[.int .i64 r.1, .int .i64 q2, .int .i64 0, .int .i64 0, .int .i64 0, .int .i64 0], .bool false, .bool true]:=by
     rw[dp.h,HT.h];unfold Jw;simp only;rw[e3.h,<-e4.h,if_neg (by simp)];rfl
    have cv:=ao bb;clear bb;have hw:=bO (us:=[.int .i64 r.1, .int .i64 q2, .int .i64 0, .int .i64 0, .int .i64 0, .int .i64 0]) bV.h rfl;have hb:=bA (us:=[.int .i64 r.1, .int .i64 q2, .int .i64 0, .int .i64 0, .int .i64 0, .int .i64 0]) (i:=0) b3.h b0.h;simp only[fW] at hw hb;have HW:=ao hw;have b6:=ao hb;clear hw hb;go_wp2_with fail
    (try simp only[Exit.inBlock,Exit.then])
    obtain⟨wf,bp⟩:=Zn ((((((w3.setCell ⟨g6,0,none⟩ (.int .i64 r.1)).setCell ⟨g6,0+1,none⟩ (.int .i64 q2)).setCell ⟨g6,0+1+1,none⟩ (.int .i64 0)).setCell ⟨g6,0+1+1+1,none⟩ (.int .i64 0)).setCell ⟨g6,0+1+1+1+1,none⟩ (.int .i64 0)).setCell ⟨g6,0+1+1+1+1+1,none⟩ (.int .i64 0));have hw:=HW.h;have hb:=b6.h;rw[<-bp] at hw hb;refine iv bp ?_;have r0:=hw.cell 0;have r1:=hw.cell 1;have r2:=hw.cell 2;have r3:=hw.cell 3;have r4:=hw.cell 4;have r5:=hw.cell 5;clear z0 z1 z2 z3 z4 z5 y0 y1 y2 y3 y4 y5 p0 p1 p2 p3 p4 p5;rw[cv.h];refine bodyPost_ret (v:= .tuple #[.agg #[.int .i64 r.1, .int .i64 q2, .int .i64 0, .int .i64 0, .int .i64 0, .int .i64 0], .bool false, .bool true]) (by simp[results,Tryz.results102,go_sem,r0,r1,r2,r3,r4,r5];try rfl) rfl ?_;exact⟨rfl,hb⟩
   ·have bb:CH (jZ P S x k)=#[.agg #[.int .i64 a0, .int .i64 a1, .int .i64 a2, .int .i64 a3, .int .i64 a4, .int .i64 a5], .bool true, .bool true]:=by
     rw[dp.h,HT.h];unfold Jw;simp only;rw[e3.h,<-e4.h,if_pos rfl,<-f0.h];rfl
    have cv:=ao bb;clear bb;have hw:=bO (us:=[.int .i64 a0, .int .i64 a1, .int .i64 a2, .int .i64 a3, .int .i64 a4, .int .i64 a5]) bV.h rfl;have hb:=bA (us:=[.int .i64 a0, .int .i64 a1, .int .i64 a2, .int .i64 a3, .int .i64 a4, .int .i64 a5]) (i:=0) b3.h b0.h;simp only[fW] at hw hb;have HW:=ao hw;have b6:=ao hb;clear hw hb;go_wp2_with fail
    (try simp only[Exit.inBlock,Exit.then])
    obtain⟨wf,bp⟩:=Zn ((((((w3.setCell ⟨g6,0,none⟩ (.int .i64 a0)).setCell ⟨g6,0+1,none⟩ (.int .i64 a1)).setCell ⟨g6,0+1+1,none⟩ (.int .i64 a2)).setCell ⟨g6,0+1+1+1,none⟩ (.int .i64 a3)).setCell ⟨g6,0+1+1+1+1,none⟩ (.int .i64 a4)).setCell ⟨g6,0+1+1+1+1+1,none⟩ (.int .i64 a5));have hw:=HW.h;have hb:=b6.h;rw[<-bp] at hw hb;refine iv bp ?_;have r0:=hw.cell 0;have r1:=hw.cell 1;have r2:=hw.cell 2;have r3:=hw.cell 3;have r4:=hw.cell 4;have r5:=hw.cell 5;clear z0 z1 z2 z3 z4 z5 y0 y1 y2 y3 y4 y5 p0 p1 p2 p3 p4 p5;rw[cv.h];refine bodyPost_ret (v:= .tuple #[.agg #[.int .i64 a0, .int .i64 a1, .int .i64 a2, .int .i64 a3, .int .i64 a4, .int .i64 a5], .bool true, .bool true]) (by simp[results,Tryz.results102,go_sem,r0,r1,r2,r3,r4,r5];try rfl) rfl ?_;exact⟨rfl,hb⟩
theorem Tryz.Ss:(Tryz.prog.info? 186).map (fun i=>(i.zero,i.size,i.bytes))=some (some (.agg #[Iz 0,Iz 0, .bool false, .slice none 0 0]),4,48):=by kernel_rfl
theorem WE:kA Tryz.prog 127 186 (.agg #[Iz 0,Iz 0, .bool false, .slice none 0 0]) 4 48:=
 ⟨Tryz.underlying127,let ⟨i,h,D,I,J⟩:=info_parts Tryz.Ss;⟨i,h,D,I,J⟩,rfl,ae,ae⟩
structure zJ where
 st:jz
 A:Option Addr
 c:Nat
variable {L:List zJ} {y:zJ}
def zJ.v (y:zJ):Value:= .slice y.A y.st.U.length y.c
def zJ.cells (y:zJ):List Value:=[Iz y.st.ag,Iz y.st.aw, .bool y.st.imp,y.v]
theorem zJ.bG (y:zJ):y.cells.length=4:=rfl
def uI (L:List zJ):List Value:=L.flatMap zJ.cells
theorem Jy (L:List zJ) (y:zJ):uI (L++[y])=uI L++y.cells:=by simp[uI]
structure vu (B:Nat) (w:World) (Gm:Nat→Prop) (v:Value) (L:List zJ):Prop where
 row:w.ownsRow B 186 4 v L.length (uI L)
 off:∀g,v.ownBlock=some g→¬Gm g
 fl:∀y∈L,w.ownsRow B 240 6 y.v y.st.U.length (gW y.st.U)∧∀g,y.v.ownBlock=some g→¬Gm g
theorem vu.same {D:Nat->Prop} {v:Value} (h:vu B w Gm v L) (hs:∀g,g<w.heap.size->¬Gm g->w'.heap[g]?=w.heap[g]?) (hG:∀g,D g->Gm g\/w.heap.size<=g):vu B w' D v L:=
 ⟨aX h.row fun g hg=>hs g (h.row.lt g hg).2 (h.off g hg),fun g hg O=>by rcases hG g O with I|I;exact h.off g hg I;have:=(h.row.lt g hg).2;omega,
  fun y J=>⟨aX (h.fl y J).1 fun g hg=>hs g ((h.fl y J).1.lt g hg).2 ((h.fl y J).2 g hg),fun g hg O=>by rcases hG g O with I|I;exact(h.fl y J).2 g hg I;have:=((h.fl y J).1.lt g hg).2;omega⟩⟩
structure GD (P:PD) (x k:Nat) (st:jz):Prop where
 fy:P.fy x st.ag=0
 real:st.imp=false→∀f∈st.U,f.inst=x
 inst:∀f∈st.U,f.inst<P.count∧f.k<2
 len:st.U.length≤500
theorem uJ:∀{es:List dn} {cs:List Int} {f:fG},f∈dC x k p es cs->f.inst=x/\f.k=k/\f.ag=p
 |[],_,f,h=>by simp[dC] at h
 |_::_,[],f,h=>by simp[dC] at h
 |e::es,c::cs,f,h=>by
  unfold dC at h
  split at h
  ·rcases a9.1 h with rfl|h
   ·exact⟨rfl,rfl,rfl⟩
   ·exact uJ h
  ·exact uJ h
theorem qG {f:fG} (h:f∈(bM P S x k q).2):f.inst=x/\f.k=k:=by
 unfold bM at h
 split at h
 ·cases h
 ·split at h
  ·cases h
  ·have:=uJ h
   exact⟨this.1,this.2.1⟩
theorem uK (h:∀M,S[x]?=some M->EE M):(bM P S x k q).2.length<=250:=by
 unfold bM
 split
 ·exact aB _
 ·rename_i M D
  split
  ·exact aB _
  ·rename_i r l hs
   refine aF (sK _ _) ?_;exact((h M D).lvl (k:=k) (r:=r) (by rw[hs];simp)).2.1
structure VT (w w':World) (G R:Nat→Prop) (s:Nat) (P:PD) (res:Sm×List jz×Int) (v:Value) (L:List zJ) (G':Nat→Prop) (aw:Int) (x k:Nat):Prop where
 map:L.map (·.st)=res.2.1
 steps:vu w.heap.size w' G' v L
 st:dR w' G' R s P res.1
 lv:Lv G w w'
 sub:∀j,G' j→G j∨qO w w' j
 l0:0≤res.2.2
 qs:∀y∈L,1≤y.st.aw
 sm:(L.map (·.st.aw)).sum+res.2.2=aw
 ok:∀y∈L,GD P x k y.st
structure PJ (w wr:World) (G0 R0:Nat→Prop) (s:Nat) (P:PD) (S:Sm) (x k:Nat) (ag aw:Int) (v:Value) (q1:Int) (Gm:Nat→Prop) (S1:Sm) (f:Nat) (L:List zJ):Prop where
 st:dR wr Gm R0 s P S1
 steps:vu w.heap.size wr Gm v L
 lv:Lv G0 w wr
 sub:∀j,Gm j→G0 j∨qO w wr j
 q0:0≤q1
 qq:q1≤aw
 fu:q1.toNat≤f
 len:(L.length:Int)≤aw - q1
 qs:∀y∈L,1≤y.st.aw
 sm:(L.map (·.st.aw)).sum+q1=aw
 ok:∀y∈L,GD P x k y.st
 eq:dV P aw.toNat S x k ag aw=((dV P f S1 x k ag q1).1,L.map (·.st)++(dV P f S1 x k ag q1).2.1,(dV P f S1 x k ag q1).2.2)
theorem PK (h:q<=0):dV P f S x k ag q=(S,[],q):=by
 cases f with
 |zero=>rfl
 |succ f=>rw[dV,if_pos h]
theorem PL (h:jZ P S x (1 - k)=none):dV P f S x k ag q=(S,[],q):=by
 cases f with
 |zero=>rfl
 |succ f=>
  rw[dV]
  split
  ·rfl
  ·rw[h]
theorem St (h:jZ P S x (1 - k)=some (p,a,im)) (hg:lp k ag p=false):dV P f S x k ag q=(S,[],q):=by
 cases f with
 |zero=>rfl
 |succ f=>
  rw[dV]
  split
  ·rfl
  ·rw[h]
   simp only[hg,dm,if_false]
theorem Uz (hq:0<q) (h:jZ P S x (1 - k)=some (p,a,im)) (hg:lp k ag p=true):
  dV P (f+1) S x k ag q=((dV P f (dA P S x (1 - k) im (min q a)).1 x k ag (q - min q a)).1,⟨p,min q a,im.isSome,(dA P S x (1 - k) im (min q a)).2⟩::(dV P f (dA P S x (1 - k) im (min q a)).1 x k ag (q - min q a)).2.1,(dV P f (dA P S x (1 - k) im (min q a)).1 x k ag (q - min q a)).2.2):=by
 rw[dV,if_neg ae,h];simp only[hg,if_true]
theorem PJ.done {v:Value} (h:PJ w wr G0 R0 s P S x k ag aw v q1 Gm S1 f L)
  (he:dV P f S1 x k ag q1=(S1,[],q1)) (J:∀j,G0 j->G j) (hR:∀j,R0 j->R j):VT w wr G R s P (dV P aw.toNat S x k ag aw) v L Gm aw x k/\(dV P aw.toNat S x k ag aw).2.2=q1:=by
 have e:=h.eq;rw[he] at e;simp only[fe] at e;rw[e];exact⟨⟨rfl,h.steps,h.st.mono (fun j D _=>D) hR,h.lv.mono fun j D=> .inl (J j D),fun j D=>by rcases h.sub j D with I|I;exact .inl (J j I);exact .inr I,h.q0,h.qs,h.sm,h.ok⟩,rfl⟩
theorem PJ.below {wr':World} {v:Value} (h:PJ w wr G0 R0 s P S x k ag aw v q1 Gm S1 f L) (D:Bz wr wr'):PJ w wr' G0 R0 s P S x k ag aw v q1 Gm S1 f L:=
 ⟨h.st.below D,h.steps.same (fun g hg _=>D.block g hg) fun g hg=> .inl hg,h.lv.cV D,fun j J=>by rcases h.sub j J with I|⟨I,O⟩;exact .inl I;exact .inr ⟨I,aA O D.size⟩,h.q0,h.qq,h.fu,h.len,h.qs,h.sm,h.ok,h.eq⟩
theorem dR.xX (h:dR w G R s P S) (J:S[x]?=some M):EE M:=by
 obtain⟨C,O,_⟩:=h;have I:x<P.count:=by rw[<-O.sn];exact(az.1 J).1
 obtain⟨b,M',_,D,h5⟩:=O.book I;rw[J] at D;injection D with D;subst D;exact h5.ok
theorem dR.pr (h:dR w G R s P S):∀(x k:Nat) (M:BM) (r:iQ),S[x]?=some M->r∈M.side k->P.fy x r.1=0:=by
 obtain⟨C,D,_⟩:=h;exact D.pr
theorem CJ (s:Nat) (P:PD) (S:Sm) (G R:Nat->Prop) (x k:Nat) (sd p q0 q:Int) (w:World) (h:dR w G R s P S) (ht:lU S x k=some (p,q0)) (hk:k<2) (D:sd=(k:Int)+1) (hq:1<=q) (ax:q<=q0):
  Wz 105 #[Pz s, .agg #[Iz (x:Int),Iz sd],Iz q] w fun e w'=> ∃A c I,e= .returned (.slice A (bM P S x k q).2.length c)/\CD w w' G R s P (bM P S x k q).1 (bM P S x k q).2 A c I/\(bM P S x k q).2≠[]/\(bM P S x k q).2.length<=250:=by
 obtain⟨M,r,l,J,hs,h1,h2⟩:=oE ht;refine(PE s P S G R x k M r l sd q w h J hs hk D ae ae).mono ?_;rintro e w'⟨A,c,I,h3,h4⟩;have O:=uH h.right (h.xX J) J hs hq ae;exact⟨A,c,I,h3,h4,O.1,O.2⟩
theorem pW (h:jZ P S x k=some (p,q,im)):
  (im=none/\lU S x k=some (p,q))\/∃Q,im=some Q/\Q∈mG P.n (lU S) x k/\P.fy x Q.ag=0/\p=Q.ag/\q=Q.aw:=by
 rw[CG] at h;unfold Jw at h
 cases ht:lU S x k with
 |none=>
  cases D:nF k (iq P (lU S) x k) with
  |none=>rw[ht,D] at h;cases h
  |some Q=>
   rw[ht,D] at h;simp only[gf,Prod.mk.injEq] at h;obtain⟨I,J,O⟩:=h;obtain⟨h4,h5⟩:=qF (vt D);exact .inr ⟨Q,O.symm,h4,h5,I.symm,J.symm⟩
 |some r=>
  cases D:nF k (iq P (lU S) x k) with
  |none=>
   rw[ht,D] at h;simp only[gf,Prod.mk.injEq] at h;obtain⟨I,J,O⟩:=h;exact .inl ⟨O.symm,by rw[<-I,<-J]⟩
  |some Q=>
   rw[ht,D] at h;simp only at h
   split at h
   ·simp only[gf,Prod.mk.injEq] at h
    obtain⟨I,J,O⟩:=h;obtain⟨h4,h5⟩:=qF (vt D);exact .inr ⟨Q,O.symm,h4,h5,I.symm,J.symm⟩
   ·simp only[gf,Prod.mk.injEq] at h
    obtain⟨I,J,O⟩:=h;exact .inl ⟨O.symm,by rw[<-I,<-J]⟩
theorem dR.WG (h:dR w G R s P S) (O:lU S x k=some (p,q)):1<=q/\q<=250000000:=by
 obtain⟨M,r,l,hM,hs,h1,h2⟩:=oE O;have hr:r∈M.side k:=by rw[hs];simp
 have D:=h.xX hM;obtain⟨h6,h7,J⟩:=D.lvl hr;have h9:=Gh fun e he=>⟨(J e he).1,(J e he).2.1⟩;have I:r.2≠[]:=by
  unfold BM.side at hr
  split at hr
  ·exact D.XL r hr
  ·exact D.Ol r hr
 have:1<=r.2.length:=by cases hc:r.2 with|nil=>exact absurd hc I|cons a b=>simp
 omega
theorem UA (hP:P.gZ) (hl:S.length=P.count) (J:∀(x:Nat) (M:BM),S[x]?=some M->EE M) (O:∀(x k:Nat) (M:BM) (r:iQ),S[x]?=some M->r∈M.side k->P.fy x r.1=0)
  (hx:x<P.count) (hk:k<2) (h:jZ P S x (1 - k)=some (p,a,im)):GD P x k ⟨p,t,im.isSome,(dA P S x (1 - k) im t).2⟩:=by
 rcases pW h with⟨rfl,ht⟩|⟨Q,rfl,hQ,hw,rfl,rfl⟩
 ·obtain⟨M,r,l,D,hs,h1,I⟩:=oE ht
  refine⟨?_,fun _ f hf=>(qG (show f∈(bM P S x (1 - k) t).2 from hf)).1,fun f hf=>?_,?_⟩
  ·show P.fy x p=0
   rw[<-h1];exact O x (1 - k) M r D (by rw[hs];simp)
  ·have:=qG (show f∈(bM P S x (1 - k) t).2 from hf)
   exact⟨ae,ae⟩
  ·show(bM P S x (1 - k) t).2.length<=500
   exact aF (uK fun M D=>J x M D) ae
 ·have hq:=hP.quote hx (by omega:1 - k<2) hQ
  obtain⟨p0,q0,p1,q1,h0,h1,_⟩:=hq.t;obtain⟨M0,_,_,ax,_⟩:=oE h0;obtain⟨M1,_,_,ay,_⟩:=oE h1;have l0:=(az.1 ax).1;have l1:=(az.1 ay).1;refine⟨hw,fun h=>(by cases h),fun f hf=>?_,?_⟩
  ·have a0:f∈(bM P S Q.i0 Q.k0 t).2++(bM P (bM P S Q.i0 Q.k0 t).1 Q.i1 Q.k1 t).2:=hf
   rcases aJ.1 a0 with I|I
   ·have:=qG I
    exact⟨ae,this.2▸hq.k0⟩
   ·have:=qG I
    exact⟨ae,this.2▸hq.k1⟩
  ·show((bM P S Q.i0 Q.k0 t).2++(bM P (bM P S Q.i0 Q.k0 t).1 Q.i1 Q.k1 t).2).length<=500
   rw[aC];have e1:(bM P S Q.i0 Q.k0 t).2.length<=250:=uK fun M D=>J _ M D;have e2:(bM P (bM P S Q.i0 Q.k0 t).1 Q.i1 Q.k1 t).2.length<=250:=uK fun M D=>by
    rw[yN (Ne.symm hq.ne)] at D;exact J _ M D
   omega
structure nY (wq wx:World) (Gm R0:Nat→Prop) (s:Nat) (P:PD) (S':Sm) (fl:List fG) (g16:Nat) (p t:Int) (imp:Bool) (A:Option Addr) (c:Nat) (Gn:Nat→Prop):Prop where
 st:dR wx Gn R0 s P S'
 own:wx.ownsRow wq.heap.size 240 6 (.slice A fl.length c) fl.length (gW fl)
 D:aE wx g16 186 #[Iz p,Iz t, .bool imp, .slice A fl.length c]
 lv:Lv (fun j=>Gm j∨j=g16) wq wx
 sub:∀j,Gn j→Gm j∨qO wq wx j
 off:∀g,(Value.slice A fl.length c).ownBlock=some g→¬Gn g
theorem mr (l:List fG):(gW l).length=l.length*6:=dX fG.bG l
theorem LR (l m:List fG):gW (l++m)=gW l++gW m:=by simp[gW]
theorem Fp (l:List fG):∀u∈gW l,u.oneCell'=true:=tJ (fun f u hu=>by
 simp only[fG.cells,a9,xd,or_false] at hu;rcases hu with rfl|rfl|rfl|rfl|rfl|rfl<;>rfl) l
theorem nY.more {wq w4 w5 w6:World} {a6:Sm} {fl J:List fG} {I:Nat} {imp:Bool} {c:Nat} {Gn G':Nat->Prop} 
  (h:nY wq w3 Gm R0 s P S' fl I p t imp A c Gn) (b4:Bz w3 w4) (hT:CD w4 w5 Gn R0 s P a6 J A' c' G') (a0:lJ w5 wq.heap.size 240 6 (.slice A fl.length c) (fl.length+J.length) (gW fl++gW J) A2 c2 w6)
  (hg:I<wq.heap.size) (bh:∀j,Gm j->j<wq.heap.size) (a7:¬Gm I) (hR:∀j,R0 j->j<wq.heap.size/\j≠I):
  nY wq (w6.setCell ⟨I,3,none⟩ (.slice A2 (fl++J).length c2)) Gm R0 s P a6 (fl++J) I p t imp A2 c2 G':=by
 have hl:(fl++J).length=fl.length+J.length:=aC ..;have bE:=h.lv.size;have bH:=b4.size;have bQ:=hT.lv.size;have bp:w5.heap.size<=w6.heap.size:=a0.grown.size;have ay:∀g,(Value.slice A fl.length c).ownBlock=some g->wq.heap.size<=g/\g<w3.heap.size:=fun g hg=>h.own.lt g hg;have a4:∀j,G' j->j<w5.heap.size:=fun j hj=>by
  rcases hT.sub j hj with O|⟨O,h2⟩
  ·rcases h.sub j O with h3|⟨h3,h4⟩
   ·have:=bh j h3;omega
   ·omega
  ·exact h2
 have a8:∀j,G' j->(Value.slice A fl.length c).ownBlock≠some j:=fun j hj he=>by
  rcases hT.sub j hj with O|⟨O,h2⟩
  ·exact h.off j he O
  ·have:=ay j he;omega
 have ba:∀j,G' j->j≠I:=fun j hj he=>by
  subst he;rcases hT.sub j hj with O|⟨O,h2⟩
  ·rcases h.sub j O with h3|⟨h3,h4⟩
   ·exact a7 h3
   ·omega
  ·omega
 have a5:¬Gn I:=fun O=>by
  rcases h.sub _ O with h3|⟨h3,h4⟩
  ·exact a7 h3
  ·omega
 have a2:aE w5 I 186 #[Iz p,Iz t, .bool imp, .slice A fl.length c]:=(h.D.below b4).lv hT.lv a5;have bb:=a2.block (a0.grown.block I a2.lt fun e=>cA (ay I e.symm));have bc:w6.ownsRow wq.heap.size 240 6 (.slice A2 (fl++J).length c2) (fl++J).length (gW (fl++J)):=by rw[hl,LR];exact a0.own
 have a3:∀g,(Value.slice A2 (fl++J).length c2).ownBlock=some g->g≠I/\¬G' g:=fun g ax=>by
  rw[hl] at ax;rcases a0.jV with O|O
  ·rw[O] at ax
   exact⟨fun e=>cA (ay g ax),fun h2=>a8 g h2 ax⟩
  ·have h3:(Value.slice A2 (fl.length+J.length) c2).ownBlock=some g:=ax
   rw[O] at h3;injection h3 with h3;exact⟨fun e=>ae,fun h2=>cA (a4 g h2)⟩
 refine⟨?_,aX bc fun g ax=>av _ _ _ _ (a3 g ax).1,bb.set 3 _,?_,fun j hj=>?_,fun g ax=>(a3 g ax).2⟩
 ·refine hT.st.same (fun j hj bf=>?_) (by simp;exact bp)
  have bt:j≠I:=by
   rcases bf with O|O
   ·exact ba j O
   ·exact(hR j O).2
  rw[av _ _ _ _ bt];refine a0.grown.block j hj fun e=>?_;rcases bf with O|O
  ·exact a8 j O e.symm
  ·have:=ay j e.symm;have:=(hR j O).1;omega
 ·have l1:Lv (fun j=>Gm j\/j=I) wq w4:=h.lv.cV b4
  have l2:=l1.trans hT.lv fun j hj=>by
   rcases h.sub j hj with h3|⟨h3,h4⟩
   ·exact .inl (.inl h3)
   ·exact .inr h3
  have l3:=l2.trans (Lv.dy (F:=fun j=>(Value.slice A fl.length c).ownBlock=some j) a0.grown fun j hj=> .inl hj) fun j hj=> .inr (ay j hj).1;exact l3.setCell (p:=⟨I,3,none⟩) (.inr rfl) _
 ·have hz:(w6.setCell ⟨I,3,none⟩ (.slice A2 (fl++J).length c2)).heap.size=w6.heap.size:=bT
  rcases hT.sub j hj with O|⟨O,h2⟩
  ·rcases h.sub j O with h3|⟨h3,h4⟩
   ·exact .inl h3
   ·exact .inr ⟨h3,ae⟩
  ·exact .inr ⟨ae,ae⟩
theorem LV (h:jZ P S x k=some (p,a,im)):∃l0 l1 l2 J:Int,CH (some (p,a,im))=#[.agg #[Iz p,Iz a,Iz l0,Iz l1,Iz l2,Iz J], .bool im.isSome, .bool true]/\∀Q,im=some Q->l0=(Q.i0:Int)/\l1=(Q.k0:Int)+1/\l2=(Q.i1:Int)/\J=(Q.k1:Int)+1:=by
 cases im with
 |none=>exact⟨0,0,0,0,rfl,fun Q D=>by cases D⟩
 |some Q=>
  rcases pW h with⟨I,_⟩|⟨O,I,_,_,h2,h3⟩
  ·cases I
  ·injection I with I
   subst I;exact⟨_,_,_,_,by rw[h2,h3];rfl,fun O D=>by injection D with D;subst D;exact⟨rfl,rfl,rfl,rfl⟩⟩
theorem Tryz.YO (a b c d:Int) (w:World):(Instr.index 176 (.agg #[Iz a,Iz b,Iz c,Iz d]) (Iz 0)).run Tryz.prog w= .ok (.agg #[Iz a,Iz b]) w:=by kernel_rfl
theorem Tryz.YP (a b c d:Int) (w:World):(Instr.index 176 (.agg #[Iz a,Iz b,Iz c,Iz d]) (Iz 1)).run Tryz.prog w= .ok (.agg #[Iz c,Iz d]) w:=by kernel_rfl
def PM (Q:Qt) (i:Nat):Nat:=if i=0 then Q.i0 else Q.i1
def PN (Q:Qt) (i:Nat):Nat:=if i=0 then Q.k0 else Q.k1
def qR (P:PD) (S:Sm) (Q:Qt) (t:Int) (i:Nat):Sm×List fG:=if i=0 then (S,[]) else if i=1 then bM P S Q.i0 Q.k0 t else dA P S Q.i0 Q.k0 (some Q) t
theorem Ft (P:PD) (S:Sm) (Q:Qt) (t:Int) {i:Nat} (hi:i<2):qR P S Q t (i+1)=((bM P (qR P S Q t i).1 (PM Q i) (PN Q i) t).1,(qR P S Q t i).2++(bM P (qR P S Q t i).1 (PM Q i) (PN Q i) t).2):=by
 obtain rfl|rfl:i=0\/i=1:=ae
 ·simp[qR,PM,PN]
 ·simp[qR,PM,PN,dA]
theorem PO {y m:Nat} (h:y≠x):lU (bM P S x k q).1 y m=lU S y m:=by
 unfold lU;rw[yN h]
def WH (w w':World) (G R:Nat→Prop) (s:Nat) (P:PD) (res:Sm×List jz×Int) (aw:Int) (x k:Nat) (e:Ending):Prop:=
 ∃A c L G',e= .returned (.tuple #[.slice A L.length c,Iz res.2.2])∧VT w w' G R s P res (.slice A L.length c) L G' aw x k
theorem GF (s:Nat) (P:PD) (S:Sm) (G R:Nat->Prop) (x k:Nat) (sd ag aw:Int) (w:World) (h:dR w G R s P S) (hx:x<P.count) (hk:k<2) (f2:sd=(k:Int)+1) (hq:1<=aw/\aw<=1000000):
  Wz 64 #[Pz s,Iz (x:Int),Iz sd,Iz ag,Iz aw] w fun e w'=>WH w w' G R s P (dV P aw.toNat S x k ag aw) aw x k e:=by
 have ef:1<=sd/\sd<=2:=by omega
 obtain⟨gT,f3⟩:=hq;have hR:=h.right;obtain⟨G0,eg⟩:=Zn (fun k=>G k/\k<w.heap.size:Nat->Prop);obtain⟨R0,eA⟩:=Zn (fun k=>R k/\k<w.heap.size:Nat->Prop);have h0:dR w G0 R0 s P S:=by
  obtain⟨C,hS,g4,g6,g7⟩:=h;exact⟨C,hS,fun k hk=>by rw[eg];exact⟨g4 k hk,hS.Pt k hk⟩,fun y k hk=>by rw[eg];exact⟨g6 y k hk,hS.NG y k hk⟩,fun k hk=>by rw[eA];exact⟨g7 k hk,hS.Ps k hk⟩⟩
 have gG:∀j,G0 j->G j:=fun j hj=>by rw[eg] at hj;exact hj.1
 have gR:∀j,R0 j->R j:=fun j hj=>by rw[eA] at hj;exact hj.1
 have gl:∀j,G0 j->j<w.heap.size:=fun j hj=>by rw[eg] at hj;exact hj.2
 have rl:∀j,R0 j->j<w.heap.size:=fun j hj=>by rw[eA] at hj;exact hj.2
 obtain⟨H,H0,HR,GG,GR,GL,RL,HX,eL⟩:=QG h h0 hR gG gR gl rl hx f2;clear h h0 hR gG gR gl rl eg eA f2
 go_enter Tryz.func64,Tryz.ntmps64
 go_wp2_with fail;refine(Fl s P S G R x sd aw w H.h hx ef ⟨gT,f3⟩).mono ?_;rintro e u⟨rfl,rfl⟩;go_wp2_with fail
 go_loopw [4,12] (fun qv v wr=> ∃q1:Int,qv= Iz q1/\q1<=1000000/\0<=q1/\Hid (∃A c Gm S1 f L,v= .slice A L.length c/\PJ w wr G0 R0 s P S x k ag aw v q1 Gm S1 f L)) (fun qv _ _=>(intOf qv).toNat)
 case atStart=>exact⟨aw,rfl,f3,by omega,ao ⟨none,0,G0,S,aw.toNat,[],rfl,H0.h,⟨aM _ _ _ _,fun g hg=>by simp[Value.ownBlock] at hg,fun y hy=>by cases hy⟩,Lv.refl _ _,fun j hj=> .inl hj,by omega,cM _,af _,by simp,(fun y hy=>by cases hy),by simp,(fun y hy=>by cases hy),by simp⟩⟩
 case round=>
  obtain⟨q1,rfl,ia,ih,HI⟩:=hrel;obtain⟨A,c,Gm,S1,f,L,rfl,hI⟩:=HI.h;have a0:=ao hI;clear HI hI
  by_cases f4:0<q1
  ·go_wp2_with fail
   refine(wV sd wr ef).mono ?_;rintro e u⟨rfl,rfl⟩;go_wp2_with fail;refine(PI s P S1 Gm R0 x (1 - k) (3 - sd) wr a0.h.st HX.h (by omega) (by have:=eL.h;omega)).mono ?_;rintro e w1⟨rfl,b1⟩
   cases ei:jZ P S1 x (1 - k) with
   |none=>
    obtain⟨b6,g9⟩:=dF ei b1;clear ei b1;simp only[CH];go_wp2_with fail
    go_ret2
    have hd:=(a0.h.below (au g9.h (.cells #[Iz 0,Iz 0,Iz 0,Iz 0,Iz 0,Iz 0] 178))).done (PL b6.h) GG.h GR.h;refine⟨A,c,L,Gm,by rw[hd.2];rfl,hd.1⟩
   |some r=>
    obtain⟨p,a,im⟩:=r;obtain⟨l0,l1,l2,l3,hv,eI⟩:=LV ei;rw[hv];obtain⟨ib,eM⟩:=Zn im.isSome;rw[<-eM];obtain⟨w2,eB⟩:=Zn (w1.alloc (.cells #[Iz p,Iz a,Iz l0,Iz l1,Iz l2,Iz l3] 178));obtain⟨b7,d6⟩:=Zn w1.heap.size;have f5:=Zq eB d6;have B2:Bz wr w2:=by rw[eB];exact au b1 _
    have hb:Hid (wr.heap.size<=w1.heap.size):=ao b1.size;obtain⟨b6,f6,eC,d7,bE⟩:=rU ei eI eM f5 B2;clear ei eI hv eM f5 B2 b1;go_wp2_with fail;rw[<-eB,<-d6];have eN:=ao d6;clear eB d6;refine(Fk sd ag p k w2 hk eL.h).mono ?_;rintro e u⟨rfl,rfl⟩;obtain⟨z,ez⟩:=Zn (lp k ag p);rw[<-ez];have EZ:=ao ez;clear ez
    cases z
    ·go_wp2_with fail
     go_ret2
     have hd:=(a0.h.below bE.h).done (St b6.h EZ.h.symm) GG.h GR.h;refine⟨A,c,L,Gm,by rw[hd.2];rfl,hd.1⟩
    ·have hl:1<=a/\a<=250000000:=by
      rcases pW b6.h with⟨_,O⟩|⟨Q,_,O,_,_,h2⟩
      ·exact a0.h.st.WG O
      ·obtain⟨p0,b0,p1,b1,h3,h4,h5,_⟩:=(HR.h.quote HX.h (by omega) O).t
       have h6:=a0.h.st.WG h3;have h7:=a0.h.st.WG h4;omega
     obtain⟨a1,a2⟩:=hl;obtain⟨t,et⟩:∃t,min q1 a=t:=⟨_,rfl⟩;have t1:1<=t:=by omega
     have t2:t<=q1:=by omega
     have t3:t<=a:=by omega
     have c0:Cz w2 b7 0 (Iz p):=d7.h.cell 0;have c1:Cz w2 b7 1 (Iz a):=d7.h.cell 1;obtain⟨wq,eD⟩:=Zn (w2.alloc (.cells #[Iz p,Iz t, .bool ib, .slice none 0 0] 186));obtain⟨I,d8⟩:=Zn w2.heap.size;have f7:=Zq eD d8;have BQ:=Zw eD;obtain⟨T,eT⟩:=Zn (dA P S1 x (1 - k) im t);obtain⟨eE,bH,eF⟩:=fY eT f7 BQ;clear eT f7 BQ
     go_upto_if 55 with(fail)
     rw[<-eD,<-d8];obtain⟨f8,a6⟩:=dF et d8;clear eD d8 et c0 c1
     go_cut [16] (fun v wx=>v= Pz I/\Hid (∃A c Gn,nY wq wx Gm R0 s P T.1 T.2 I p t ib A c Gn))
     case first=>
      cases im with
      |none=>
       obtain rfl:ib=false:=eC.h;have b9:∀j,Gm j->j<wr.heap.size:=fun j hj=>by
        rcases a0.h.sub j hj with O|O
        ·have:=GL.h j O;have:=a0.h.lv.size;omega
        ·exact O.2
       have ht:lU S1 x (1 - k)=some (p,a):=by
        rcases pW b6.h with⟨_,O⟩|⟨Q,O,_⟩
        ·exact O
        ·cases O
       have eO:w2.heap.size<=I:=by rw[a6.h];exact af _
       have d9:wr.heap.size<=w2.heap.size:=bE.h.size;have f9:¬Gm I:=fun O=>by have:=b9 _ O;omega
       have ba:Bz wr wq:=dW bE.h eF.h;obtain⟨Fs,a7⟩:=Zn (fun j=>j=I:Nat->Prop);have ay:Fs I:=by rw[a7]
       have d1:∀u,aI Fs wq.drew u->Cz u I 1 (Iz t):=fun u hu=>(hu.cell ay).trans (bH.h.cell 1);obtain⟨ho,hz,cd,ck,bQ⟩:=rU b9 ht f9 ba a7;clear b9 ht eO d9 f9 ba a7 ay;go_wp2_with fail;refine bx (R:=aI Fs) 9 [3,7,9] [0,1,2,5,6,3,4,7,8,9] (by kernel_rfl) (aI.tr _) (aI.J _) (by kernel_rfl) (fun _ _ _ _ _ h=>h) ?_;refine Yt ?_;clear d1;refine Ym fun K hK=>?_;refine(wV sd _ ef).mono ?_;rintro e u⟨rfl,rfl⟩;refine Yo hK (aI.J _ _) ?_;refine Yt ?_;refine Ym fun K hK=>?_;refine(CJ s P S1 Gm R0 x (1 - k) (3 - sd) p a t _ (a0.h.st.below (aS ck.h)) hz.h (by omega) (by have:=eL.h;omega) t1 t3).mono ?_;rintro e w5⟨A',c',G',rfl,hT, -, -⟩;have cl:=bH.h.drew.lv hT.lv cd.h;have z3:Cz w5 I 3 (.slice none 0 0):=cl.cell 3;have y3:Fz w5 I 3:=cl.frozen 3;have hh:aI Fs wq.drew w5:=fun j hj=>by
        rw[bQ.h] at hj;subst hj;exact hT.lv.block _ bH.h.lt cd.h
       have gb:∀g,(Value.slice A' (bM P S1 x (1 - k) t).2.length c').ownBlock=some g->wq.heap.size<=g:=fun g hg=>(hT.own.lt g hg).1;have fin:nY wq (w5.setCell ⟨I,3,none⟩ (.slice A' (bM P S1 x (1 - k) t).2.length c')) Gm R0 s P (bM P S1 x (1 - k) t).1 (bM P S1 x (1 - k) t).2 I p t false A' c' G':=by
        have il:=bH.h.lt;have gi:∀j,G' j->j≠I:=fun j hj e=>by
         subst e;rcases hT.sub j hj with O|⟨O,h2⟩
         ·exact cd.h O
         ·have h3:wq.heap.size<=j:=O;omega
        have gj:∀j,R0 j->j≠I:=fun j hj e=>by
         have O:=RL.h j hj;have h2:=a0.h.lv.size;have h3:=bE.h.size;have h4:=a6.h;omega
        have hB:(Value.slice A' (bM P S1 x (1 - k) t).2.length c').ownBlock≠some I:=fun hg=>by
         obtain⟨cur,hc⟩:=bY hT.own hg;exact jY cl hc (by decide) rfl
        refine⟨hT.st.same (fun j hj eP=>av _ _ _ _ (by rcases eP with O|O;exact gi j O;exact gj j O)) (by simp),aX hT.own fun g hg=>av _ _ _ _ (by intro e;have e':g=I:=e;rw[e'] at hg;exact hB hg),cl.set 3 _,?_,fun j hj=>?_,hT.off⟩
        ·exact((Lv.refl _ wq).drew.trans hT.lv fun j hj=> .inl (.inl hj)).setCell (p:=⟨I,3,none⟩) (.inr rfl) _
        ·rcases hT.sub j hj with O|⟨O,h2⟩
         ·exact .inl O
         ·exact .inr ⟨O,by simp;exact h2⟩
       obtain⟨hC,HH⟩:=dF fin hh;clear hT cl fin hh gb;refine Yo hK (HH.h) ?_;refine Yt ?_;refine Zl fun K hK=>?_;go_simp;refine Yl hK ?_;refine aT ?_;go_wp2_with fail;go_meet;exact⟨rfl,ao ⟨A',c',G',by rw[eE.h];exact hC.h⟩⟩
      |some Q=>
       obtain rfl:ib=true:=eC.h;obtain⟨e0,e1,e2,e3⟩:=f6.h Q rfl;have b9:∀j,Gm j->j<wr.heap.size:=fun j hj=>by
        rcases a0.h.sub j hj with O|O
        ·have:=GL.h j O;have:=a0.h.lv.size;omega
        ·exact O.2
       have gm:XS P.n (lU S1) x (1 - k) Q/\a=Q.aw:=by
        rcases pW b6.h with⟨O,_⟩|⟨Q',O,h2,_,_,h3⟩
        ·cases O
        ·injection O with O
         subst O;exact⟨HR.h.quote HX.h (by omega) h2,h3⟩
       have d9:wr.heap.size<=w2.heap.size:=bE.h.size;have gp:wr.heap.size<=b7:=by rw[eN.h];have:=bE.h.size;exact hb.h
       have eJ:wr.heap.size<=I:=by rw[a6.h];exact d9
       have eQ:b7≠I:=by have:=d7.h.lt;have:=a6.h;omega
       have cm:=d7.h.below eF.h;have c2:Cz wq b7 2 (Iz l0):=cm.cell 2;have c3:Cz wq b7 3 (Iz l1):=cm.cell 3;have c4:Cz wq b7 4 (Iz l2):=cm.cell 4;have c5:Cz wq b7 5 (Iz l3):=cm.cell 5;have ba:Bz wr wq:=dW bE.h eF.h;have hD:wr.heap.size<=wq.heap.size:=ba.size;have ej:w.heap.size<=wr.heap.size:=a0.h.lv.size;have ea:Hid (∀j,Gm j->j<wq.heap.size):=ao fun j hj=>by have:=b9 j hj;omega
       have cd:Hid (¬Gm I):=ao fun O=>by have:=b9 I O;omega
       have gq:Hid (∀j,R0 j->j<wq.heap.size/\j≠I):=ao fun j hj=>by have:=RL.h j hj;exact⟨by omega,by omega⟩
       have eb:Hid (I<wq.heap.size):=ao bH.h.lt;clear hD ej;obtain⟨ho,bR,hX,ck,hE,hG,hH,hJ⟩:=Dw b9 gm eJ ba e0 e1 e2 e3;clear b9 gm d9 gp eJ eQ cm ba e0 e1 e2 e3;go_wp2_with fail;clear c2 c3 c4 c5
       go_loopw [58] (fun v wx=> ∃i:Nat,i<=2/\v= Iz (i:Int)/\Hid (∃A c Gn,nY wq wx Gm R0 s P (qR P S1 Q t i).1 (qR P S1 Q t i).2 I p t true A c Gn)) (fun v _=>2 - (intOf v).toNat)
       case atStart=>exact⟨0,by omega,rfl,ao ⟨none,0,Gm,a0.h.st.below ck.h,aM _ _ _ _,bH.h,Lv.refl _ _,fun j hj=> .inl hj,fun g hg=>by simp[Value.ownBlock] at hg⟩⟩
       case round=>
        obtain⟨i,hi,rfl,HL⟩:=hrel;obtain⟨Af,cf,Gn,hF⟩:=HL.h;obtain rfl|rfl|rfl:i=0\/i=1\/i=2:=by omega
        ·have cH:(qR P S1 Q t 0).2.length<=1000:=by
          simp[qR]
         obtain⟨p0,b0,p1,b1,h3,h4,h5,_⟩:=bR.h.1.t;have eR:=bR.h.2;have cQ:lU (qR P S1 Q t 0).1 Q.i0 Q.k0=some (p0,b0):=by
          exact h3
         have ek:t<=b0:=by omega
         have el:Q.k0<2:=bR.h.1.k0;obtain⟨Si,bU⟩:=Zn ((qR P S1 Q t 0).1);obtain⟨fi,bV⟩:=Zn ((qR P S1 Q t 0).2);rw[<-bU,<-bV] at hF;rw[<-bU] at cQ;rw[<-bV] at cH;have g1:Cz wr I 1 (Iz t):=hF.D.cell 1;have g3:Cz wr I 3 (.slice Af fi.length cf):=hF.D.cell 3;obtain⟨w3,b4⟩:=Zn (wr.alloc (.cells #[Iz l0,Iz l1] 175));obtain⟨bb,bc⟩:=Zn wr.heap.size;have b5:=Zq b4 bc;have B3:=Zw b4;have a5:=hF.D.below B3;obtain⟨Fs,a7⟩:=Zn (fun j=>j=I\/j=bb:Nat->Prop);have ay:Fs I:=by rw[a7];exact .inl rfl
         have cS:Fs bb:=by rw[a7];exact .inr rfl
         have d1:∀u,aI Fs w3.drew u->Cz u I 1 (Iz t):=fun u hu=>(hu.cell ay).trans (a5.cell 1);have d3:∀u,aI Fs w3.drew u->Cz u I 3 (.slice Af fi.length cf):=fun u hu=>(hu.cell ay).trans (a5.cell 3);have d4:∀u,aI Fs w3.drew u->Cz u bb 0 (Iz l0):=fun u hu=>(hu.cell cS).trans (b5.cell 0);have d5:∀u,aI Fs w3.drew u->Cz u bb 1 (Iz l1):=fun u hu=>(hu.cell cS).trans (b5.cell 1);obtain⟨ax,eS,eU,eV,eW,eY,eZ,bf,cn,a3,bQ,bh⟩:=QN hF cQ ek el bU bV cH B3 b5 a5 a7 bc;clear hF cQ ek el bU bV cH B3 b5 a5 a7 ay cS HL hi h3 h4 h5 eR;have e4:=Tryz.YO l0 l1 l2 l3 wr;go_wp2_with fail;clear e4;rw[<-b4,<-bh.h];clear b4 bc g1 g3;refine bx (R:=aI Fs) 9 [6,7,9] [0,1,2,3,4,5,6,7,8,9] (by kernel_rfl) (aI.tr _) (aI.J _) (by kernel_rfl) (fun _ _ _ _ _ h=>h) ?_;refine Yt ?_;clear d1 d3 d4 d5;refine Ym fun K hK=>?_;have cT:=CJ s P Si Gn R0 Q.i0 Q.k0 ((Q.k0:Int)+1) p0 b0 t _ ((ax.h.st.below bf.h).drew) eS.h eV.h rfl t1 eU.h;rw[<-hE.h,<-hG.h] at cT;refine cT.mono ?_;clear cT;rintro e w5⟨A',c',G',rfl,hT,cX,dc⟩;have bp:CD w3 w5 Gn R0 s P (bM P Si Q.i0 Q.k0 t).1 (bM P Si Q.i0 Q.k0 t).2 A' c' G':=⟨hT.own,hT.st,(Lv.refl _ w3).drew.then hT.lv,hT.sub,hT.off⟩;obtain⟨fT,dp⟩:=Zn ((bM P Si Q.i0 Q.k0 t).2);rw[<-dp] at bp cX dc⊢;have a4:∀j,Gn j->j<wr.heap.size:=fun j hj=>by
          rcases ax.h.sub j hj with O|⟨O,h2⟩
          ·have:=ea.h j O;have:=ax.h.lv.size;omega
          ·exact h2
         have ct:¬Gn I:=fun O=>by
          rcases ax.h.sub _ O with h2|⟨h2,_⟩
          ·exact cd.h h2
          ·have:=eb.h;omega
         have cv:¬Gn bb:=fun O=>by have:=a4 _ O;have:=bh.h;omega
         have hh:aI Fs w3.drew w5:=fun j hj=>by
          rw[bQ.h] at hj;rcases hj with rfl|rfl
          ·exact hT.lv.block _ a3.h.lt ct
          ·exact hT.lv.block _ cn.h.lt cv
         have cF:w5.ownsRow wq.heap.size 240 6 (.slice Af fi.length cf) fi.length (gW fi):=aX (bP ax.h.own bf.h) fun g hg=>hT.lv.block g (by have:=(ax.h.own.lt g hg).2;have:=bf.h.size;show g<w3.heap.size;omega) (ax.h.off g hg);have eo:wq.heap.size<=w5.heap.size:=by have O:=ax.h.lv.size;have h2:=bf.h.size;have h3:w3.heap.size<=w5.heap.size:=bp.lv.size;omega
         have C5:=dP.cC bp.own;obtain⟨HT,HH,e5,e6,e7,e8,e9,ep⟩:=Dw bp hh cF eo C5 cX dc dp;clear hT bp hh cF eo C5 a4 ct cv cX dc dp;refine Yo hK (HH.h) ?_;refine Zm fun K hK=>?_;refine fZ LM e5.h (A:=A') (m:=fT.length) (c:=c') (news:=gW fT) _ _ rfl rfl rfl (mr fT) (by intro h0;have O:=mr fT;rw[h0] at O;simp at O;exact e8.h (aP (by omega))) e7.h (Fp fT) (by have:=e9.h;have:=eZ.h;omega) e6.h (fi.length+fT.length) _ rfl rfl ?_;intro A2 c2 w6 dS;have a8:∀g,(Value.slice Af fi.length cf).ownBlock=some g->wq.heap.size<=g/\g<wr.heap.size:=fun g hg=>ax.h.own.lt g hg;have h6:aI Fs w5 w6:=fun j hj=>by
          have dT:=hj;rw[bQ.h] at dT;have fa:j<w5.heap.size:=by
           have h3:w3.heap.size<=w5.heap.size:=HT.h.lv.size;rcases dT with rfl|rfl
           ·have:=a3.h.lt;omega
           ·have:=cn.h.lt;omega
          refine dS.grown.block j fa fun e=>?_;have hr:=a8 j e.symm;rcases dT with rfl|rfl
          ·have:=eb.h;omega
          ·have:=bh.h;omega
         have bt:=nY.more ax.h bf.h HT.h dS eb.h ea.h cd.h gq.h;have ay:Fs I:=by rw[bQ.h];exact .inl rfl
         have z3:Cz w6 I 3 (.slice Af fi.length cf):=((h6.cell ay).trans (HH.h.cell ay)).trans (a3.h.cell 3);have y3:Fz w6 I 3:=(aY (a:=⟨I,3,none⟩) (h6 I ay)).trans ((aY (a:=⟨I,3,none⟩) (HH.h I ay)).trans (a3.h.frozen 3));rw[aC] at bt;obtain⟨er,H6⟩:=dF bt h6;clear dS a8 h6 bt ay;refine Yo hK (H6.h) ?_;refine Yt ?_;refine Zl fun K hK=>?_;go_simp;refine Yl hK ?_;refine aT ?_;go_wp2_with fail;go_roundw
         case rel=>
          refine⟨1,by omega,rfl,ao ⟨A2,c2,G',?_⟩⟩;have h7:=Ft P S1 Q t (i:=0) (by omega);have ff:PM Q 0=Q.i0:=rfl;have fk:PN Q 0=Q.k0:=rfl;rw[ff,fk,<-eW.h,<-eY.h,<-ep.h] at h7;show nY wq _ Gm R0 s P (qR P S1 Q t (0+1)).1 (qR P S1 Q t (0+1)).2 I p t true A2 c2 G';rw[h7];simp only[aC];exact er.h
         case measure=>simp[intOf]
        ·have cH:(qR P S1 Q t 1).2.length<=1000:=by
          have h9:=a0.h.st;obtain⟨p0,b0,p1,b1,h3,h4,h5,_⟩:=bR.h.1.t;obtain⟨M,r,lr,hM,hs,_,h8⟩:=oE h3;have:=(uH h9.right (h9.xX hM) hM hs t1 (by have:=bR.h.2;omega)).2;show(bM P S1 Q.i0 Q.k0 t).2.length<=1000;omega
         obtain⟨p0,b0,p1,b1,h3,h4,h5,_⟩:=bR.h.1.t;have eR:=bR.h.2;have cQ:lU (qR P S1 Q t 1).1 Q.i1 Q.k1=some (p1,b1):=by
          show lU (bM P S1 Q.i0 Q.k0 t).1 Q.i1 Q.k1=_;rw[PO (Ne.symm bR.h.1.ne)];exact h4
         have ek:t<=b1:=by omega
         have el:Q.k1<2:=bR.h.1.k1;obtain⟨Si,bU⟩:=Zn ((qR P S1 Q t 1).1);obtain⟨fi,bV⟩:=Zn ((qR P S1 Q t 1).2);rw[<-bU,<-bV] at hF;rw[<-bU] at cQ;rw[<-bV] at cH;have g1:Cz wr I 1 (Iz t):=hF.D.cell 1;have g3:Cz wr I 3 (.slice Af fi.length cf):=hF.D.cell 3;obtain⟨w3,b4⟩:=Zn (wr.alloc (.cells #[Iz l2,Iz l3] 175));obtain⟨bb,bc⟩:=Zn wr.heap.size;have b5:=Zq b4 bc;have B3:=Zw b4;have a5:=hF.D.below B3;obtain⟨Fs,a7⟩:=Zn (fun j=>j=I\/j=bb:Nat->Prop);have ay:Fs I:=by rw[a7];exact .inl rfl
         have cS:Fs bb:=by rw[a7];exact .inr rfl
         have d1:∀u,aI Fs w3.drew u->Cz u I 1 (Iz t):=fun u hu=>(hu.cell ay).trans (a5.cell 1);have d3:∀u,aI Fs w3.drew u->Cz u I 3 (.slice Af fi.length cf):=fun u hu=>(hu.cell ay).trans (a5.cell 3);have d4:∀u,aI Fs w3.drew u->Cz u bb 0 (Iz l2):=fun u hu=>(hu.cell cS).trans (b5.cell 0);have d5:∀u,aI Fs w3.drew u->Cz u bb 1 (Iz l3):=fun u hu=>(hu.cell cS).trans (b5.cell 1);obtain⟨ax,eS,eU,eV,eW,eY,eZ,bf,cn,a3,bQ,bh⟩:=QN hF cQ ek el bU bV cH B3 b5 a5 a7 bc;clear hF cQ ek el bU bV cH B3 b5 a5 a7 ay cS HL hi h3 h4 h5 eR;have e4:=Tryz.YP l0 l1 l2 l3 wr;go_wp2_with fail;clear e4;rw[<-b4,<-bh.h];clear b4 bc g1 g3;refine bx (R:=aI Fs) 9 [6,7,9] [0,1,2,3,4,5,6,7,8,9] (by kernel_rfl) (aI.tr _) (aI.J _) (by kernel_rfl) (fun _ _ _ _ _ h=>h) ?_;refine Yt ?_;clear d1 d3 d4 d5;refine Ym fun K hK=>?_;have cT:=CJ s P Si Gn R0 Q.i1 Q.k1 ((Q.k1:Int)+1) p1 b1 t _ ((ax.h.st.below bf.h).drew) eS.h eV.h rfl t1 eU.h;rw[<-hH.h,<-hJ.h] at cT;refine cT.mono ?_;clear cT;rintro e w5⟨A',c',G',rfl,hT,cX,dc⟩;have bp:CD w3 w5 Gn R0 s P (bM P Si Q.i1 Q.k1 t).1 (bM P Si Q.i1 Q.k1 t).2 A' c' G':=⟨hT.own,hT.st,(Lv.refl _ w3).drew.then hT.lv,hT.sub,hT.off⟩;obtain⟨fT,dp⟩:=Zn ((bM P Si Q.i1 Q.k1 t).2);rw[<-dp] at bp cX dc⊢;have a4:∀j,Gn j->j<wr.heap.size:=fun j hj=>by
          rcases ax.h.sub j hj with O|⟨O,h2⟩
          ·have:=ea.h j O;have:=ax.h.lv.size;omega
          ·exact h2
         have ct:¬Gn I:=fun O=>by
          rcases ax.h.sub _ O with h2|⟨h2,_⟩
          ·exact cd.h h2
          ·have:=eb.h;omega
         have cv:¬Gn bb:=fun O=>by have:=a4 _ O;have:=bh.h;omega
         have hh:aI Fs w3.drew w5:=fun j hj=>by
          rw[bQ.h] at hj;rcases hj with rfl|rfl
          ·exact hT.lv.block _ a3.h.lt ct
          ·exact hT.lv.block _ cn.h.lt cv
         have cF:w5.ownsRow wq.heap.size 240 6 (.slice Af fi.length cf) fi.length (gW fi):=aX (bP ax.h.own bf.h) fun g hg=>hT.lv.block g (by have:=(ax.h.own.lt g hg).2;have:=bf.h.size;show g<w3.heap.size;omega) (ax.h.off g hg);have eo:wq.heap.size<=w5.heap.size:=by have O:=ax.h.lv.size;have h2:=bf.h.size;have h3:w3.heap.size<=w5.heap.size:=bp.lv.size;omega
         have C5:=dP.cC bp.own;obtain⟨HT,HH,e5,e6,e7,e8,e9,ep⟩:=Dw bp hh cF eo C5 cX dc dp;clear hT bp hh cF eo C5 a4 ct cv cX dc dp;refine Yo hK (HH.h) ?_;refine Zm fun K hK=>?_;refine fZ LM e5.h (A:=A') (m:=fT.length) (c:=c') (news:=gW fT) _ _ rfl rfl rfl (mr fT) (by intro h0;have O:=mr fT;rw[h0] at O;simp at O;exact e8.h (aP (by omega))) e7.h (Fp fT) (by have:=e9.h;have:=eZ.h;omega) e6.h (fi.length+fT.length) _ rfl rfl ?_;intro A2 c2 w6 dS;have a8:∀g,(Value.slice Af fi.length cf).ownBlock=some g->wq.heap.size<=g/\g<wr.heap.size:=fun g hg=>ax.h.own.lt g hg;have h6:aI Fs w5 w6:=fun j hj=>by
          have dT:=hj;rw[bQ.h] at dT;have fa:j<w5.heap.size:=by
           have h3:w3.heap.size<=w5.heap.size:=HT.h.lv.size;rcases dT with rfl|rfl
           ·have:=a3.h.lt;omega
           ·have:=cn.h.lt;omega
          refine dS.grown.block j fa fun e=>?_;have hr:=a8 j e.symm;rcases dT with rfl|rfl
          ·have:=eb.h;omega
          ·have:=bh.h;omega
         have bt:=nY.more ax.h bf.h HT.h dS eb.h ea.h cd.h gq.h;have ay:Fs I:=by rw[bQ.h];exact .inl rfl
         have z3:Cz w6 I 3 (.slice Af fi.length cf):=((h6.cell ay).trans (HH.h.cell ay)).trans (a3.h.cell 3);have y3:Fz w6 I 3:=(aY (a:=⟨I,3,none⟩) (h6 I ay)).trans ((aY (a:=⟨I,3,none⟩) (HH.h I ay)).trans (a3.h.frozen 3));rw[aC] at bt;obtain⟨er,H6⟩:=dF bt h6;clear dS a8 h6 bt ay;refine Yo hK (H6.h) ?_;refine Yt ?_;refine Zl fun K hK=>?_;go_simp;refine Yl hK ?_;refine aT ?_;go_wp2_with fail;go_roundw
         case rel=>
          refine⟨2,by omega,rfl,ao ⟨A2,c2,G',?_⟩⟩;have h7:=Ft P S1 Q t (i:=1) (by omega);have ff:PM Q 1=Q.i1:=rfl;have fk:PN Q 1=Q.k1:=rfl;rw[ff,fk,<-eW.h,<-eY.h,<-ep.h] at h7;show nY wq _ Gm R0 s P (qR P S1 Q t (1+1)).1 (qR P S1 Q t (1+1)).2 I p t true A2 c2 G';rw[h7];simp only[aC];exact er.h
         case measure=>simp[intOf]
        ·have ax:=ao hF
         clear hF HL hi;go_wp2_with fail;go_meet;refine⟨rfl,ao ⟨Af,cf,Gn,?_⟩⟩;rw[eE.h];exact ax.h
     obtain⟨rfl,HF⟩:=hcut;obtain⟨A',c',Gn,hF⟩:=HF.h;obtain⟨fl,fq⟩:=Zn T.2;rw[<-fq] at hF;have b0:Cz wc I 0 (Iz p):=hF.D.cell 0;have b1:Cz wc I 1 (Iz t):=hF.D.cell 1;have b2:Cz wc I 2 (.bool ib):=hF.D.cell 2;have b3:Cz wc I 3 (.slice A' fl.length c'):=hF.D.cell 3;have ba:Bz wr wq:=dW bE.h eF.h;have gv:wr.heap.size<=w2.heap.size:=bE.h.size;have eO:wr.heap.size<=I:=by rw[a6.h];exact gv
     have ej:w.heap.size<=wr.heap.size:=a0.h.lv.size;have fx:wr.heap.size<=wq.heap.size:=ba.size;have fz:wq.heap.size<=wc.heap.size:=hF.lv.size;have eu:∀g,g<wr.heap.size->¬Gm g->wc.heap[g]?=wr.heap[g]?:=fun g hg hn=>(hF.lv.block g (by omega) (by rintro(O|O);exact hn O;omega)).trans (ba.block g hg);have gx:vu w.heap.size wc Gn (.slice A L.length c) L:=a0.h.steps.same eu fun g hg=>by
      rcases hF.sub g hg with O|⟨O,h2⟩
      ·exact .inl O
      ·exact .inr (by omega)
     have iF:L.length<=1000000:=by have:=a0.h.len;have:=a0.h.q0;omega
     obtain⟨ed,d2,hL,gy,ck⟩:=rU hF gx fq (And.intro ej (And.intro fx fz)) ba;clear hF gx fq eu ba gv eO ej fx fz HF
     go_wp2_with (at_builtin
                  refine dO WE d2.h.row #[Iz p,Iz t, .bool ib, .slice A' fl.length c'] rfl _ _ rfl rfl rfl rfl (by intro u hu;simp at hu;rcases hu with rfl|rfl|rfl|rfl<;>rfl) (by omega) (by have:=gy.h;omega) ?_;intro A8 c8 w8 eK g8 b8 l8)
     obtain⟨hN,eG,hO⟩:=fY eK g8 l8;clear eK g8 b8 l8 b0 b1 b2 b3;go_roundw
     case rel=>
      obtain⟨ej,fx,fz⟩:=gy.h;have hI:=a0.h;obtain⟨f',hP⟩:∃f',f=f'+1:=⟨f - 1,by have:=hI.fu;omega⟩;obtain⟨y,ey⟩:=Zn (⟨⟨p,t,ib,T.2⟩,A',c'⟩:zJ);have fH:=hL.h;have hQ:y.cells=[Iz p,Iz t, .bool ib, .slice A' fl.length c']:=by rw[ey,fH];rfl
      have f0:(L++[y]).length=L.length+1:=by simp
      have gA:wc.heap.size<=w8.heap.size:=eG.h.size;have a8:∀g,(Value.slice A L.length c).ownBlock=some g->w.heap.size<=g/\g<wc.heap.size:=fun g hg=>d2.h.row.lt g hg;have a4:∀j,Gn j->j<wc.heap.size:=fun j hj=>by
       rcases ed.h.sub j hj with O|⟨O,h2⟩
       ·rcases hI.sub j O with h3|⟨h3,h4⟩
        ·have:=GL.h j h3;omega
        ·omega
       ·exact h2
      have gI:∀(v:Value) (n:Nat) (xs:List Value),wc.ownsRow w.heap.size 240 6 v n xs->w8.ownsRow w.heap.size 240 6 v n xs:=fun v n xs hv=>aX hv fun g hg=>eG.h.block g (hv.lt g hg).2 fun e=>by
       obtain⟨cur,hc⟩:=bY hv hg;obtain⟨hY,hU⟩:=bY d2.h.row e.symm;exact jY hc hU (by decide) rfl
      have gO:=Uz (P:=P) (f:=f') (S:=S1) (x:=x) (k:=k) (ag:=ag) f4 b6.h EZ.h.symm;rw[f8.h,<-eE.h,<-eC.h,<-hP] at gO;refine⟨q1 - t,rfl,by omega,by omega,ao ⟨A8,c8,Gn,T.1,f',L++[y],by rw[f0],?_,?_,?_,fun j hj=>?_,by omega,by have:=hI.qq;omega,by have:=hI.fu;omega,?_,?_,?_,?_,?_⟩⟩
      ·refine ed.h.st.same (fun j hj eP=>eG.h.block j hj fun e=>?_) gA
       rcases eP with O|O
       ·exact d2.h.off j e.symm O
       ·have:=RL.h j O;have:=a8 j e.symm;omega
      ·refine⟨by rw[f0,Jy,hQ];exact hN.h,fun g hg gP=>?_,fun y' ew=>?_⟩
       ·rcases hO.h with O|O
        ·exact d2.h.off g (O▸hg) gP
        ·rw[O] at hg
         injection hg with hg;have:=a4 g gP;omega
       ·rcases aJ.1 ew with O|O
        ·exact⟨gI _ _ _ (d2.h.fl y' O).1,(d2.h.fl y' O).2⟩
        ·have h2:y'=y:=by simpa using O
         subst h2;have hV:y'.v= .slice A' fl.length c':=by rw[ey,fH];rfl
         have hW:y'.st.U=fl:=by rw[ey,fH]
         rw[hV,hW];exact⟨gI _ _ _ (ch ed.h.own (by omega)),ed.h.off⟩
      ·refine(((hI.lv.cV ck.h).trans ed.h.lv fun j hj=>?_).trans (Lv.dy (F:=fun j=>(Value.slice A L.length c).ownBlock=some j) eG.h fun j hj=> .inl hj) fun j hj=> .inr (a8 j hj).1)
       rcases hj with O|O
       ·rcases hI.sub j O with h2|⟨h2,_⟩
        ·exact .inl h2
        ·exact .inr h2
       ·have h2:=a6.h;have h3:=bE.h.size;exact .inr (by omega)
      ·rcases ed.h.sub j hj with O|⟨O,h2⟩
       ·rcases hI.sub j O with h3|⟨h3,h4⟩
        ·exact .inl h3
        ·exact .inr ⟨h3,by omega⟩
       ·exact .inr ⟨by omega,by omega⟩
      ·rw[f0];have:=hI.len;omega
      ·intro y' ew
       rcases aJ.1 ew with O|O
       ·exact hI.qs y' O
       ·have h2:y'=y:=by simpa using O
        subst h2;rw[show y'.st.aw=t by rw[ey]];exact t1
      ·have f1:y.st.aw=t:=by rw[ey]
       rw[cx,MR,aW,iM,f1];have:=hI.sm;simp only[cN,List.sum_nil];omega
      ·intro y' ew
       rcases aJ.1 ew with O|O
       ·exact hI.ok y' O
       ·have h2:y'=y:=by simpa using O
        subst h2;rw[show y'.st=⟨p,t,im.isSome,(dA P S1 x (1 - k) im t).2⟩ by rw[ey,eE.h,eC.h]];exact UA HR.h hI.st.len (fun x M hM=>hI.st.xX hM) hI.st.pr HX.h hk b6.h
      ·have he:=hI.eq
       rw[gO] at he;rw[he,cx,bD];have f1:y.st=⟨p,t,ib,T.2⟩:=by rw[ey]
       simp only[aW,iM,f1];rfl
     case measure=>simp[intOf];omega
  ·obtain rfl:q1=0:=by omega
   go_wp2_with fail
   go_ret2
   have hd:=a0.h.done (PK (cM 0)) GG.h GR.h;refine⟨A,c,L,Gm,by rw[hd.2];rfl,hd.1⟩
theorem Tryz.UB:(Tryz.prog.info? 133).map (fun i=>(i.zero,i.size,i.bytes))=some (some (.pointer none),1,8):=by kernel_rfl
theorem VU:kA Tryz.prog 130 133 (.pointer none) 1 8:=
 ⟨Tryz.underlying130,let ⟨i,h,D,I,J⟩:=info_parts Tryz.UB;⟨i,h,D,I,J⟩,rfl,ae,ae⟩
structure TI (w wr:World) (gc mb:Nat) (P:PD) (ma:Option Addr) (mc:Nat) (sa:Option Addr) (sc:Nat) (f:Int→Option Value) (N:Nat) (S:Sm) (n:Nat) (Ab:Option Addr) (cb:Nat) (bs:List Nat) (Fs:Nat→Nat→Prop):Prop where
 D:aE wr gc 132 (NF.cells ⟨ma,mc,sa,sc,Ab,cb,bs,Fs,mb,f⟩ P)
 row:wr.ownsRow w.heap.size 133 1 (.slice Ab bs.length cb) bs.length (zp bs)
 mp:fR wr mb f N
 len:bs.length=n
 bk:∀(x b:Nat) (M:BM),bs[x]?=some b→S[x]?=some M→cz wr (Fs x) b M
 dj:∀x y k,Fs x k→Fs y k→x=y
 off:∀x k,Fs x k→w.heap.size≤k∧k<wr.heap.size∧k≠gc∧k≠mb∧(Value.slice Ab bs.length cb).ownBlock≠some k
 lo:w.heap.size≤gc∧w.heap.size≤mb
 jm:Bz w wr
theorem LW (bs:List Nat) (b:Nat):zp (bs++[b])=zp bs++[Pz b]:=by simp[zp]
theorem TI.push {w2 w6:World} {gc mb:Nat} {f:Int->Option Value} 
  (h:TI w wr gc mb P ma mc sa sc f N S n Ab cb bs Fs) (hM:S[n]?=some M) (hb:cz w2 (qO wr w2) b M) (b2:Bz wr w2) (b3:Bz w2 w3) (O:lJ w3 w.heap.size 133 1 (.slice Ab bs.length cb) (bs.length+1) (zp bs++[Pz b]) A2 c2 w6):
  TI w (w6.setCell ⟨gc,11,none⟩ (.slice A2 (bs.length+1) c2)) gc mb P ma mc sa sc f N S (n+1) A2 c2 (bs++[b]) (fun x=>if x=n then qO wr w2 else Fs x):=by
 have hl:(bs++[b]).length=bs.length+1:=bT;have bh:=b2.size;have bp:=b3.size;have bt:w3.heap.size<=w6.heap.size:=O.grown.size;have B3:=dW b2 b3;have a7:=h.jm.size;have ay:=h.D.below B3;have a0:∀g,(Value.slice Ab bs.length cb).ownBlock=some g->w.heap.size<=g/\g<wr.heap.size:=fun g hg=>h.row.lt g hg;have a2:(Value.slice Ab bs.length cb).ownBlock≠some gc:=fun e=>by
  obtain⟨cur,hc⟩:=bY h.row e;exact jY h.D hc (by decide) rfl
 have a5:=ay.block (O.grown.block gc ay.lt fun e=>a2 e.symm);have a3:∀{cur:Array Value} {T:TypeId} {k:Nat},wr.heap[k]?=some (.cells cur T (0,0))->k≠mb:=fun {cur T k} hc e=>by
  obtain⟨D,⟨es,clock,a6,_⟩,_⟩:=h.mp;rw[e] at hc;rw[hc] at a6;cases a6
 have a8:gc≠mb:=a3 h.D;have ba:(Value.slice Ab bs.length cb).ownBlock≠some mb:=fun e=>by
  obtain⟨cur,hc⟩:=bY h.row e;exact a3 hc rfl
 have keep:∀k,k<wr.heap.size->k≠gc->(Value.slice Ab bs.length cb).ownBlock≠some k->(w6.setCell ⟨gc,11,none⟩ (.slice A2 (bs.length+1) c2)).heap[k]?=wr.heap[k]?:=fun k hk I J=>by
  rw[av _ _ _ _ I,O.grown.block k ae fun e=>J e.symm];exact B3.block k hk
 have a4:∀k,k<w2.heap.size->wr.heap.size<=k->(w6.setCell ⟨gc,11,none⟩ (.slice A2 (bs.length+1) c2)).heap[k]?=w2.heap[k]?:=fun k hk I=>by
  rw[av _ _ _ _ (show k≠gc by have:=h.D.lt;omega),O.grown.block k ae fun e=>cA (a0 k e.symm)];exact b3.block k hk
 have ax:∀g,(Value.slice A2 (bs.length+1) c2).ownBlock=some g->(Value.slice Ab bs.length cb).ownBlock=some g\/g=w3.heap.size:=fun g hg=>by
  rcases O.jV with I|I
  ·rw[I] at hg;exact .inl hg
  ·rw[I] at hg;injection hg with hg;exact .inr hg.symm
 have bE:gc<wr.heap.size:=h.D.lt;have bb:mb<wr.heap.size:=h.mp.lt;refine⟨?_,?_,h.mp.block (keep mb bb (Ne.symm a8) ba),by rw[hl,h.len],fun x b' M' I J=>?_,fun x y k I J=>?_,fun x k hk=>?_,h.lo,?_⟩
 ·have h5:=a5.set 11 (.slice A2 (bs.length+1) c2)
  rw[<-hl] at h5;rw[<-hl];exact h5
 ·rw[hl,LW]
  refine aX O.own fun g hg=>av _ _ _ _ fun e=>?_;have e':g=gc:=e;subst e';rcases ax _ hg with I|I
  ·exact a2 I
  ·omega
 ·by_cases hx:x=n
  ·subst hx
   rw[if_pos rfl];rw[<-h.len,bK (af _),Vn] at I;have bc:b=b':=by simpa using I
   subst bc;rw[hM] at J;injection J with J;subst J;exact hb.same fun k hk hF=>a4 k hk hF.1
  ·rw[if_neg hx]
   have bf:x<bs.length:=by
    have:=(az.1 I).1;rw[hl] at this;have:=h.len;omega
   rw[bX bf] at I;refine(h.bk x b' M' I J).same fun k hk hF=>keep k hk (h.off x k hF).2.2.1 (h.off x k hF).2.2.2.2
 ·by_cases hx:x=n
  ·by_cases hy:y=n
   ·omega
   ·rw[if_pos hx] at I
    rw[if_neg hy] at J;have:=(h.off y k J).2.1;have:=I.1;omega
  ·by_cases hy:y=n
   ·rw[if_neg hx] at I
    rw[if_pos hy] at J;have:=(h.off x k I).2.1;have:=J.1;omega
   ·rw[if_neg hx] at I
    rw[if_neg hy] at J;exact h.dj x y k I J
 ·have hz:(w6.setCell ⟨gc,11,none⟩ (.slice A2 (bs.length+1) c2)).heap.size=w6.heap.size:=bT
  rw[hl,hz]
  by_cases hx:x=n
  ·rw[if_pos hx] at hk
   obtain⟨I,J⟩:=hk;refine⟨ae,ae,ae,ae,fun e=>?_⟩;rcases ax k e with h3|h3
   ·have:=a0 k h3;omega
   ·omega
  ·rw[if_neg hx] at hk
   obtain⟨I,J,h3,h4,h5⟩:=h.off x k hk;refine⟨I,ae,h3,h4,fun e=>?_⟩;rcases ax k e with h6|h6
   ·exact h5 h6
   ·omega
 ·exact(O.below w.heap.size w (af _) (h.jm.trans (B3.mono a7))).setCell (p:=⟨gc,11,none⟩) h.lo.1 _
theorem TI.done {gc mb:Nat} {f:Int->Option Value} 
  (h:TI w wr gc mb P ma mc sa sc f (cK S) S n Ab cb bs Fs) (hn:n=P.count) (hS:S.length=P.count) (pd:iZ wr P ma sa) (R:Nat->Prop) (hR:∀k,qP ma k\/qP sa k->R k) (O:∀k,qP ma k\/qP sa k->k<wr.heap.size)
  (ax:∀k,qP ma k\/qP sa k->k≠gc/\k≠mb/\(Value.slice Ab bs.length cb).ownBlock≠some k/\∀x,¬Fs x k)
  (fw:∀(x:Nat) (M:BM) (e:dn),S[x]?=some M->e∈M.I->f e.id=some (Iz (x:Int)))
  (bw:∀(id:Int) (v:Value),f id=some v->∃(x:Nat) (M:BM) (e:dn),S[x]?=some M/\e∈M.I/\e.id=id/\v= Iz (x:Int))
  (pr:∀(x k:Nat) (M:BM) (r:iQ),S[x]?=some M->r∈M.side k->P.fy x r.1=0) (cnt:cK S<=250):dR wr (qO w wr) R gc P S:=by
 refine⟨⟨ma,mc,sa,sc,Ab,cb,bs,Fs,mb,f⟩,⟨h.D,pd,ch h.row (aB _),by rw[h.len,hn],hS,h.bk,h.dj,fun x k J=>⟨?_,fun hr=>(ax k hr).2.2.2 x J⟩,fun k J=>?_,fun x k J=>(h.off x k J).2.1,O,h.mp,fw,bw,pr,cnt⟩,fun k J=>?_,fun x k J=>⟨(h.off x k J).1,(h.off x k J).2.1⟩,hR⟩
 ·obtain⟨_,_,h3,h4,h5⟩:=h.off x k J
  rintro(e|e|e)
  ·exact h3 e
  ·exact h4 e
  ·exact h5 e
 ·obtain⟨h1,h2,h3,_⟩:=ax k J
  rintro(e|e|e)
  ·exact h1 e
  ·exact h2 e
  ·exact h3 e
 ·rcases J with rfl|rfl|J
  ·exact⟨h.lo.1,h.D.lt⟩
  ·exact⟨h.lo.2,h.mp.lt⟩
  ·exact h.row.lt k J
theorem yO (s:Nat) (P:PD) (S:Sm) (G R:Nat->Prop) (w:World) (h:dR w G R s P S):
  Wz 56 #[Pz s] w fun e w'=> ∃s',e= .returned (Pz s')/\dR w' (qO w w') (fun k=>R k/\k<w.heap.size) s' P S/\Bz w w':=by
 obtain⟨C,hS,cT,cX,hR⟩:=h;have bH:=hS.D.lt;have d:∀u,aR w.drew u->(Cz u s 0 (.string (str P.code))/\Cz u s 1 (.slice C.ma P.E.length C.mc)/\Cz u s 2 (Iz P.tick)/\Cz u s 3 (Iz P.low)/\Cz u s 4 (Iz P.high)/\Cz u s 5 (Iz P.wide)/\
  u.cell? ⟨s,6,none⟩=some (Iz P.rule)/\Cz u s 7 (Iz P.top)/\Cz u s 8 (Iz P.least)/\Cz u s 9 (Iz P.part)/\Cz u s 10 (.slice C.sa P.settle.length C.sc)/\Cz u s 11 (.slice C.A C.bs.length C.c)/\Cz u s 12 (.map (some C.mb))):=fun u hu=>
  have a4:Bz w u:=(aS (aa _ _)).trans hu
  (hS.same (fun k I=>a4.block k (hS.Pt k I)) (fun y k I=>a4.block k (hS.NG y k I)) (fun k I=>a4.block k (hS.Ps k I)) a4.size).gX
 have d0:=fun u hu=>(d u hu).1;have d1:=fun u hu=>(d u hu).2.1;have d2:=fun u hu=>(d u hu).2.2.1;have d3:=fun u hu=>(d u hu).2.2.2.1;have d4:=fun u hu=>(d u hu).2.2.2.2.1;have d5:=fun u hu=>(d u hu).2.2.2.2.2.1;have d6:=fun u hu=>(d u hu).2.2.2.2.2.2.1;have d7:=fun u hu=>(d u hu).2.2.2.2.2.2.2.1;have d8:=fun u hu=>(d u hu).2.2.2.2.2.2.2.2.1;have d9:=fun u hu=>(d u hu).2.2.2.2.2.2.2.2.2.1;have b9:=fun u hu=>(d u hu).2.2.2.2.2.2.2.2.2.2.1;have cd:=fun u hu=>(d u hu).2.2.2.2.2.2.2.2.2.2.2.1;have cf:=fun u hu=>(d u hu).2.2.2.2.2.2.2.2.2.2.2.2;clear d;have O:=ao hS;clear hS
 go_enter Tryz.func56,Tryz.ntmps56
 go_upto_region 1 with(fail)
 refine Zg [8,10] [0,1,2,3,4,5,6,7,8,9,10,11] ?_;refine Yt ?_;clear d0 d1 d2 d3 d4 d5 d6 d7 d8 d9 b9 cd cf;refine Ym fun K hK=>?_;refine(KI C.mb C.f (cK S) _ (O.mp.below (aS (aa _ _)))).mono ?_;rintro e w1⟨rfl,bc,b1⟩;refine Yo hK (b1) ?_;refine Yt ?_;refine Ym fun K hK=>?_;refine Yo hK (au (aa _ _) _) ?_;refine Yt ?_;refine aT ?_;obtain⟨k0,k1,k2,k3,k4,k5,k6,k7,k8,k9,ck,bQ,cl⟩:=O.h.gX;obtain⟨mb,a5⟩:=Zn w.heap.size;rw[<-a5];obtain⟨w2,a6⟩:=Zn (w1.alloc (.cells #[.string (str P.code), .slice C.ma P.E.length C.mc,Iz P.tick,Iz P.low,Iz P.high,Iz P.wide,Iz P.rule,Iz P.top,Iz P.least,Iz P.part, .slice C.sa P.settle.length C.sc, .slice none 0 0, .map (some mb)] 132));obtain⟨gc,a7⟩:=Zn w1.heap.size;rw[<-a7,<-a6];have bf:=bc.lt;have B1:Bz w w1:=(aS (aa _ _)).trans b1;have bh:=Zw a6;have B2:Bz w w2:=dW B1 bh;have G2:aE w2 gc 132 (NF.cells ⟨C.ma,C.mc,C.sa,C.sc,none,0,[],fun _ _=>False,mb,C.f⟩ P):=a6▸a7▸heap_alloc_new _ _;have M2:fR w2 mb C.f (cK S):=a5▸bc.below bh;have I2:TI w w2 gc mb P C.ma C.mc C.sa C.sc C.f (cK S) S 0 none 0 [] (fun _ _=>False):=
  ⟨G2,aM _ _ _ _,M2,rfl,fun x b M h=>by simp at h,fun x y k h=>h.elim,fun x k h=>h.elim,⟨a7▸B1.size,a5▸af _⟩,B2⟩
 have q2:Cz w2 s 11 (.slice C.A C.bs.length C.c):=Yb B2 bH bQ;have cm:=ao I2;obtain⟨N,eN⟩:=Zn C.bs.length;rw[<-eN] at q2;have cS:N<=21:=jE O.h.bn O.h.pd.right.cnt;obtain⟨HN,bR⟩:=dF eN B2;clear k0 k1 k2 k3 k4 k5 k6 k7 k8 k9 ck bQ cl I2 M2 G2 eN a6 a7 a5 bc b1 B1 bh B2 bf;go_wp2_with fail
 go_loopw [22] (fun v wr=> ∃(n:Nat) (Ab:Option Addr) (cb:Nat) (bs:List Nat) (Fs:Nat->Nat->Prop),n<=N/\v= Iz (n:Int)/\Hid (TI w wr gc mb P C.ma C.mc C.sa C.sc C.f (cK S) S n Ab cb bs Fs)) (fun v _=>N - (intOf v).toNat)
 case atStart=>exact⟨0,_,_,_,_,aB _,rfl,cm⟩
 case round=>
  obtain⟨n,Ab,cb,bs,Fs,hn,rfl,HI⟩:=hrel
  by_cases ax:n<N
  ·have bU:n<P.count:=by rw[<-O.h.bn,<-HN.h];exact ax
   obtain⟨b,M,hb,hM,bV⟩:=O.h.book bU;obtain⟨gA,hA,hp⟩:=mB O.ob hb;have ay:gA<w.heap.size:=(O.ob.lt gA (by rw[hA];rfl)).2;have hB:=HI.h.jm;have c0:Cz wr gA n (Pz b):=Yb hB ay hp;have i1:(n:Int)<N:=ae;have b0:=HI.h.D;have cn:∀u,aI (fun k=>k=gc) wr.drew u->Cz u gc 11 (.slice Ab bs.length cb):=fun u hu=>(hu.cell (b:=gc) (i:=11) rfl).trans (b0.cell 11);obtain⟨ct,HM,b4,dc⟩:=mh (bV.below hB) hM ax ay;rw[hA];clear hb hM bV hp hA bU hn ax b0 ay hB
   go_upto_region 5 with(fail)
   refine bx (R:=aI fun k=>k=gc) 11 [6,7,8,11] [0,1,2,3,4,5,6,7,8,9,10,11] (by kernel_rfl) (aI.tr _) (aI.J _) (by kernel_rfl) (fun _ _ _ _ _ h=>h) ?_;refine Yt ?_;clear cn;refine Ym fun K hK=>?_;refine(Pw b M (C.Fs n) _ (ct.below (aS (aa _ _)))).mono ?_;rintro e w2⟨b',rfl,b5,b2⟩;have ay:gc<wr.heap.size:=HI.D.lt;refine Yo hK ((fun k I=>by rw[show k=gc from I];exact b2.block gc ay)) ?_;have b6:=b2.size;have b7:wr.heap.size<=w2.heap.size:=b6;have bp:Bz wr w2:=(aS (aa _ _)).trans b2;refine Yt ?_;refine Ym fun K hK=>?_;refine Yo hK ((fun k I=>by rw[show k=gc from I];exact(au (aa w2.heap.size w2) _).block gc ae)) ?_;obtain⟨w3,a8⟩:=Zn (w2.alloc (.cells #[Pz b'] 133));have b3:=Zw a8;have C3:Cells w3 (some ⟨w2.heap.size,0,none⟩) [Pz b']:=a8▸Cells.lit w2 #[Pz b'] _;have cv:=b3.size;have a0:Bz wr w3:=dW bp b3;have a2:=bP HI.row a0;have hlen:bs.length<=21:=by
    have:=HI.h.len;have:=HN.h;have:=O.h.bn;have:=O.h.pd.right.cnt;omega
   have bt:=HI.h.jm.size;rw[<-a8];obtain⟨bR,cF,HR,cH⟩:=mh bp b3 a2 b5;clear a8 b2 bp b3 b5;refine Zm fun K hK=>?_;refine fZ VU a2 (A:=some ⟨w2.heap.size,0,none⟩) (m:=1) (c:=1) (news:=[Pz b']) _ _ rfl rfl rfl rfl bT C3 (by intro u hu;simp at hu;subst hu;rfl) ae ae (bs.length+1) _ rfl rfl ?_;intro A' c' w6 a3;have ba:(Value.slice Ab bs.length cb).ownBlock≠some gc:=fun e=>by
    obtain⟨cur,hc⟩:=bY HR e;exact jY (HI.D.below a0) hc (by decide) rfl
   have k6:w6.heap[gc]?=w3.heap[gc]?:=a3.grown.block gc ae fun e=>ba e.symm;have c6:Cz w6 gc 11 (.slice Ab bs.length cb):=Yd k6 ((HI.D.below a0).cell 11);have z6:Fz w6 gc 11:=(aY (a:=⟨gc,11,none⟩) k6).trans ((HI.D.below a0).frozen 11);have b8:=ao a3;clear a3 C3 a2 a0 hlen b6 b7 cv ba;refine Yo hK ((fun k I=>by rw[show k=gc from I];exact k6)) ?_;refine Yt ?_;refine Zl fun K hK=>?_;go_simp;refine Yl hK ?_;refine aT ?_;have bb:=HI.h.push HM cH bR cF b8;have HF:=ao bb;clear bb;go_wp2_with fail;go_roundw
   case rel=>
    have:=b4.h;exact⟨n+1,_,_,_,_,ae,by go_num,HF⟩
   case measure=>have:=b4.h;simp[intOf];omega
  ·have cQ:n=N:=ae
   subst cQ;have i1:¬((n:Int)<n):=ae;go_wp2_with fail;go_ret;have hI:=HI.h;have bt:=hI.jm.size;have bE:∀k,C.ro k->k<w.heap.size:=fun k I=>O.Ps k I;refine⟨gc,rfl,?_,hI.jm⟩;refine hI.done (HN.h▸O.bn) O.sn (O.pd.same (fun k I ax=>hI.jm.block k ax) bt) _ (fun k I=>⟨hR k I,bE k I⟩) (fun k I=>aA (bE k I) bt) (fun k I=>?_) O.fw O.bw O.pr O.cnt;have dp:=bE k I;refine⟨fun e=>cA hI.lo.1,fun e=>cA hI.lo.2,fun e=>cA ((hI.row.lt k e).1),fun x hx=>cA ((hI.off x k hx).1)⟩
theorem Tryz.Su:(Tryz.prog.info? 2).map (fun i=>(i.zero,i.size,i.bytes))=some (some (Iz 0),1,8):=by kernel_rfl
theorem sL:kA Tryz.prog 23 2 (Iz 0) 1 8:=
 ⟨Tryz.underlying23,let ⟨i,h,D,I,J⟩:=info_parts Tryz.Su;⟨i,h,D,I,J⟩,rfl,ae,ae⟩
def WI (B:Nat) (w1 wx:World) (g:Nat) (P:PD):Prop:=
 ∃ma mc sa sc,aE wx g 25 (P.cells ma mc sa sc)∧iZ wx P ma sa∧(∀k,qP ma k∨qP sa k→w1.heap.size≤k∧k<wx.heap.size)∧Below B w1 wx
theorem jA (l:List Int):∀u∈bZ l,u.oneCell'=true:=by
 intro u hu;unfold bZ at hu;obtain⟨x,_,rfl⟩:=aV.1 hu;rfl
theorem pj {base e c:Nat} (h:w.ownsRow base e 1 (.slice A n c) n xs) (D:qP A k):base<=k/\k<w.heap.size:=by
 obtain⟨o,rfl⟩:=D;exact h.lt k rfl
theorem xZ {J:World} {O:Option Addr} {c1 n1 n2:Nat} (hP:P.gZ) (hg:aE J g 25 (P.cells ma mc sa sc)) (ax:n1=P.E.length) (ay:n2=P.settle.length)
  (hb:Bz J u) (h1:u.ownsRow J.heap.size 3 1 (.slice O n1 c1) n1 (bZ P.E)) (h2:u.ownsRow J.heap.size 2 1 (.slice A2 n2 c2) n2 (bZ P.settle)) (hB:B<=g):
  WI B J ((u.setCell ⟨g,1,none⟩ (.slice O n1 c1)).setCell ⟨g,10,none⟩ (.slice A2 n2 c2)) g P:=by
 subst ax;subst ay;have a0:=hg.lt;have hs:=hb.size;have key:∀k,k≠g->((u.setCell ⟨g,1,none⟩ (.slice O P.E.length c1)).setCell ⟨g,10,none⟩ (.slice A2 P.settle.length c2)).heap[k]?=u.heap[k]?:=fun k D=>by
  rw[av _ _ _ _ D,av _ _ _ _ D]
 have I:((u.setCell ⟨g,1,none⟩ (.slice O P.E.length c1)).setCell ⟨g,10,none⟩ (.slice A2 P.settle.length c2)).heap.size=u.heap.size:=bT;refine⟨O,c1,A2,c2,?_,⟨?_,?_,hP⟩,fun k D=>?_,?_⟩
 ·exact((hg.below hb).set 1 _).set 10 _
 ·refine(Cells.cC h1).same (fun k D a2=>key k ?_) (I▸af _)
  have:=pj h1 D;omega
 ·refine(Cells.cC h2).same (fun k D a2=>key k ?_) (I▸af _)
  have:=pj h2 D;omega
 ·rw[I]
  rcases D with D|D
  ·exact pj h1 D
  ·exact pj h2 D
 ·exact(((hb.mono (aF hB (po a0))).setCell (p:=⟨g,1,none⟩) hB _).setCell (p:=⟨g,10,none⟩) hB _)
theorem DL (h:B<=u.heap.size) (T:TypeId):(u.alloc (.cells #[] T)).ownsRow B T 1 (.slice (some ⟨u.heap.size,0,none⟩) 0 0) 0 []:=
 cI (base:=B) u #[] 0 h (aB _) rfl
theorem nZ {J:World} {v:Value} {m':Nat} {x:Value} (D:lJ u B T 1 x m' ys A' c' J) (h:u.ownsRow B T' 1 v n xs) (I:∀g,v.ownBlock=some g->x.ownBlock≠some g):J.ownsRow B T' 1 v n xs:=
 aX h fun g hg=>D.grown.block g (h.lt g hg).2 fun e=>I g hg e.symm
theorem oa {v x:Value} {m:Nat} (h:u.ownsRow B T 1 v n xs) (J:u.ownsRow B T' 1 x m ys) (O:T≠T'):∀g,v.ownBlock=some g->x.ownBlock≠some g:=fun g hg e=>by
 obtain⟨cur,hc⟩:=bY h hg;obtain⟨I,D⟩:=bY J e;rw[hc] at D;injection D with D;injection D with _ h2 _;exact O h2
theorem PR (P:PD) (ma:Option Addr) (mc:Nat) (sa:Option Addr) (sc:Nat) (w:World) (h:iZ w P ma sa):
  Wz 36 #[P.val ma mc sa sc] w fun e w'=> ∃s',e= .returned (.tuple #[Pz s',Iz 0])/\dR w' (qO w w') (qO w w') s' P (Mk.new P).S/\Bz w w':=by
 have hP:=h.right;obtain⟨w0,b7⟩:=Zn (w.alloc (.cells (P.cells ma mc sa sc) 25));obtain⟨g,eg⟩:=Zn w.heap.size;have B0:=Zw b7;have D0:=Zq b7 eg;have h0:=h.below B0;obtain⟨c0,c1,c2,c3,c4,c5,c6,c7,c8,c9,wJ⟩:=fM.gX (w:=w0) (g:=g) D0;obtain⟨H0,eE,ea,HP,EG⟩:=rU h0 D0 B0 hP eg;rw[PD.jt];clear h h0 D0 B0 hP
 go_enter Tryz.func36,Tryz.ntmps36
 go_upto_region 1 with(fail)
 rw[<-b7,<-eg];clear b7 eg;go_wp2_with fail;refine(rC P ma mc sa sc w0 H0.h).mono ?_;rintro e O⟨rfl,b1⟩
 go_upto_region 4 with(fail)
 have D1:=eE.h.below b1;obtain⟨bt,eb⟩:=dF D1 b1;have ed:g<O.heap.size:=D1.lt;have l1:∀u,Below O.heap.size O.drew u->Cz u g 1 (.slice ma P.E.length mc):=fun u hu=>(D1.below ((aS (aa _ _)).trans hu)).cell 1;have ef:∀u,Below O.heap.size O.drew u->Cz u g 10 (.slice sa P.settle.length sc):=fun u hu=>(D1.below ((aS (aa _ _)).trans hu)).cell 10;obtain⟨n1,bH⟩:=Zn P.E.length;obtain⟨n2,bQ⟩:=Zn P.settle.length;rw[<-bH] at l1;rw[<-bQ] at ef;have ei:(bZ P.E).length=n1*1:=by simp[bZ,bH]
 have ej:(bZ P.settle).length=n2*1:=by simp[bZ,bQ]
 have cn:bZ P.E≠[]:=by intro e;have:=congrArg List.length e;have h2:=HP.h.n2;simp[bZ] at this;rw[this] at h2;simp at h2
 have ct:bZ P.settle≠[]:=by intro e;have:=congrArg List.length e;have h2:=HP.h.n2;have h3:=HP.h.vI;simp[bZ] at this;rw[this] at h3;simp at h3;omega
 have eV:n1<=6:=by rw[bH];exact HP.h.n6
 have cQ:n2<=6:=by rw[bQ,HP.h.vI];exact HP.h.n6
 have C1:Cells O ma (bZ P.E):=(H0.h.below b1).m;have C2:Cells O sa (bZ P.settle):=(H0.h.below b1).s;obtain⟨cS,cT,cX,dc,dp,dS,dT,d2⟩:=Dw ei ej cn ct C1 C2 bH bQ;clear c0 c1 c2 c3 c4 c5 c6 c7 c8 c9 wJ D1 b1 ei ej cn ct C1 C2 bH bQ
 go_cut [1] (fun s wx=>s= Pz g/\Hid (WI w.heap.size O wx g P))
 case first=>
  refine oM (R:=Below O.heap.size) 12 [9,10,11] (by kernel_rfl) (by kernel_rfl) ?_;refine kF [1,2,5,6] 8 (fun _ _ _ _ _ h=>h) (by kernel_rfl) (dH.J _ _) ?_;refine Yr ?_;clear l1 ef;obtain⟨u0,d3⟩:=Zn O.drew;have d4:Bz O u0:=by rw[d3];exact aS (aa _ _)
  have bE:O.heap.size<=u0.heap.size:=d4.size;rw[<-d3];clear d3;refine dt [0,4] (dH.tr _) 7 (by kernel_rfl) ?_;refine dh (by rfl) (by rfl) (fun K hK=>?_) ?_
  ·go_simp
   refine Yo hK ((au (aa _ _) _).mono bE) ?_;obtain⟨u1,a7⟩:=Zn (u0.alloc (.cells #[] 3));obtain⟨g0,bR⟩:=Zn u0.heap.size;have r1:=DL bE 3;have d5:=Zw a7;rw[<-a7,<-bR] at r1⊢;clear a7 bR;have a8:=d4.trans (d5.mono bE);have a2:O.heap.size<=u1.heap.size:=a8.size;refine dt [3,4] (dH.tr _) 6 (by kernel_rfl) ?_;refine dh (by rfl) (by rfl) (fun K hK=>?_) ?_
   ·refine fZ sH r1 (A:=ma) (m:=n1) (c:=mc) (news:=bZ P.E) _ _ rfl rfl rfl cS.h cX.h (dp.h.below (a8.mono (bu rfl))) (jA _) (by omega) a2 n1 (bZ P.E) (by omega) (by simp) ?_
    intro A3 c3 u2 I;have a3:Below O.heap.size u1 u2:=I.below _ _ (af _) (aa _ _);have a0:=a8.trans a3;have ba:O.heap.size<=u2.heap.size:=a0.size;replace r1:=I.own;clear I;refine Yo hK (a3) ?_;refine kF [8] 5 (fun _ _ _ _ _ h=>h) (by kernel_rfl) (dH.J _ _) ?_;refine Yr ?_;refine dt [4] (dH.tr _) 4 (by kernel_rfl) ?_;refine dh (by rfl) (by rfl) (fun K hK=>?_) ?_
    ·go_simp
     refine Yo hK ((au (aa _ _) _).mono ba) ?_;obtain⟨u3,d6⟩:=Zn (u2.alloc (.cells #[] 2));obtain⟨g4,a4⟩:=Zn u2.heap.size;have r2:=DL ba 2;have a5:=Zw d6;rw[<-d6,<-a4] at r2⊢;clear d6 a4;have ax:=a0.trans (a5.mono ba);have bU:O.heap.size<=u3.heap.size:=ax.size;replace r1:=bP r1 a5;refine dt [7] (dH.tr _) 3 (by kernel_rfl) ?_;refine dh (by rfl) (by rfl) (fun K hK=>?_) ?_
     ·refine fZ sL r2 (A:=sa) (m:=n2) (c:=sc) (news:=bZ P.settle) _ _ rfl rfl rfl cT.h dc.h (dS.h.below (ax.mono (bu rfl))) (jA _) (by omega) bU n2 (bZ P.settle) (by omega) (by simp) ?_
      intro A7 c7 u4 I;have a6:Below O.heap.size u3 u4:=I.below _ _ (af _) (aa _ _);have ay:=ax.trans a6;have ek:O.heap.size<=u4.heap.size:=ay.size;replace r1:=nZ I r1 (oa r1 r2 (by decide));replace r2:=I.own;clear I;refine Yo hK (a6) ?_;have G:=bt.h.below ay;have f1:Fz u4 g 1:=G.frozen 1;have el:Fz u4 g 10:=G.frozen 10;have q1:Cz u4 g 1 (.slice ma P.E.length mc):=G.cell 1;have eo:Cz u4 g 10 (.slice sa P.settle.length sc):=G.cell 10;have fin:=xZ (B:=w.heap.size) HP.h bt.h dT.h d2.h ay r1 r2 (bu EG.h.symm);have bV:=ao fin;clear fin;refine dz 9 2 (by kernel_rfl) (by rfl) (by rfl) (fun K hK=>?_);go_simp;refine Yl hK ?_;refine dz 10 1 (by kernel_rfl) (by rfl) (by rfl) (fun K hK=>?_);go_simp;refine Yl hK ?_;refine dz 11 0 (by kernel_rfl) (by rfl) (by rfl) (fun K hK=>?_);go_simp;refine Yl hK ?_;refine mK (by kernel_rfl) ?_;go_wp2_with fail;go_meet;exact⟨rfl,bV⟩
     exact dJ
    exact dJ
   refine dh (by rfl) (by rfl) (fun K hK=>?_) ?_
   ·go_simp
    refine Yo hK ((au (aa _ _) _).mono a2) ?_;obtain⟨u2,bb⟩:=Zn (u1.alloc (.cells #[] 2));obtain⟨g4,a4⟩:=Zn u1.heap.size;have r2:=DL a2 2;have a3:=Zw bb;rw[<-bb,<-a4] at r2⊢;clear bb a4;have a0:=a8.trans (a3.mono a2);have ba:O.heap.size<=u2.heap.size:=a0.size;replace r1:=bP r1 a3;refine dt [3] (dH.tr _) 5 (by kernel_rfl) ?_;refine dh (by rfl) (by rfl) (fun K hK=>?_) ?_
    ·refine fZ sH r1 (A:=ma) (m:=n1) (c:=mc) (news:=bZ P.E) _ _ rfl rfl rfl cS.h cX.h (dp.h.below (a0.mono (bu rfl))) (jA _) (by omega) ba n1 (bZ P.E) (by omega) (by simp) ?_
     intro A3 c3 u3 I;have a5:Below O.heap.size u2 u3:=I.below _ _ (af _) (aa _ _);have ax:=a0.trans a5;have bU:O.heap.size<=u3.heap.size:=ax.size;replace r2:=nZ I r2 (oa r2 r1 (by decide));replace r1:=I.own;clear I;refine Yo hK (a5) ?_;refine kF [8] 4 (fun _ _ _ _ _ h=>h) (by kernel_rfl) (dH.J _ _) ?_;refine Yr ?_;refine dt [7] (dH.tr _) 3 (by kernel_rfl) ?_;refine dh (by rfl) (by rfl) (fun K hK=>?_) ?_
     ·refine fZ sL r2 (A:=sa) (m:=n2) (c:=sc) (news:=bZ P.settle) _ _ rfl rfl rfl cT.h dc.h (dS.h.below (ax.mono (bu rfl))) (jA _) (by omega) bU n2 (bZ P.settle) (by omega) (by simp) ?_
      intro A7 c7 u4 I;have a6:Below O.heap.size u3 u4:=I.below _ _ (af _) (aa _ _);have ay:=ax.trans a6;have ek:O.heap.size<=u4.heap.size:=ay.size;replace r1:=nZ I r1 (oa r1 r2 (by decide));replace r2:=I.own;clear I;refine Yo hK (a6) ?_;have G:=bt.h.below ay;have f1:Fz u4 g 1:=G.frozen 1;have el:Fz u4 g 10:=G.frozen 10;have q1:Cz u4 g 1 (.slice ma P.E.length mc):=G.cell 1;have eo:Cz u4 g 10 (.slice sa P.settle.length sc):=G.cell 10;have fin:=xZ (B:=w.heap.size) HP.h bt.h dT.h d2.h ay r1 r2 (bu EG.h.symm);have bV:=ao fin;clear fin;refine dz 9 2 (by kernel_rfl) (by rfl) (by rfl) (fun K hK=>?_);go_simp;refine Yl hK ?_;refine dz 10 1 (by kernel_rfl) (by rfl) (by rfl) (fun K hK=>?_);go_simp;refine Yl hK ?_;refine dz 11 0 (by kernel_rfl) (by rfl) (by rfl) (fun K hK=>?_);go_simp;refine Yl hK ?_;refine mK (by kernel_rfl) ?_;go_wp2_with fail;go_meet;exact⟨rfl,bV⟩
     exact dJ
    exact dJ
   exact dJ
  refine dh (by rfl) (by rfl) (fun K hK=>?_) ?_
  ·go_simp
   refine Yo hK ((au (aa _ _) _).mono bE) ?_;obtain⟨u1,a7⟩:=Zn (u0.alloc (.cells #[] 2));obtain⟨g4,a4⟩:=Zn u0.heap.size;have r2:=DL bE 2;have d5:=Zw a7;rw[<-a7,<-a4] at r2⊢;clear a7 a4;have a8:=d4.trans (d5.mono bE);have a2:O.heap.size<=u1.heap.size:=a8.size;refine dt [0] (dH.tr _) 6 (by kernel_rfl) ?_;refine dh (by rfl) (by rfl) (fun K hK=>?_) ?_
   ·go_simp
    refine Yo hK ((au (aa _ _) _).mono a2) ?_;obtain⟨u2,bb⟩:=Zn (u1.alloc (.cells #[] 3));obtain⟨g0,bR⟩:=Zn u1.heap.size;have r1:=DL a2 3;have a3:=Zw bb;rw[<-bb,<-bR] at r1⊢;clear bb bR;have a0:=a8.trans (a3.mono a2);have ba:O.heap.size<=u2.heap.size:=a0.size;replace r2:=bP r2 a3;refine dt [3] (dH.tr _) 5 (by kernel_rfl) ?_;refine dh (by rfl) (by rfl) (fun K hK=>?_) ?_
    ·refine fZ sH r1 (A:=ma) (m:=n1) (c:=mc) (news:=bZ P.E) _ _ rfl rfl rfl cS.h cX.h (dp.h.below (a0.mono (bu rfl))) (jA _) (by omega) ba n1 (bZ P.E) (by omega) (by simp) ?_
     intro A3 c3 u3 I;have a5:Below O.heap.size u2 u3:=I.below _ _ (af _) (aa _ _);have ax:=a0.trans a5;have bU:O.heap.size<=u3.heap.size:=ax.size;replace r2:=nZ I r2 (oa r2 r1 (by decide));replace r1:=I.own;clear I;refine Yo hK (a5) ?_;refine kF [8] 4 (fun _ _ _ _ _ h=>h) (by kernel_rfl) (dH.J _ _) ?_;refine Yr ?_;refine dt [7] (dH.tr _) 3 (by kernel_rfl) ?_;refine dh (by rfl) (by rfl) (fun K hK=>?_) ?_
     ·refine fZ sL r2 (A:=sa) (m:=n2) (c:=sc) (news:=bZ P.settle) _ _ rfl rfl rfl cT.h dc.h (dS.h.below (ax.mono (bu rfl))) (jA _) (by omega) bU n2 (bZ P.settle) (by omega) (by simp) ?_
      intro A7 c7 u4 I;have a6:Below O.heap.size u3 u4:=I.below _ _ (af _) (aa _ _);have ay:=ax.trans a6;have ek:O.heap.size<=u4.heap.size:=ay.size;replace r1:=nZ I r1 (oa r1 r2 (by decide));replace r2:=I.own;clear I;refine Yo hK (a6) ?_;have G:=bt.h.below ay;have f1:Fz u4 g 1:=G.frozen 1;have el:Fz u4 g 10:=G.frozen 10;have q1:Cz u4 g 1 (.slice ma P.E.length mc):=G.cell 1;have eo:Cz u4 g 10 (.slice sa P.settle.length sc):=G.cell 10;have fin:=xZ (B:=w.heap.size) HP.h bt.h dT.h d2.h ay r1 r2 (bu EG.h.symm);have bV:=ao fin;clear fin;refine dz 9 2 (by kernel_rfl) (by rfl) (by rfl) (fun K hK=>?_);go_simp;refine Yl hK ?_;refine dz 10 1 (by kernel_rfl) (by rfl) (by rfl) (fun K hK=>?_);go_simp;refine Yl hK ?_;refine dz 11 0 (by kernel_rfl) (by rfl) (by rfl) (fun K hK=>?_);go_simp;refine Yl hK ?_;refine mK (by kernel_rfl) ?_;go_wp2_with fail;go_meet;exact⟨rfl,bV⟩
     exact dJ
    exact dJ
   exact dJ
  exact dJ
 obtain⟨rfl,HT⟩:=hcut;obtain⟨bc,bf,bh,bp,D2,ep,er,b2⟩:=HT.h;obtain⟨c0,c1,c2,c3,c4,c5,c6,c7,c8,c9,wJ⟩:=fM.gX (w:=wc) (g:=g) D2;obtain⟨et,eF,b8,eG⟩:=mh ep er b2 D2;clear ep er b2 D2 HT;have eI:∀w:World,(Instr.makeMap 107 none).run Tryz.prog w= .ok (.map (some w.heap.size)) (w.alloc (.map #[] 0)):=fun _=>rfl
 go_upto_region 6 with(fail)
 obtain⟨mb,b9⟩:=Zn wc.heap.size;obtain⟨gc,cd⟩:=Zn (wc.heap.size+1);rw[<-cd,<-b9];obtain⟨w2,b0⟩:=Zn ((wc.alloc (.map #[] 0)).alloc (.cells #[.string (str P.code), .slice bc P.E.length bf,Iz P.tick,Iz P.low,Iz P.high,Iz P.wide,Iz P.rule,Iz P.top,Iz P.least,Iz P.part, .slice bh P.settle.length bp, .slice none 0 0, .map (some mb)] 132));rw[<-b0];have cf:Bz wc w2:=by rw[b0];exact au (au (aa _ _) _) _
 have G2:aE w2 gc 132 (NF.cells ⟨bc,bf,bh,bp,none,0,[],fun _ _=>False,mb,fun _=>none⟩ P):=by
  rw[b0,cd];have h:=heap_alloc_new (wc.alloc (.map #[] 0)) (.cells #[.string (str P.code), .slice bc P.E.length bf,Iz P.tick,Iz P.low,Iz P.high,Iz P.wide,Iz P.rule,Iz P.top,Iz P.least,Iz P.part, .slice bh P.settle.length bp, .slice none 0 0, .map (some mb)] 132);rw[cw] at h;exact h
 have M2:fR w2 mb (fun _=>none) 0:=by
  rw[b9,b0];exact(fR.new wc).below (au (aa _ _) _)
 have I2:TI wc w2 gc mb P bc bf bh bp (fun _=>none) 0 (Mk.new P).S 0 none 0 [] (fun _ _=>False):=
  ⟨G2,aM _ _ _ _,M2,rfl,fun x b M h=>by simp at h,fun x y k h=>h.elim,fun x k h=>h.elim,⟨by rw[cd];omega,by rw[b9];exact af _⟩,cf⟩
 obtain⟨k0,k1,k2,k3,k4,k5,k6,k7,k8,k9,eJ⟩:=fM.gX (w:=w2) (g:=g) (eG.h.below cf);obtain⟨eu,ew⟩:=dF I2 cf;clear c0 c1 c2 c3 c4 c5 c6 c7 c8 c9 wJ I2 M2 G2 cf b0 cd b9 eI;go_wp2_with fail;refine(pP P bc bf bh bp w2 (et.h.below ew.h)).mono ?_;rintro e w3⟨rfl,b3⟩;obtain⟨N,eN⟩:=Zn P.count;have eR:N<=21:=by rw[eN];exact HP.h.cnt.1
 have HN:=ao eN;rw[<-eN];have I3:TI wc w3 gc mb P bc bf bh bp (fun _=>none) 0 (Mk.new P).S 0 none 0 [] (fun _ _=>False):=
  have hI:=eu.h
  ⟨hI.D.below b3,aM _ _ _ _,hI.mp.below b3,rfl,fun x b M h=>by simp at h,fun x y k h=>h.elim,fun x k h=>h.elim,hI.lo,dW hI.jm b3⟩
 have eK:=ao I3;clear I3 b3 eu k0 k1 k2 k3 k4 k5 k6 k7 k8 k9 eJ eN;go_wp2_with fail
 go_loopw [27] (fun v wr=> ∃(n:Nat) (Ab:Option Addr) (cb:Nat) (bs:List Nat) (Fs:Nat->Nat->Prop),n<=N/\v= Iz (n:Int)/\Hid (TI wc wr gc mb P bc bf bh bp (fun _=>none) 0 (Mk.new P).S n Ab cb bs Fs)) (fun v _=>N - (intOf v).toNat)
 case atStart=>exact⟨0,_,_,_,_,aB _,rfl,eK⟩
 case round=>
  obtain⟨n,Ab,cb,bs,Fs,hn,rfl,HI⟩:=hrel
  by_cases ck:n<N
  ·have i1:(n:Int)<N:=by omega
   have ey:=HI.h.D;have eL:∀u,aI (fun k=>k=gc) wr.drew u->Cz u gc 11 (.slice Ab bs.length cb):=fun u hu=>(hu.cell (b:=gc) (i:=11) rfl).trans (ey.cell 11);have cl:=ao ck;clear hn ck ey
   go_upto_region 8 with(fail)
   refine bx (R:=aI fun k=>k=gc) 10 [5,6,7,10] [0,1,2,3,4,5,6,7,8,9,10] (by kernel_rfl) (aI.tr _) (aI.J _) (by kernel_rfl) (fun _ _ _ _ _ h=>h) ?_;refine Yt ?_;clear eL;refine Ym fun K hK=>?_;refine(Sd _).mono ?_;rintro e w2⟨b',rfl,cQ,b2⟩;have ed:gc<wr.heap.size:=HI.h.D.lt;refine Yo hK ((fun k hk=>by rw[show k=gc from hk];exact b2.block gc ed)) ?_;have ez:=b2.size;have eA:wr.heap.size<=w2.heap.size:=ez;have d7:Bz wr w2:=(aS (aa _ _)).trans b2;refine Yt ?_;refine Ym fun K hK=>?_;refine Yo hK ((fun k hk=>by rw[show k=gc from hk];exact(au (aa w2.heap.size w2) _).block gc (by omega))) ?_;obtain⟨w3,cm⟩:=Zn (w2.alloc (.cells #[Pz b'] 133));have b3:=Zw cm;have C3:Cells w3 (some ⟨w2.heap.size,0,none⟩) [Pz b']:=by rw[cm];exact Cells.lit w2 #[Pz b'] _
   have eM:=b3.size;have b4:Bz wr w3:=dW d7 b3;have b5:=bP HI.h.row b4;have hlen:bs.length<=21:=by
    have:=HI.h.len;have:=cl.h;omega
   have d8:=HI.h.jm.size;rw[<-cm];obtain⟨b8,eO,HR,eP⟩:=mh d7 b3 b5 cQ;clear cm b2 d7 b3 cQ;refine Zm fun K hK=>?_;refine fZ VU b5 (A:=some ⟨w2.heap.size,0,none⟩) (m:=1) (c:=1) (news:=[Pz b']) _ _ rfl rfl rfl rfl (by simp) C3 (by intro u hu;simp at hu;subst hu;rfl) (by omega) (by omega) (bs.length+1) _ rfl rfl ?_;intro A' c' w6 b6;have cv:(Value.slice Ab bs.length cb).ownBlock≠some gc:=fun e=>by
    obtain⟨cur,hc⟩:=bY HR.h e;exact jY (HI.h.D.below b4) hc (by decide) rfl
   have k6:w6.heap[gc]?=w3.heap[gc]?:=b6.grown.block gc (by omega) fun e=>cv e.symm;have c6:Cz w6 gc 11 (.slice Ab bs.length cb):=Yd k6 ((HI.h.D.below b4).cell 11);have z6:Fz w6 gc 11:=(aY (a:=⟨gc,11,none⟩) k6).trans ((HI.h.D.below b4).frozen 11);have eB:=ao b6;clear b6 C3 b5 b4 hlen ez eA eM cv;refine Yo hK ((fun k hk=>by rw[show k=gc from hk];exact k6)) ?_;refine Yt ?_;refine Zl fun K hK=>?_;go_simp;refine Yl hK ?_;refine aT ?_;have hM:(Mk.new P).S[n]?=some ⟨[],[]⟩:=by
    have h1:=cl.h;have h2:=HN.h;show(List.replicate P.count (⟨[],[]⟩:BM))[n]?=_;rw[gM,if_pos (by omega)]
   have cF:=HI.h.push hM eP.h b8.h eO.h eB.h;have HF:=ao cF;clear cF hM;go_wp2_with fail;go_roundw
   case rel=>
    have:=cl.h;exact⟨n+1,_,_,_,_,by omega,by go_num,HF⟩
   case measure=>have:=cl.h;simp[intOf];omega
  ·have eQ:n=N:=by omega
   subst eQ;have i1:¬((n:Int)<n):=by omega
   go_wp2_with fail
   go_ret2
   have hI:=HI.h;have d8:=hI.jm.size;have hS:(Mk.new P).S.length=P.count:=List.length_replicate ..;have hc:cK (Mk.new P).S=0:=by
    show((List.replicate P.count (⟨[],[]⟩:BM)).map _).sum=0;rw[List.map_replicate];show(List.replicate P.count 0).sum=0;exact List.sum_replicate_nat.trans (Nat.mul_zero _)
   have cH:∀(x:Nat) (M:BM),(Mk.new P).S[x]?=some M->M=⟨[],[]⟩:=fun x M h=>by
    have h':(List.replicate P.count (⟨[],[]⟩:BM))[x]?=some M:=h;rw[gM] at h'
    split at h'<;>simp at h'
    exact h'.symm
   have eC:w.heap.size<=w0.heap.size:=ea.h.size;have eS:w0.heap.size<=O.heap.size:=eb.h.size;have eT:O.heap.size<=wc.heap.size:=b8.h.size;have eU:wc.heap.size<=wr.heap.size:=d8;have BB:Bz w wr:=((ea.h.trans (eb.h.mono eC)).trans b8.h).trans (hI.jm.mono (by omega));refine⟨gc,rfl,?_,BB⟩;have eD:=hI;rw[<-hc] at eD;have d9:=eF.h;have fin:=eD.done HN.h hS (et.h.same (fun k hk ck=>hI.jm.block k ck) d8) (qO w wr) (fun k hk=>by have:=d9 k hk;exact⟨by omega,by omega⟩) (fun k hk=>by have:=d9 k hk;omega) (fun k hk=>by
    have eW:=d9 k hk;refine⟨fun e=>by have:=hI.lo.1;omega,fun e=>by have:=hI.lo.2;omega,fun e=>by have:=(hI.row.lt k e).1;omega,fun x hx=>by have:=(hI.off x k hx).1;omega⟩)
    (fun x M e h1 h2=>by rw[cH x M h1] at h2;exact absurd (show e∈([]:List dn) from h2) (by simp)) (fun id v h=>by cases h) (fun x k M r h1 h2=>by rw[cH x M h1] at h2;unfold BM.side at h2;split at h2<;>simp at h2) (by rw[hc];omega)
   exact fin.mono (fun k h1 h2=>⟨by have:=h1.1;omega,h1.2⟩) (fun k h=>h)
theorem JB:∀(L:List zJ),(∀y∈L,1<=y.st.aw)->0<=(L.map (·.st.aw)).sum
 |[],_=>bT
 |y::L,h=>by
  have:=JB L fun z D=>h z (bB _ D);have:=h y (cg ..);simp only[aW,cN];omega
theorem LY (s:Nat) (P:PD) (S:Sm) (G R:Nat->Prop) (x k:Nat) (sd ag aw:Int) (w:World) (h:dR w G R s P S) (hx:x<P.count) (hk:k<2) (J:sd=(k:Int)+1) (hq:1<=aw/\aw<=1000000):
  Wz 34 #[Pz s,Iz (x:Int),Iz sd,Iz ag,Iz aw] w fun e w'=>e= .returned (Iz (ng P S x k ag aw))/\Bz w w':=by
 have O:1<=sd/\sd<=2:=by omega
 obtain⟨H,ay⟩:=dF h J;clear h J
 go_enter Tryz.func34,Tryz.ntmps34
 go_wp2_with fail;refine(Fl s P S G R x sd aw w H.h hx O hq).mono ?_;rintro e u⟨rfl,rfl⟩;go_wp2_with fail;refine(yO s P S G R w H.h).mono ?_;rintro e w1⟨s',rfl,a0,b1⟩;go_wp2_with fail;refine(GF s' P S _ _ x k sd ag aw w1 a0 hx hk ay.h hq).mono ?_;rintro e w2⟨A,c,L,G',rfl,I⟩;have hb:Bz w w2:=b1.trans (I.lv.below (fun j hj=>hj.1) b1.size);have h0:=I.l0;have D:=I.sm;have ax:=JB L I.qs;obtain⟨left,el⟩:=Zn ((dV P aw.toNat S x k ag aw).2.2);have hc:ng P S x k ag aw=aw - left:=by rw[el];rfl
 rw[<-el];rw[<-el] at h0 D;obtain⟨HB,HT,HC⟩:=fY hb I hc;have a2:left<=1000000:=by omega
 clear I hb D ax el hc;go_wp2_with fail;go_ret;exact⟨by rw[HC.h];first|rfl|(rw[Yw ⟨by omega,hq.2⟩ ⟨h0,a2⟩]),HB.h⟩
theorem CK (s:Nat) (P:PD) (S:Sm) (G R:Nat->Prop) (x k:Nat) (sd ag aw:Int) (w:World) (h:dR w G R s P S) (hx:x<P.count) (hk:k<2) (bc:sd=(k:Int)+1) (hq:1<=aw/\aw<=1000000):
  Wz 69 #[Pz s,Iz (x:Int),Iz sd,Iz ag,Iz aw] w fun e w'=>e= .returned (.bool (lV P S x k ag aw))/\Bz w w':=by
 have bf:1<=sd/\sd<=2:=by omega
 obtain⟨H,a7⟩:=dF h bc;clear h bc
 go_enter Tryz.func69,Tryz.ntmps69
 go_wp2_with fail;refine(yO s P S G R w H.h).mono ?_;rintro e w1⟨s',rfl,bh,b1⟩;go_wp2_with fail;refine(GF s' P S _ _ x k sd ag aw w1 bh hx hk a7.h hq).mono ?_;rintro e I⟨A,c,L,G',rfl,hT⟩;have hb:Bz w I:=b1.trans (hT.lv.below (fun j hj=>hj.1) b1.size);have ax:=hT.st;obtain⟨res,J⟩:=Zn (dV P aw.toNat S x k ag aw);have ay:lV P S x k ag aw=(res.2.2 !=0 && (mG P.n (lU res.1) x (1 - k)).any fun q=>lp k ag q.ag):=by rw[J];rfl
 rw[<-J];rw[<-J] at ax;clear hT J bh b1;obtain⟨S2,a8⟩:=Zn res.1;obtain⟨left,el⟩:=Zn res.2.2;rw[<-el];rw[<-a8] at ax;rw[<-a8,<-el] at ay;have a5:=ao ay;clear a8 el ay;have HB:=ao hb;clear hb
 by_cases hz:left=0
 ·subst hz
  clear ax;go_wp2_with fail;go_ret;exact⟨by rw[a5.h];rfl,HB.h⟩
 ·have bp:(left==0)=false:=by simpa using hz
  have bt:(left !=0)=true:=by simpa using hz
  obtain⟨qs,eqs⟩:=Zn (mG P.n (lU S2) x (1 - k));have bE:lV P S x k ag aw=qs.any fun q=>lp k ag q.ag:=by rw[a5.h,bt,Bool.true_and,eqs]
  have b5:qs.length<=1000:=by rw[eqs];have:=Cx P.n (lU S2) x (1 - k);have:=H.h.right.cnt;have:=H.h.right.n6;show _<=_;unfold PD.n at*;omega
  have bH:=ax;obtain⟨C,hS,cF,cH,hR⟩:=bH;have b6:s'<I.heap.size:=hS.D.lt;obtain⟨k0,k1,k2,k3,k4,k5,k6,k7,k8,k9,bQ,b7,b8⟩:=hS.gX;have st:∀{u:World} {i:Nat} {v:Value},aR I.drew u->Cz I s' i v->Cz u s' i v:=fun {u i v} hu hv=>Yb hu b6 hv;have d0:=fun u (hu:aR I.drew u)=>st hu k0;have d1:=fun u (hu:aR I.drew u)=>st hu k1;have d2:=fun u (hu:aR I.drew u)=>st hu k2;have d3:=fun u (hu:aR I.drew u)=>st hu k3;have d4:=fun u (hu:aR I.drew u)=>st hu k4;have d5:=fun u (hu:aR I.drew u)=>st hu k5;have d6:=fun u (hu:aR I.drew u)=>st hu k6;have d7:=fun u (hu:aR I.drew u)=>st hu k7;have d8:=fun u (hu:aR I.drew u)=>st hu k8;have d9:=fun u (hu:aR I.drew u)=>st hu k9;have b9:=fun u (hu:aR I.drew u)=>st hu bQ;obtain⟨cd,cf,ck,cQ,bR,cl⟩:=FW ax hS.pd eqs bp bE hS.WD;clear ax hS st k0 k1 k2 k3 k4 k5 k6 k7 k8 k9 bQ b7 b8 hz bt eqs bE
  go_upto_region 5 with(fail)
  clear bp;refine Zg [5,8,9] [0,1,2,3,4,6,7,11,5,8,9,10] ?_;refine Yt ?_;clear d0 d1 d2 d3 d4 d5 d6 d7 d8 d9 b9;refine Ym fun K hK=>?_;refine(vr s' P S2 _ _ _ (cd.h.below (aS (aa _ _)))).mono ?_;rintro e w3⟨A1,c1,rfl,a6,b1⟩;refine Yo hK (b1) ?_;have cm:=ao (dP.cC a6);have B3:Bz I w3:=(aS (aa _ _)).trans b1;have bU:=ao B3;clear b1 a6 B3;refine Yt ?_;refine Ym fun K hK=>?_;refine(wV sd _ bf).mono ?_;rintro e u⟨rfl,rfl⟩;refine Yo hK (aa _ _) ?_;refine Yt ?_;refine Ym fun K hK=>?_;refine(NI P C.ma C.mc C.sa C.sc A1 c1 (lU S2) x (1 - k) (3 - sd) _ (cf.h.below bU.h) cm.h hx (by omega) (by have:=a7.h;omega) cl.h).mono ?_;rintro e w4⟨A2,c2,rfl,a0,b2⟩;rw[<-ck.h] at a0⊢;refine Yo hK (b2) ?_;obtain⟨cn,bV⟩:=dF (dP.cC a0) (dW bU.h b2);obtain⟨N,eN⟩:=Zn qs.length;rw[<-eN] at b5⊢;have HN:=ao eN;clear a0 b2 eN;refine Yt ?_;refine aT ?_;go_wp2_with fail
  go_loopw [40] (fun v wr=> ∃m:Nat,m<=N/\v= Iz (m:Int)/\Hid ((∀q∈qs.take m,lp k ag q.ag=false)/\Bz w4 wr)) (fun v _=>N - (intOf v).toNat)
  case atStart=>exact⟨0,aB _,rfl,ao ⟨fun q hq=>by simp at hq,aa _ _⟩⟩
  case round=>
   obtain⟨m,hm,rfl,HM⟩:=hrel;obtain⟨O,hB⟩:=HM.h
   by_cases a3:m<N
   ·obtain⟨b',o',q,rfl,cS,c0,c1,c2,c3,c4,c5,hq⟩:=Cy (cn.h.below hB) (m:=m) (by rw[<-HN.h];exact a3)
    have i1:(m:Int)<N:=by omega
    obtain⟨a2,ba,b0⟩:=fY O hB a3;clear O hB HM a3 hm;go_wp2_with fail;obtain⟨wq,bb⟩:=Zn (wr.alloc (.cells #[Iz q.ag,Iz q.aw,Iz (q.i0:Int),Iz ((q.k0:Int)+1),Iz (q.i1:Int),Iz ((q.k1:Int)+1)] 178));have BQ:=Zw bb;have b3:=ao (dW ba.h BQ);rw[<-bb];clear bb BQ c0 c1 c2 c3 c4 c5;refine(Fk sd ag q.ag k wq hk a7.h).mono ?_;rintro e u⟨rfl,rfl⟩;obtain⟨z,ez⟩:=Zn (lp k ag q.ag);rw[<-ez]
    cases z
    ·have ct:=ao ez
     clear ez;go_wp2_with fail;go_roundw
     case rel=>
      refine⟨m+1,by have:=b0.h;omega,by go_num,ao ⟨fun q' b4=>?_,b3.h⟩⟩;rw[bC,hq.h] at b4;rcases aJ.1 b4 with h1|h1
      ·exact a2.h q' h1
      ·have h2:q'=q:=by simpa using h1
       subst h2;exact ct.h.symm
     case measure=>have:=b0.h;simp[intOf];omega
    ·have a4:(qs.any fun q=>lp k ag q.ag)=true:=List.any_eq_true.2 ⟨q,aH hq.h,ez.symm⟩
     have cv:=ao a4;clear ez a4;go_wp2_with fail;go_ret;exact⟨by rw[bR.h,cv.h];rfl,HB.h.trans ((dW bV.h b3.h).mono HB.h.size)⟩
   ·obtain rfl:m=N:=by omega
    have i1:¬((m:Int)<m):=by omega
    obtain⟨a2,ba⟩:=dF O hB;clear O hB HM a3 hm;go_wp2_with fail;go_ret;have a4:(qs.any fun q=>lp k ag q.ag)=false:=by
     rw[List.any_eq_false];intro q hq;have:=a2.h q (by rw[HN.h,dE];exact hq);simp[this]
    exact⟨by rw[bR.h,a4];rfl,HB.h.trans ((dW bV.h ba.h).mono HB.h.size)⟩
theorem PD.UC (P:PD) (ma:Option Addr) (mc:Nat) (sa:Option Addr) (sc:Nat) (w:World):∃w0 g,w0=w.alloc (.cells (P.cells ma mc sa sc) 25)/\g=w.heap.size/\fM w0 g P ma mc sa sc/\Bz w w0:=by
 refine⟨_,_,rfl,rfl,?_,?_⟩
 ·exact heap_alloc_new _ _
 ·exact au (aa _ _) _
theorem JC (P:PD) (ma:Option Addr) (mc:Nat) (sa:Option Addr) (sc:Nat) (x:Nat) (ag:Int) (w:World) (h:iZ w P ma sa) (hx:x<P.count) (hn:P.n<=x) (hw:P.fy x ag=0):
  Wz 171 #[P.val ma mc sa sc,Iz (x:Int),Iz ag] w fun e w'=>e= .returned (.tuple #[Iz (lu P x ag).1,Iz (lu P x ag).2,Iz 0])/\Bz w w':=by
 have hP:=h.right;obtain⟨w0,g,a7,eg,D0,B0⟩:=PD.UC P ma mc sa sc w;have h0:=h.below B0;have a2:P.oY (x:Int) ag=0:=by
  unfold PD.oY;rw[if_neg ae,show(x:Int).toNat=x by simp];exact hw
 have a3:decide (P.n<=x)=true:=by simpa using hn
 have O:=BS P.n (by have:=hP.n6;unfold PD.n;omega) x (cA hP.cnt) hn hx;obtain⟨j,ej⟩:=Zn ((cy P.n x).2);have hj:j<P.settle.length:=by rw[ej,hP.vI];have:=O.2.1;unfold PD.n at this;exact this
 obtain⟨D,J⟩:∃D,P.settle[j]?=some D:=⟨_,aj hj⟩;have a8:P.settle.getD j 0=D:=by rw[jI,J];rfl
 have b4:=hP.KY D (aH J);have b5:=hP.I7;have b6:=hP.zl;have b7:=hP.ag hw;have I:lu P x ag=if (if P.high<D+ag then (P.high,P.high - ag) else (D+ag,D)).1<P.low then (P.low,P.low - ag) else (if P.high<D+ag then (P.high,P.high - ag) else (D+ag,D)):=by
  unfold lu;rw[<-ej,a8]
 obtain⟨m,n6,em⟩:∃m n6:Nat,m=P.E.length/\n6=P.settle.length:=⟨_,_,rfl,rfl⟩;obtain⟨p1,p2, -⟩:=b7;obtain⟨-,f1,f2⟩:=b4;have ba:=hP.lh;obtain⟨H0,bb,bc,bf,bh,EJ,ax,bp,HJ⟩:=QG h0 D0 B0 a2 a3 ej I J hj;obtain⟨hi,a4⟩:=Zn P.high;obtain⟨lo,a5⟩:=Zn P.low;rw[<-a4] at b6 ba f2;rw[<-a5] at b5 ba f1;obtain⟨ay,a0⟩:=dF a4 a5;rw[PD.jt];clear h h0 D0 B0 hP a2 a3 ej I J hj O a8 a4 a5 hw hn em
 go_enter Tryz.func171,Tryz.ntmps171
 go_upto_region 1 with(fail)
 rw[<-a7,<-eg];clear a7 eg;obtain⟨c0,c1,c2,c3,c4,c5,c6,c7,c8,c9,wJ⟩:=fM.gX bb;go_wp2_with fail;clear c0 c1 c2 c3 c4 c5 c6 c7 c8 c9 wJ;refine(rC P ma mc sa sc w0 H0).mono ?_;rintro e w1⟨rfl,b1⟩;obtain⟨bt,bE,bH⟩:=fY (H0.below b1) (bb.below b1) (bc.trans (b1.mono bc.size));clear b1;obtain⟨c0,c1,c2,c3,c4,c5,c6,c7,c8,c9,wJ⟩:=fM.gX bE;go_wp2_with fail;clear c0 c1 c2 c3 c4 c5 c6 c7 c8 c9 wJ;refine(rD P ma mc sa sc x w1 bt hx).mono ?_;rintro e w2⟨rfl,b2⟩;rw[bh.h,<-EJ.h];obtain⟨bQ,bR,bU⟩:=fY (bt.below b2) (bE.below b2) (bH.trans (b2.mono bH.size));clear b2;obtain⟨c0,c1,c2,c3,c4,c5,c6,c7,c8,c9,wJ⟩:=fM.gX bR;go_wp2_with fail;clear c0 c1 c2 c3 c4 c5 c6 c7 c8 c9 wJ;refine(pQ P ma mc sa sc (x:Int) ag w2 bQ).mono ?_;rintro e w3⟨rfl,b3⟩;rw[bf.h];obtain⟨b8,b9,a6⟩:=fY (bQ.below b3) (bR.below b3) (bU.trans (b3.mono bU.size));clear b3;obtain⟨c0,c1,c2,c3,c4,c5,c6,c7,c8,c9,wJ⟩:=fM.gX b9;rw[<-ay.h] at c4;rw[<-a0.h] at c3;obtain⟨b,o,fx,eA,hb,hc,bV⟩:=b8.h.s.jK (k:=j) HJ;obtain rfl:fx=D:=by have:=bV.h;rw[bp.h] at this;injection this with this;exact this.symm
 rw[eA] at wJ;obtain⟨n6,b0⟩:=Zn P.settle.length;have cd:(j:Int)<n6:=cA HJ.h;rw[<-b0] at wJ;clear bV eA b0;have I:∀a b:Int,lu P x ag=(a,b)->(.tuple #[Iz (lu P x ag).1,Iz (lu P x ag).2,Iz 0]:Value)= .tuple #[Iz a,Iz b,Iz 0]:=fun a b h=>by rw[h]
 have HR:=ao I;clear I
 by_cases h1:hi<fx+ag
 ·by_cases h2:hi<lo
  ·omega
  ·have O:lu P x ag=(hi,hi - ag):=by
    rw[ax.h,<-ay.h,<-a0.h,if_pos h1];simp only;rw[if_neg h2]
   have HL:=ao O;clear O;go_wp2_with fail
   go_quiet (fail)
   go_wp2_with fail
   go_ret3
   exact⟨by rw[HL.h];rfl,below_drewN a6 _⟩
 ·by_cases h2:fx+ag<lo
  ·have O:lu P x ag=(lo,lo - ag):=by
    rw[ax.h,<-ay.h,<-a0.h,if_neg h1];simp only;rw[if_pos h2]
   have HL:=ao O;clear O;go_wp2_with fail
   go_quiet (fail)
   go_wp2_with fail
   go_ret3
   exact⟨by rw[HL.h];rfl,below_drewN a6 _⟩
  ·have O:lu P x ag=(fx+ag,fx):=by
    rw[ax.h,<-ay.h,<-a0.h,if_neg h1];simp only;rw[if_neg h2]
   have HL:=ao O;clear O;go_wp2_with fail
   go_ret3
   exact⟨by rw[HL.h];rfl,a6⟩
theorem Tryz.Sv:(Tryz.prog.info? 40).map (fun i=>(i.zero,i.size,i.bytes))=some (some (.agg #[Iz 0,Iz 0,Iz 0,Iz 0,Iz 0,Iz 0,Iz 0,Iz 0]),8,64):=by kernel_rfl
theorem yP:kA Tryz.prog 32 40 (.agg #[Iz 0,Iz 0,Iz 0,Iz 0,Iz 0,Iz 0,Iz 0,Iz 0]) 8 64:=
 ⟨Tryz.underlying32,let ⟨i,h,D,I,J⟩:=info_parts Tryz.Sv;⟨i,h,D,I,J⟩,rfl,ae,ae⟩
def ir.cells (r:ir):List Value:=[Iz r.kind,Iz r.id,Iz r.inst,Iz r.side,Iz r.ag,Iz r.aw,Iz r.left,Iz r.fy]
def ir.val (r:ir):Value:= .agg r.cells.toArray
theorem ir.bG (r:ir):r.cells.length=8:=rfl
def fC (l:List ir):List Value:=l.flatMap ir.cells
theorem iL (l:List ir):(fC l).length=l.length*8:=dX ir.bG l
theorem rJ (l m:List ir):fC (l++m)=fC l++fC m:=by simp[fC]
theorem x9 (l:List ir):∀u∈fC l,u.oneCell'=true:=tJ (fun f u hu=>by
 unfold ir.cells at hu;simp at hu;rcases hu with rfl|rfl|rfl|rfl|rfl|rfl|rfl|rfl<;>rfl) l
def lD (B:Nat) (w:World) (A:Option Addr) (c:Nat) (l:List ir):Prop:=w.ownsRow B 40 8 (.slice A l.length c) l.length (fC l)
def Ah (P:PD) (ma:Option Addr) (mc:Nat) (sa:Option Addr) (sc:Nat) (s ub:Nat):Array Value:=
 #[.string (str P.code), .slice ma P.E.length mc,Iz P.tick,Iz P.low,Iz P.high,Iz P.wide,Iz P.rule,Iz P.top,Iz P.least,Iz P.part, .slice sa P.settle.length sc, Pz s, .map (some ub)]
structure JD (w:World) (g:Nat) (P:PD) (ma:Option Addr) (mc:Nat) (sa:Option Addr) (sc:Nat) (s ub:Nat):Prop where
 D:aE w g 90 (Ah P ma mc sa sc s ub)
 pd:iZ w P ma sa
theorem JD.below (h:JD w g P ma mc sa sc s ub) (I:Bz w w'):JD w' g P ma mc sa sc s ub:=⟨h.D.below I,h.pd.below I⟩
theorem JD.drew (h:JD w g P ma mc sa sc s ub):JD w.drew g P ma mc sa sc s ub:=⟨h.D.drew,h.pd.drew⟩
theorem JD.cells (h:JD w g P ma mc sa sc s ub):
  w.cell? ⟨g,0,none⟩=some (.string (str P.code))/\w.cell? ⟨g,1,none⟩=some (.slice ma P.E.length mc)/\w.cell? ⟨g,2,none⟩=some (Iz P.tick)/\w.cell? ⟨g,3,none⟩=some (Iz P.low)/\w.cell? ⟨g,4,none⟩=some (Iz P.high)/\w.cell? ⟨g,5,none⟩=some (Iz P.wide)/\
  w.cell? ⟨g,6,none⟩=some (Iz P.rule)/\w.cell? ⟨g,7,none⟩=some (Iz P.top)/\w.cell? ⟨g,8,none⟩=some (Iz P.least)/\w.cell? ⟨g,9,none⟩=some (Iz P.part)/\w.cell? ⟨g,10,none⟩=some (.slice sa P.settle.length sc)/\w.cell? ⟨g,11,none⟩=some (Pz s)/\w.cell? ⟨g,12,none⟩=some (.map (some ub)):=
 ⟨h.D.cell 0,h.D.cell 1,h.D.cell 2,h.D.cell 3,h.D.cell 4,h.D.cell 5,h.D.cell 6,h.D.cell 7,h.D.cell 8,h.D.cell 9,h.D.cell 10,h.D.cell 11,h.D.cell 12⟩
theorem GI (c:bN) (fy:Int) (w:World):Wz 38 #[c.val,Iz fy] w fun e w'=> ∃A cp,e= .returned (.slice A 1 cp)/\lD w.heap.size w' A cp (mH c.id fy)/\Bz w w':=by
 rw[show c.val= .agg c.cells from rfl]
 go_enter Tryz.func38,Tryz.ntmps38
 go_upto_region 1 with(fail)
 obtain⟨w0,D⟩:=Zn (w.alloc (.cells c.cells 35));obtain⟨g,I⟩:=Zn w.heap.size;have J:kM w0 g c:=D▸I▸kM.new w c;have B0:=Zw D;have c1:Cz w0 g 1 (Iz c.id):=J.cell 1;rw[<-D,<-I];clear D I J;go_wp2_with fail;go_ret;refine⟨some ⟨w0.heap.size,0,none⟩,1,rfl,?_,au B0 _⟩;exact cI (base:=w.heap.size) (size:=8) w0 #[Iz 2,Iz c.id,Iz 0,Iz 0,Iz 0,Iz 0,Iz 0,Iz fy] 1 B0.size (by unfold maxLen;omega) rfl
theorem UD (g:Nat) (P:PD) (ma:Option Addr) (mc:Nat) (sa:Option Addr) (sc:Nat) (s ub:Nat) (x:Nat) (w:World) (h:JD w g P ma mc sa sc s ub) (hx:x<P.count):
  Wz 144 #[Pz g,Iz (x:Int)] w fun e w'=>e= .returned (.bool (decide (P.n<=x)))/\Bz w w':=by
 obtain⟨k0,k1,k2,k3,k4,k5,k6,k7,k8,k9,I,J,O⟩:=h.cells;have HP:=ao h.pd;obtain⟨b,D⟩:=Zn (decide (P.n<=x));have HB:=ao D;clear h;rw[<-D];clear D
 go_enter Tryz.func144,Tryz.ntmps144
 go_wp2_with fail;refine(rD P ma mc sa sc x w HP.h hx).mono ?_;rintro e w1⟨rfl,b1⟩;rw[<-HB.h];go_wp2_with fail;go_ret;exact⟨rfl,b1⟩
theorem JE (h:Cells w A (gW l)) {m:Nat} (hm:m<l.length):
  ∃b o q,A=some ⟨b,o,none⟩/\b<w.heap.size/\w.cell? ⟨b,o+m*6,none⟩=some (Iz q.id)/\w.cell? ⟨b,o+m*6+1,none⟩=some (Iz (q.inst:Int))/\w.cell? ⟨b,o+m*6+2,none⟩=some (Iz ((q.k:Int)+1))/\w.cell? ⟨b,o+m*6+3,none⟩=some (Iz q.ag)/\w.cell? ⟨b,o+m*6+4,none⟩=some (Iz q.aw)/\w.cell? ⟨b,o+m*6+5,none⟩=some (Iz q.left)/\Hid (l[m]?=some q):=by
 have I:=mr l;have D:gW l≠[]:=by intro e;rw[e] at I;simp at I;omega
 obtain⟨b,o,rfl,J,hc⟩:=h D;have hr:l[m]?=some l[m]:=aj hm;have key:∀(j:Nat) (v:Value),j<6->(l[m]).cells[j]?=some v->Cz w b (o+m*6+j) v:=fun j v O hv=>by
  rw[bg];exact hc _ _ ((ig fG.bG j O hr).trans hv)
 exact⟨b,o,l[m],rfl,J,key 0 _ ae rfl,key 1 _ ae rfl,key 2 _ ae rfl,key 3 _ ae rfl,key 4 _ ae rfl,key 5 _ ae rfl,hr⟩
structure sM (w:World) (g:Nat) (y:zJ):Prop where
 D:aE w g 186 y.cells.toArray
 fl:Cells w y.A (gW y.st.U)
theorem sM.below (h:sM w g y) (I:Bz w w'):sM w' g y:=⟨h.D.below I,h.fl.below I⟩
theorem sM.four (h:sM w g y):w.cell? ⟨g,0,none⟩=some (Iz y.st.ag)/\w.cell? ⟨g,1,none⟩=some (Iz y.st.aw)/\w.cell? ⟨g,2,none⟩=some (.bool y.st.imp)/\w.cell? ⟨g,3,none⟩=some (.slice y.A y.st.U.length y.c):=
 ⟨h.D.cell 0,h.D.cell 1,h.D.cell 2,h.D.cell 3⟩
theorem L9 {m:Nat} {f:fG} {p:fG->Bool} (hf:l[m]?=some f) (h:∀g∈l.take m,p g=false) (hp:p f=true):l.find? p=some f:=by
 induction l generalizing m with
 |nil=>simp at hf
 |cons a l D=>
  cases m with
  |zero=>simp at hf;subst hf;simp[hp]
  |succ m=>
   have I:=h a bT;rw[List.find?_cons,I];exact D (by simpa using hf) (fun g hg=>h g (by simp[hg]))
theorem Fv (g:Nat) (y:zJ) (x:Nat) (w:World) (h:sM w g y) (hx:x<100) (hl:y.st.U.length<=500):
  Wz 172 #[Iz (x:Int), Pz g] w fun e w'=>e= .returned (Iz (jq y.st.U y.st.ag x))/\Bz w w':=by
 obtain⟨k0,k1,k2,k3⟩:=h.four;obtain⟨HF,HH⟩:=dF h.fl h;have a5:g<w.heap.size:=h.D.lt;obtain⟨N,eN⟩:=Zn y.st.U.length;rw[<-eN] at hl k3;have HN:=ao eN;clear h eN
 go_enter Tryz.func172,Tryz.ntmps172
 go_wp2_with fail
 go_loopw [9] (fun v wr=> ∃m:Nat,m<=N/\v= Iz (m:Int)/\Hid ((∀f∈y.st.U.take m,(f.inst==x)=false)/\Bz w wr)) (fun v _=>N - (intOf v).toNat)
 case atStart=>exact⟨0,aB _,rfl,ao ⟨fun q hq=>by simp at hq,aa _ _⟩⟩
 case round=>
  obtain⟨m,hm,rfl,HM⟩:=hrel;obtain⟨J,hB⟩:=HM.h
  by_cases ay:m<N
  ·obtain⟨b',o',f,eA,a7,c0,c1,c2,c3,c4,c5,hf⟩:=JE (HF.below hB) (m:=m) (HN.h▸ay)
   have i1:(m:Int)<N:=ae;obtain⟨a2,a0,a3⟩:=fY J hB ay;rw[eA];clear J hB HM ay hm k0 k1 k2 k3 eA
   by_cases O:f.inst=x
   ·have i2:((f.inst:Int)==(x:Int))=true:=by rw[O];simp
    have I:jq y.st.U y.st.ag x=f.ag:=by
     unfold jq;rw[L9 hf.h a2.h (by simp[O])]
    have ax:=ao I;clear O I;go_wp2_with fail;go_ret;exact⟨by rw[ax.h];rfl,au a0 _⟩
   ·have i2:((f.inst:Int)==(x:Int))=false:=by simpa using fun h:(f.inst:Int)=x=>O ae
    have a6:=ao O;clear O;go_wp2_with fail;go_roundw
    case rel=>
     refine⟨m+1,cA a3.h,by go_num,ao ⟨fun q' a4=>?_,au a0 _⟩⟩;rw[bC,hf.h] at a4;rcases aJ.1 a4 with h1|h1
     ·exact a2 q' h1
     ·have h2:q'=f:=by simpa using h1
      subst h2;simpa using a6.h
    case measure=>have:=a3.h;simp[intOf];omega
  ·obtain rfl:m=N:=ae
   have i1:¬((m:Int)<m):=ae;have r0:Cz wr g 0 (Iz y.st.ag):=Yb hB a5 k0;have I:jq y.st.U y.st.ag x=y.st.ag:=by
    unfold jq;rw[DZ.2 (fun f hf=>by
     have:=J f (by rw[HN.h,dE];exact hf);simp[this])]
   obtain⟨a0,ax⟩:=dF hB I;clear J hB HM ay hm k0 k1 k2 k3 I;go_wp2_with fail;go_ret;exact⟨by rw[ax.h];rfl,a0⟩
theorem Ma (g:Nat) (P:PD) (ma:Option Addr) (mc:Nat) (sa:Option Addr) (sc:Nat) (s ub:Nat) (x:Nat) (y:zJ) (w:World) (h:JD w g P ma mc sa sc s ub) (hx:x<P.count) (hn:P.n<=x) (hy:y.st.imp=false->P.fy x y.st.ag=0) (hl:y.st.U.length<=500) (hf:Cells w y.A (gW y.st.U)):
  Wz 145 #[Pz g,Iz (x:Int), .agg y.cells.toArray] w fun e w'=>e= .returned (.tuple #[Iz (fg P x y.st).1,Iz (fg P x y.st).2])/\Bz w w':=by
 obtain⟨w0,O⟩:=Zn (w.alloc (.cells y.cells.toArray 186));obtain⟨g5,ax⟩:=Zn w.heap.size;have B0:=Zw O;have S0:sM w0 g5 y:=⟨by rw[O,ax];exact heap_alloc_new _ _,hf.below B0⟩;have h0:=h.below B0;have hP:=h.pd.right;have ba:=BS P.n (by have:=hP.n6;unfold PD.n;omega) x (by have:=hP.cnt;omega) hn hx;have ay:decide (P.n<=x)=true:=by simpa using hn
 obtain⟨ni,nj,a4,a5⟩:∃ni nj,ni=(cy P.n x).1/\nj=(cy P.n x).2:=⟨_,_,rfl,rfl⟩;have bH:P.n<=6:=hP.n6;have bf:ni<100:=by omega
 have bh:nj<100:=by omega
 cases J:y.st.imp with
 |false=>
  have a6:fg P x y.st=lu P x y.st.ag:=by unfold fg;rw[J];rfl
  rw[a6];obtain⟨k0,k1,k2,k3⟩:=S0.four;rw[J] at k2;obtain⟨H0,a0,HW,bb⟩:=mh h0 B0 (hy J) S0;have bp:g5<w0.heap.size:=S0.D.lt;obtain⟨m0,m1,m2,m3,m4,m5,m6,m7,m8,m9,a2,a7,a8⟩:=h0.cells;have I:g<w0.heap.size:=h0.D.lt;have st:∀{u:World} {b i:Nat} {v:Value},b<w0.heap.size->aR w0.drew u->Cz w0 b i v->Cz u b i v:=fun {u b i v} hb hu hv=>Yb hu hb hv;have d0:=fun u (hu:aR w0.drew u)=>st I hu m0;have d1:=fun u (hu:aR w0.drew u)=>st I hu m1;have d2:=fun u (hu:aR w0.drew u)=>st I hu m2;have d3:=fun u (hu:aR w0.drew u)=>st I hu m3;have d4:=fun u (hu:aR w0.drew u)=>st I hu m4;have d5:=fun u (hu:aR w0.drew u)=>st I hu m5;have d6:=fun u (hu:aR w0.drew u)=>st I hu m6;have d7:=fun u (hu:aR w0.drew u)=>st I hu m7;have d8:=fun u (hu:aR w0.drew u)=>st I hu m8;have d9:=fun u (hu:aR w0.drew u)=>st I hu m9;have bt:=fun u (hu:aR w0.drew u)=>st I hu a2;have e0:=fun u (hu:aR w0.drew u)=>st bp hu k0;clear h h0 B0 S0 hP ba J hy hf st m0 m1 m2 m3 m4 m5 m6 m7 m8 m9 a2 a7 a8 ay
  go_enter Tryz.func145,Tryz.ntmps145
  go_upto_region 1 with(fail)
  rw[<-O,<-ax];clear O ax
  go_upto_region 2 with(fail)
  clear k0 k1 k2 k3;refine Zg [7] [0,1,2,3,4,5,6,7,8,9,10,11,12,13,14] ?_;refine Yt ?_;clear d0 d1 d2 d3 d4 d5 d6 d7 d8 d9 bt e0;refine Ym fun K hK=>?_;refine(JC P ma mc sa sc x y.st.ag _ H0.h.drew.pd hx hn HW.h).mono ?_;rintro e w1⟨rfl,b1⟩;refine Yo hK (b1) ?_;have a3:=ao (a0.h.trans (((aS (aa _ _)).trans b1).mono a0.h.size));clear b1;refine Yt ?_;refine aT ?_;go_wp2_with fail
  go_ret2
  exact⟨rfl,a3.h⟩
 |true=>
  have a6:fg P x y.st=(jq y.st.U y.st.ag ni,jq y.st.U y.st.ag nj):=by unfold fg;rw[J,a4,a5];rfl
  rw[a6];obtain⟨k0,k1,k2,k3⟩:=S0.four;rw[J] at k2;obtain⟨H0,a0,bb,HD,HI,HJ⟩:=FW h0 B0 S0 ay a4 a5;obtain⟨m0,m1,m2,m3,m4,m5,m6,m7,m8,m9,a2,a7,a8⟩:=h0.cells;clear h h0 B0 S0 hP ba J hy hf ay a4 a5
  go_enter Tryz.func145,Tryz.ntmps145
  go_upto_region 1 with(fail)
  rw[<-O,<-ax];clear O ax;go_wp2_with fail;refine(rD P ma mc sa sc x w0 H0.h.pd hx).mono ?_;rintro e w1⟨rfl,b1⟩;rw[HD.h,<-HI.h,<-HJ.h];obtain⟨S1,a3⟩:=dF (bb.h.below b1) (a0.h.trans (b1.mono a0.h.size));clear b1 k0 k1 k2 k3 m0 m1 m2 m3 m4 m5 m6 m7 m8 m9 a2 a7 a8;go_wp2_with fail;refine(Fv g5 y ni w1 S1.h bf hl).mono ?_;rintro e w2⟨rfl,b2⟩;obtain⟨S2,bc⟩:=dF (S1.h.below b2) (a3.h.trans (b2.mono a3.h.size));clear b2;go_wp2_with fail;refine(Fv g5 y nj w2 S2.h bh hl).mono ?_;rintro e w3⟨rfl,b3⟩;have bE:=ao (bc.h.trans (b3.mono bc.h.size));clear b3;go_wp2_with fail
  go_ret2
  exact⟨rfl,bE.h⟩
def ji:Array Value:=#[Iz 0,Iz 0,Iz 0,Iz 0,Iz 0,Iz 0,Iz 0,Iz 0]
theorem aE.eight {a b c d e f h i:Value} (H:aE w g T #[a,b,c,d,e,f,h,i]):(w.cell? ⟨g,0,none⟩=some a/\w.cell? ⟨g,1,none⟩=some b/\w.cell? ⟨g,2,none⟩=some c/\w.cell? ⟨g,3,none⟩=some d/\w.cell? ⟨g,4,none⟩=some e/\w.cell? ⟨g,5,none⟩=some f/\w.cell? ⟨g,6,none⟩=some h/\w.cell? ⟨g,7,none⟩=some i):=
 ⟨H.cell 0,H.cell 1,H.cell 2,H.cell 3,H.cell 4,H.cell 5,H.cell 6,H.cell 7⟩
theorem aE.GJ (H:aE w g T cs):(w.frozen? ⟨g,0,none⟩=false/\w.frozen? ⟨g,1,none⟩=false/\w.frozen? ⟨g,2,none⟩=false/\w.frozen? ⟨g,3,none⟩=false/\w.frozen? ⟨g,4,none⟩=false/\w.frozen? ⟨g,5,none⟩=false/\w.frozen? ⟨g,6,none⟩=false/\w.frozen? ⟨g,7,none⟩=false):=
 ⟨H.frozen 0,H.frozen 1,H.frozen 2,H.frozen 3,H.frozen 4,H.frozen 5,H.frozen 6,H.frozen 7⟩
theorem qH {i:Nat} (h:aE w k T cs) (D:k≠g):aE (fW w g i us) k T cs:=
 h.lv (AM (F:=fun j=>j=g) rfl (Lv.refl _ w)) D
theorem Mb (g:Nat) (P:PD) (ma:Option Addr) (mc:Nat) (sa:Option Addr) (sc:Nat) (s ub:Nat) (x:Nat) (r:ir) (O a5:Int) (w:World) (h:JD w g P ma mc sa sc s ub) (hr:r.inst=(x:Int)) (hx:x<P.count) (hn:P.n<=x) (hs:1<=r.side/\r.side<=2):
  Wz 146 #[Pz g,r.val,Iz O,Iz a5] w fun e w'=> ∃A c,e= .returned (.slice A 2 c)/\lD w.heap.size w' A c (nW P r O a5)/\Bz w w':=by
 obtain⟨r0,r1,r2,I,r4,r5,r6,r7⟩:=r;simp only at hr hs;subst hr;obtain⟨s1,s2⟩:=hs;obtain⟨w0,bE⟩:=Zn (w.alloc (.cells #[Iz r0,Iz r1,Iz (x:Int),Iz I,Iz r4,Iz r5,Iz r6,Iz r7] 40));obtain⟨g5,bU⟩:=Zn w.heap.size;have B0:=Zw bE;have D0:=Zq bE bU;have h0:=h.below B0;have bQ:decide (P.n<=x)=true:=by simpa using hn
 obtain⟨ni,nj,bV,b5⟩:∃ni nj,ni=(cy P.n x).1/\nj=(cy P.n x).2:=⟨_,_,rfl,rfl⟩;have bR:nW P ⟨r0,r1,(x:Int),I,r4,r5,r6,r7⟩ O a5=[⟨r0,r1,(ni:Int),I,O,r5,r6,r7⟩,⟨r0,r1,(nj:Int),3 - I,a5,r5,r6,r7⟩]:=by
  rw[bV,b5];unfold nW;simp only[mD]
 obtain⟨c0,c1,c2,c3,c4,c5,c6,c7⟩:=D0.eight;obtain⟨m0,m1,m2,m3,m4,m5,m6,m7,m8,m9,cn,dc,dp⟩:=h0.cells;have dS:g5<w0.heap.size:=D0.lt;have ay:g<w0.heap.size:=h0.D.lt;have st:∀{u:World} {b i:Nat} {v:Value},b<w0.heap.size->aR w0.drew u->Cz w0 b i v->Cz u b i v:=fun {u b i v} hb hu hv=>Yb hu hb hv;have d0:=fun u (hu:aR w0.drew u)=>st ay hu m0;have d1:=fun u (hu:aR w0.drew u)=>st ay hu m1;have d2:=fun u (hu:aR w0.drew u)=>st ay hu m2;have d3:=fun u (hu:aR w0.drew u)=>st ay hu m3;have d4:=fun u (hu:aR w0.drew u)=>st ay hu m4;have d5:=fun u (hu:aR w0.drew u)=>st ay hu m5;have d6:=fun u (hu:aR w0.drew u)=>st ay hu m6;have d7:=fun u (hu:aR w0.drew u)=>st ay hu m7;have d8:=fun u (hu:aR w0.drew u)=>st ay hu m8;have d9:=fun u (hu:aR w0.drew u)=>st ay hu m9;have dT:=fun u (hu:aR w0.drew u)=>st ay hu cn;have e2:=fun u (hu:aR w0.drew u)=>st dS hu c2;obtain⟨H0,ct,ea,cv,HI,HJ,cF⟩:=yY h0 B0 D0 bQ bV b5 bR;rw[show(ir.val ⟨r0,r1,(x:Int),I,r4,r5,r6,r7⟩)= .agg #[Iz r0,Iz r1,Iz (x:Int),Iz I,Iz r4,Iz r5,Iz r6,Iz r7] from rfl];clear h h0 B0 D0 bQ bV b5 bR c0 c1 c2 c3 c4 c5 c6 c7 m0 m1 m2 m3 m4 m5 m6 m7 m8 m9 cn dc dp st hn
 go_enter Tryz.func146,Tryz.ntmps146
 go_upto_region 1 with(fail)
 rw[<-bE,<-bU];clear bE bU;refine Zg [6] [0,1,2,3,4,5,6,7,8,9,10,11,12,13] ?_;refine Yt ?_;clear d0 d1 d2 d3 d4 d5 d6 d7 d8 d9 dT e2;refine Ym fun K hK=>?_;refine(rD P ma mc sa sc x _ H0.drew.pd hx).mono ?_;rintro e w1⟨rfl,b1⟩;rw[cv.h,<-HI.h,<-HJ.h];refine Yo hK (b1) ?_;have b6:Bz w0 w1:=(aS (aa _ _)).trans b1;obtain⟨cH,b7⟩:=dF (ct.trans (b6.mono ct.size)) (ea.below b6);clear b1 b6;refine Yt ?_;refine aT ?_
 go_upto_region 2 with(fail)
 obtain⟨B,eB⟩:=Zn w1.heap.size;have bf:g5<B:=eB▸b7.lt;obtain⟨c0,c1,c2,c3,c4,c5,c6,c7⟩:=b7.h.eight;have st:∀{u:World} {i:Nat} {v:Value},Below B w1.drew u->Cz w1 g5 i v->Cz u g5 i v:=fun {u i v} hu hv=>Yb hu bf hv;have f0:=fun u (hu:Below B w1.drew u)=>st hu c0;have f1:=fun u (hu:Below B w1.drew u)=>st hu c1;have f2:=fun u (hu:Below B w1.drew u)=>st hu c2;have f3:=fun u (hu:Below B w1.drew u)=>st hu c3;have f4:=fun u (hu:Below B w1.drew u)=>st hu c4;have f5:=fun u (hu:Below B w1.drew u)=>st hu c5;have f6:=fun u (hu:Below B w1.drew u)=>st hu c6;have f7:=fun u (hu:Below B w1.drew u)=>st hu c7;clear st c0 c1 c2 c3 c4 c5 c6 c7;have cQ:=ao eB;clear eB
 go_cut [12,13] (fun v v' wx=> ∃ga gb,v= Pz ga/\v'= Pz gb/\Hid (aE wx ga 40 #[Iz r0,Iz r1,Iz (x:Int),Iz I,Iz r4,Iz r5,Iz r6,Iz r7]/\aE wx gb 40 #[Iz r0,Iz r1,Iz (x:Int),Iz I,Iz r4,Iz r5,Iz r6,Iz r7]/\ga≠gb/\B<=ga/\B<=gb/\Below B w1 wx))
 case first=>
  refine Zy B 6 ?_;refine Zr [0,1] 4 ?_;refine Yr ?_;clear f0 f1 f2 f3 f4 f5 f6 f7;obtain⟨u0,bH⟩:=Zn w1.drew;have a2:u0.heap.size=B:=by rw[bH,cQ.h];rfl
  have b0:Below B w1 u0:=bH▸(aa _ _).drew;rw[<-bH];clear bH;refine Zf [2,3] 3 ?_;refine Zo (fun K hK=>?_) ?_
  ·go_simp
   refine Yo hK (iV (aa _ _) (bu a2.symm) _) ?_;refine Zf [3] 2 ?_;refine Zo (fun K hK=>?_) ?_
   ·go_simp
    refine Yo hK (iV (aa _ _) (by rw[cw,a2];omega) _) ?_;obtain⟨u2,a0⟩:=Zn ((u0.alloc (.cells ji 40)).alloc (.cells ji 40));have bh:(u0.alloc (.cells ji 40)).heap.size=B+1:=by rw[cw,a2]
    have ZA:aE u2 B 40 ji:=a0▸a2▸(aE.new u0 _ _:aE (u0.alloc (.cells ji 40)) u0.heap.size 40 ji).below (au (aa _ _) _);have ZB:aE u2 (B+1) 40 ji:=a0▸bh▸aE.new _ _ _;have b2:Below B w1 u2:=a0▸(b0.alloc ae _).alloc ae _;rw[show(u0.alloc (.cells #[Iz 0,Iz 0,Iz 0,Iz 0,Iz 0,Iz 0,Iz 0,Iz 0] 40)).alloc (.cells #[Iz 0,Iz 0,Iz 0,Iz 0,Iz 0,Iz 0,Iz 0,Iz 0] 40)=u2 from a0.symm];obtain⟨a7,a8,b8⟩:=fY ZA ZB b2;have a3:B<=B:=ae;have a6:B<=B+1:=ae;have ax:(B:Nat)≠B+1:=ae;have YA:aE u2 (B) 40 ji:=by first|exact a7|exact a8
    have YB:aE u2 (B+1) 40 ji:=by first|exact a7|exact a8
    clear a0 bh ZA ZB b2 b0 a2 a7 a8;have wa:=bO (us:=[Iz r0,Iz r1,Iz (x:Int),Iz I,Iz r4,Iz r5,Iz r6,Iz r7]) YA rfl;have a4:=qH (us:=[Iz r0,Iz r1,Iz (x:Int),Iz I,Iz r4,Iz r5,Iz r6,Iz r7]) (i:=0) YB (Ne.symm ax);have wb:=bO (us:=[Iz r0,Iz r1,Iz (x:Int),Iz I,Iz r4,Iz r5,Iz r6,Iz r7]) a4 rfl;have ba:=qH (us:=[Iz r0,Iz r1,Iz (x:Int),Iz I,Iz r4,Iz r5,Iz r6,Iz r7]) (i:=0) wa ax;have l1:=bA (us:=[Iz r0,Iz r1,Iz (x:Int),Iz I,Iz r4,Iz r5,Iz r6,Iz r7]) (i:=0) a3 (aa B u2);have l2:=bA (us:=[Iz r0,Iz r1,Iz (x:Int),Iz I,Iz r4,Iz r5,Iz r6,Iz r7]) (i:=0) a6 (aa B (fW u2 (B) 0 [Iz r0,Iz r1,Iz (x:Int),Iz I,Iz r4,Iz r5,Iz r6,Iz r7]));have lt:=b8.h.trans (l1.trans l2);obtain⟨z0,z1,z2,z3,z4,z5,z6,z7⟩:=YA.eight;obtain⟨y0,y1,y2,y3,y4,y5,y6,y7⟩:=YA.GJ;obtain⟨q0,q1,q2,q3,q4,q5,q6,q7⟩:=a4.eight;obtain⟨p0,p1,p2,p3,p4,p5,p6,p7⟩:=a4.GJ;simp only[fW] at wa ba wb l1 l2 lt q0 q1 q2 q3 q4 q5 q6 q7 p0 p1 p2 p3 p4 p5 p6 p7;obtain⟨b9,cd,cf,ck,cl⟩:=rU ba wb l1 l2 lt;clear wa ba wb l1 l2 lt YA YB a4;refine Zf [4] 1 ?_;refine Zo (fun K hK=>?_) ?_
    ·go_simp
     refine Yo hK (cf) ?_;clear z0 z1 z2 z3 z4 z5 z6 z7 y0 y1 y2 y3 y4 y5 y6 y7;refine Zf [5] 0 ?_;refine Zo (fun K hK=>?_) ?_
     ·go_simp
      refine Yo hK (ck) ?_;clear q0 q1 q2 q3 q4 q5 q6 q7 p0 p1 p2 p3 p4 p5 p6 p7;refine Ze ?_;go_wp2_with fail;go_meet;exact⟨B,B+1,rfl,rfl,ao ⟨b9,cd,ax,a3,a6,cl⟩⟩
     exact aQ
    exact aQ
   exact aQ
  refine Zo (fun K hK=>?_) ?_
  ·go_simp
   refine Yo hK (iV (aa _ _) (bu a2.symm) _) ?_;refine Zf [2] 2 ?_;refine Zo (fun K hK=>?_) ?_
   ·go_simp
    refine Yo hK (iV (aa _ _) (by rw[cw,a2];omega) _) ?_;obtain⟨u2,a0⟩:=Zn ((u0.alloc (.cells ji 40)).alloc (.cells ji 40));have bh:(u0.alloc (.cells ji 40)).heap.size=B+1:=by rw[cw,a2]
    have ZA:aE u2 B 40 ji:=a0▸a2▸(aE.new u0 _ _:aE (u0.alloc (.cells ji 40)) u0.heap.size 40 ji).below (au (aa _ _) _);have ZB:aE u2 (B+1) 40 ji:=a0▸bh▸aE.new _ _ _;have b2:Below B w1 u2:=a0▸(b0.alloc ae _).alloc ae _;rw[show(u0.alloc (.cells #[Iz 0,Iz 0,Iz 0,Iz 0,Iz 0,Iz 0,Iz 0,Iz 0] 40)).alloc (.cells #[Iz 0,Iz 0,Iz 0,Iz 0,Iz 0,Iz 0,Iz 0,Iz 0] 40)=u2 from a0.symm];obtain⟨a7,a8,b8⟩:=fY ZA ZB b2;have a3:B<=B+1:=ae;have a6:B<=B:=ae;have ax:(B+1:Nat)≠B:=ae;have YA:aE u2 (B+1) 40 ji:=by first|exact a7|exact a8
    have YB:aE u2 (B) 40 ji:=by first|exact a7|exact a8
    clear a0 bh ZA ZB b2 b0 a2 a7 a8;have wa:=bO (us:=[Iz r0,Iz r1,Iz (x:Int),Iz I,Iz r4,Iz r5,Iz r6,Iz r7]) YA rfl;have a4:=qH (us:=[Iz r0,Iz r1,Iz (x:Int),Iz I,Iz r4,Iz r5,Iz r6,Iz r7]) (i:=0) YB (Ne.symm ax);have wb:=bO (us:=[Iz r0,Iz r1,Iz (x:Int),Iz I,Iz r4,Iz r5,Iz r6,Iz r7]) a4 rfl;have ba:=qH (us:=[Iz r0,Iz r1,Iz (x:Int),Iz I,Iz r4,Iz r5,Iz r6,Iz r7]) (i:=0) wa ax;have l1:=bA (us:=[Iz r0,Iz r1,Iz (x:Int),Iz I,Iz r4,Iz r5,Iz r6,Iz r7]) (i:=0) a3 (aa B u2);have l2:=bA (us:=[Iz r0,Iz r1,Iz (x:Int),Iz I,Iz r4,Iz r5,Iz r6,Iz r7]) (i:=0) a6 (aa B (fW u2 (B+1) 0 [Iz r0,Iz r1,Iz (x:Int),Iz I,Iz r4,Iz r5,Iz r6,Iz r7]));have lt:=b8.h.trans (l1.trans l2);obtain⟨z0,z1,z2,z3,z4,z5,z6,z7⟩:=YA.eight;obtain⟨y0,y1,y2,y3,y4,y5,y6,y7⟩:=YA.GJ;obtain⟨q0,q1,q2,q3,q4,q5,q6,q7⟩:=a4.eight;obtain⟨p0,p1,p2,p3,p4,p5,p6,p7⟩:=a4.GJ;simp only[fW] at wa ba wb l1 l2 lt q0 q1 q2 q3 q4 q5 q6 q7 p0 p1 p2 p3 p4 p5 p6 p7;obtain⟨b9,cd,cf,ck,cl⟩:=rU ba wb l1 l2 lt;clear wa ba wb l1 l2 lt YA YB a4;refine Zf [4] 1 ?_;refine Zo (fun K hK=>?_) ?_
    ·go_simp
     refine Yo hK (cf) ?_;clear z0 z1 z2 z3 z4 z5 z6 z7 y0 y1 y2 y3 y4 y5 y6 y7;refine Zf [5] 0 ?_;refine Zo (fun K hK=>?_) ?_
     ·go_simp
      refine Yo hK (ck) ?_;clear q0 q1 q2 q3 q4 q5 q6 q7 p0 p1 p2 p3 p4 p5 p6 p7;refine Ze ?_;go_wp2_with fail;go_meet;exact⟨B+1,B,rfl,rfl,ao ⟨b9,cd,ax,a3,a6,cl⟩⟩
     exact aQ
    exact aQ
   exact aQ
  exact aQ
 obtain⟨ga,gb,rfl,rfl,HX⟩:=hcut;obtain⟨A1,B1,ax,a3,a6,cS⟩:=HX.h;have x2:=A1.cell;have eb:=A1.frozen;obtain⟨w3,bp⟩:=Zn ((wc.setCell ⟨ga,2,none⟩ (Iz (ni:Int))).setCell ⟨ga,4,none⟩ (Iz O));have A3:aE w3 ga 40 #[Iz r0,Iz r1,Iz (ni:Int),Iz I,Iz O,Iz r5,Iz r6,Iz r7]:=bp▸(A1.set 2 (Iz (ni:Int))).set 4 (Iz O);have B3:aE w3 gb 40 #[Iz r0,Iz r1,Iz (x:Int),Iz I,Iz r4,Iz r5,Iz r6,Iz r7]:=bp▸B1.block (by rw[av _ _ _ _ (Ne.symm ax),av _ _ _ _ (Ne.symm ax)]);have b3:Below B w1 w3:=bp▸(cS.setCell (p:=⟨ga,2,none⟩) a3 _).setCell (p:=⟨ga,4,none⟩) a3 _;obtain⟨ed,bb,cT,cm,bc⟩:=rU A3 B3 b3 ax a6;clear HX A1 B1 ax a3 a6 cS A3 B3 b3;have ek:IntKind.i64.wrap (3 - I)=3 - I:=aN _ ae
 go_upto_region 4 with(fail)
 rw[<-bp];clear bp x2 eb;have st:∀{u:World} {i:Nat} {v:Value},Below B w3.drew u->Cz w3 g5 i v->Cz u g5 i v:=fun {u i v} hu hv=>Yb hu bf hv;have k3:Cz w3 g5 3 (Iz I):=Yb cT bf (b7.cell 3);have f3:=fun u (hu:Below B w3.drew u)=>st hu k3;clear st k3;refine bx (R:=Below B) 99999 [6,8,10] [0,1,2,3,4,5,6,7,8,9,10] (by kernel_rfl) (dH.tr _) (dH.J _) (by kernel_rfl) (fun _ _ _ _ _ h=>h) ?_;refine Yt ?_;clear f3;have y2:Cz w3 gb 2 (Iz (x:Int)):=bb.cell 2;have ef:=bb.h.frozen;have y3:Cz w3 gb 3 (Iz I):=bb.cell 3;have eg:=bb.h.frozen;have y4:Cz w3 gb 4 (Iz r4):=bb.cell 4;have ei:=bb.h.frozen;refine Ym fun K hK=>?_;refine Yo hK (mf (p:=⟨gb,2,none⟩) (aa _ _) bc _) ?_;refine Yt ?_;refine Ym fun K hK=>?_;refine Yo hK (mf (p:=⟨gb,3,none⟩) (aa _ _) bc _) ?_;refine Yt ?_;refine Ym fun K hK=>?_;refine Yo hK (mf (p:=⟨gb,4,none⟩) (aa _ _) bc _) ?_;refine Yt ?_;clear y2 ef y3 eg;refine aT ?_;clear y4 ei;obtain⟨w4,bt⟩:=Zn ((((w3.setCell ⟨gb,2,none⟩ (Iz (nj:Int))).setCell ⟨gb,3,none⟩ (Iz (3 - I))).setCell ⟨gb,4,none⟩ (Iz a5)).drew);have B4:aE w4 gb 40 #[Iz r0,Iz r1,Iz (nj:Int),Iz (3 - I),Iz a5,Iz r5,Iz r6,Iz r7]:=bt▸(((bb.set 2 (Iz (nj:Int))).set 3 (Iz (3 - I))).set 4 (Iz a5)).drew;have A4:aE w4 ga 40 #[Iz r0,Iz r1,Iz (ni:Int),Iz I,Iz O,Iz r5,Iz r6,Iz r7]:=bt▸(ed.block (by rw[av _ _ _ _ cm.h,av _ _ _ _ cm.h,av _ _ _ _ cm.h])).drew;have b4:Below B w1 w4:=bt▸(((cT.setCell (p:=⟨gb,2,none⟩) bc _).setCell (p:=⟨gb,3,none⟩) bc _).setCell (p:=⟨gb,4,none⟩) bc _).drew;rw[<-bt];clear bt;obtain⟨c0,c1,c2,c3,c4,c5,c6,c7⟩:=A4.eight;obtain⟨v0,v1,v2,v3,v4,v5,v6,v7⟩:=B4.eight;have ej:=ao b4;clear A4 B4 b4;go_wp2_with fail;go_ret;have cX:Bz w w4:=cH.trans (ej.mono (cQ.h▸cH.size));refine⟨some ⟨w4.heap.size,0,none⟩,2,rfl,?_,au cX _⟩;rw[cF.h];exact cI (base:=w.heap.size) (size:=8) w4 #[Iz r0,Iz r1,Iz (ni:Int),Iz I,Iz O,Iz r5,Iz r6,Iz r7,Iz r0,Iz r1,Iz (nj:Int),Iz (3 - I),Iz a5,Iz r5,Iz r6,Iz r7] 2 cX.size (by unfold maxLen;omega) rfl
structure oN (B:Nat) (w:World) (go:Nat) (L:List ir) (A:Option Addr) (c:Nat):Prop where
 D:aE w go 32 #[.slice A L.length c]
 row:lD B w A c L
 ge:B≤go
theorem oN.ne {L:List ir} {c:Nat} (h:oN B w go L A c):(Value.slice A L.length c).ownBlock≠some go:=fun e=>by
 obtain⟨cur,hc⟩:=bY h.row e;exact jY h.D hc (by decide) rfl
theorem oN.below {L:List ir} {c:Nat} (h:oN B w go L A c) (I:Bz w w'):oN B w' go L A c:=⟨h.D.below I,bP h.row I,h.ge⟩
theorem oN.more {L M:List ir} {c:Nat} (h:oN B w go L A c) (hn:n=L.length+M.length) (hr:w'.ownsRow B 40 8 (.slice A' n c') n (fC L++fC M)) (hg:w.grownBy w' (Value.slice A L.length c).ownBlock)
  (hl:(Value.slice A' n c').ownBlock=(Value.slice A L.length c).ownBlock\/∃k,(Value.slice A' n c').ownBlock=some k/\w.heap.size<=k):oN B (w'.setCell ⟨go,0,none⟩ (.slice A' n c')) go (L++M) A' c':=by
 have J:=h.D.lt;have O:n=(L++M).length:=by rw[hn,aC]
 subst O;have hb:=h.D.block (hg.block go J fun e=>h.ne e.symm);refine⟨hb.set 0 _,?_,h.ge⟩;unfold lD;rw[rJ];refine aX hr fun g I=>av _ _ _ _ fun e=>?_;have e':g=go:=e;subst e';rcases hl with h1|⟨k,h1,h2⟩
 ·rw[h1] at I;exact h.ne I
 ·rw[h1] at I;injection I with I;omega
theorem JF {r:ir} (h:r.inst.toNat<P.n):lz P st r=[r]:=by unfold lz;rw[if_pos h]
theorem GK {r:ir} (h:¬r.inst.toNat<P.n):lz P st r=[r]++nW P r (fg P r.inst.toNat st).1 (fg P r.inst.toNat st).2:=by unfold lz;rw[if_neg h];rfl
theorem JG (w0:World) (g:Nat) (P:PD) (ma:Option Addr) (mc:Nat) (sa:Option Addr) (sc:Nat) (s ub:Nat) (x:Nat) (y:zJ) (gm gx go:Nat) (L:List ir) (A:Option Addr) (c:Nat) (r:ir) (w:World)
  (h:JD w0 g P ma mc sa sc s ub) (hy:sM w0 gx y) (hm:w0.cell? ⟨gm,0,none⟩=some (.pointer (some ⟨g,0,none⟩))) (bU:gm<w0.heap.size) (hb:Below w0.heap.size w0 w) (T:oN w0.heap.size w go L A c)
  (hr:r.inst=(x:Int)) (hx:x<P.count) (hs:1<=r.side/\r.side<=2) (hw:y.st.imp=false->P.n<=x->P.fy x y.st.ag=0) (hf:y.st.U.length<=500) (hl:L.length<=100000):
  Calls Tryz.prog 143 #[r.val, .pointer (some ⟨go,0,none⟩), .pointer (some ⟨gm,0,none⟩), .pointer (some ⟨gx,0,none⟩)] w fun e w'=>e= .returned (.tuple #[])/\∃A' c',oN w0.heap.size w' go (L++lz P y.st r) A' c'/\Below w0.heap.size w0 w':=by
 obtain⟨r0,r1,r2,r3,r4,r5,r6,r7⟩:=r;simp only at hr hs;subst hr;obtain⟨B,eB⟩:=Zn w0.heap.size;rw[<-eB] at hb T⊢;obtain⟨w1,bh⟩:=Zn (w.alloc (.cells #[.int .i64 r0, .int .i64 r1, .int .i64 (x:Int), .int .i64 r3, .int .i64 r4, .int .i64 r5, .int .i64 r6, .int .i64 r7] 40));obtain⟨g4,cF⟩:=Zn w.heap.size;have b1:Below w.heap.size w w1:=by rw[bh];exact au (aa _ _) _
 have D1:aE w1 g4 40 #[.int .i64 r0, .int .i64 r1, .int .i64 (x:Int), .int .i64 r3, .int .i64 r4, .int .i64 r5, .int .i64 r6, .int .i64 r7]:=by rw[bh,cF];exact heap_alloc_new _ _
 have d2:B<=w.heap.size:=by rw[eB];exact hb.size
 have T1:=T.below b1;have d3:Below B w0 w1:=hb.trans (b1.mono d2);have bV:∀k,(Value.slice A L.length c).ownBlock=some k->k<w.heap.size:=fun k hk=>(T.row.lt k hk).2;obtain⟨c0,c1,c2,c3,c4,c5,c6,c7⟩:=D1.eight;obtain⟨N,eN⟩:=Zn L.length;have o0:w1.cell? ⟨go,0,none⟩=some (.slice A N c):=by rw[eN];exact T1.D.cell 0
 have d4:w1.ownsRow B 40 8 (.slice A N c) N (fC L):=by rw[eN];exact T1.row
 have d5:go<w1.heap.size:=T1.D.lt;have hN:N<=100000:=by omega
 have b0:(Value.slice A N c).ownBlock≠some go:=by rw[eN];exact T1.ne
 have b8:(Value.slice A N c).ownBlock≠some g4:=by rw[eN];exact fun e=>by have:=bV _ e;omega
 have d6:=ao (show B<=w1.heap.size from aF d2 b1.size);have H:=ao h;have HY:=ao hy;have HM:=ao hm;have bp:=ao T1;have eA:=ao d3;have a3:=ao D1;have HN:=ao eN;have HR:=ao d4;have HW:=ao hw;have ay:=ao eB;have b9:=ao b0;have a4:=ao b8;have a5:=ao bU;rw[show(ir.val ⟨r0,r1,(x:Int),r3,r4,r5,r6,r7⟩)= .agg #[.int .i64 r0, .int .i64 r1, .int .i64 (x:Int), .int .i64 r3, .int .i64 r4, .int .i64 r5, .int .i64 r6, .int .i64 r7] from rfl];clear h hy hm hb T T1 d3 D1 eN d4 hw eB b1 bV b0 b8 bU
 go_enter Tryz.func143,Tryz.ntmps143
 go_upto_region 1 with(fail)
 rw[<-bh,<-cF];clear bh cF
 go_upto_region 2 with(
       at_builtin
       refine dO yP HR.h #[.int .i64 r0, .int .i64 r1, .int .i64 (x:Int), .int .i64 r3, .int .i64 r4, .int .i64 r5, .int .i64 r6, .int .i64 r7] rfl _ _ rfl rfl rfl rfl (by intro u hu;simp at hu;rcases hu with rfl|rfl|rfl|rfl|rfl|rfl|rfl|rfl<;>rfl) (by omega) (by have:=d6.h;omega) ?_;intro A2 O w2 cd g2 b2 l2;have k2:w2.heap[go]?=w1.heap[go]?:=g2.block go d5 fun e=>b9.h e.symm;have o2:w2.cell? ⟨go,0,none⟩=some (.slice A N c):=Yd k2 o0;have z2:w2.frozen? ⟨go,0,none⟩=false:=(aY (a:=⟨go,0,none⟩) k2).trans (bp.h.D.frozen 0);have K2:=ao k2;have cf:=ao cd;have cH:=ao g2;have d7:=ao b2;have I:=ao l2;clear k2 cd g2 b2 l2)
 have cQ:=bp.h.more (M:=[⟨r0,r1,(x:Int),r3,r4,r5,r6,r7⟩]) (n:=N+1) (A':=A2) (c':=O) (w':=w2) (by rw[HN.h];rfl) (by rw[show fC [⟨r0,r1,(x:Int),r3,r4,r5,r6,r7⟩]=#[.int .i64 r0, .int .i64 r1, .int .i64 (x:Int), .int .i64 r3, .int .i64 r4, .int .i64 r5, .int .i64 r6, .int .i64 r7].toList from rfl];exact cf.h) (by rw[<-HN.h];exact cH.h) (by
  rcases I.h with h1|h1
  ·exact .inl (by rw[<-HN.h];exact h1)
  ·exact .inr ⟨_,h1,by omega⟩)
 obtain⟨w3,bt⟩:=Zn (w2.setCell ⟨go,0,none⟩ (.slice A2 (N+1) O));rw[<-bt] at cQ⊢;have b3:Below B w0 w3:=by rw[bt];exact(d7.h _ _ (af _) eA.h).setCell (p:=⟨go,0,none⟩) bp.h.ge _
 have ck:g4≠go:=jY bp.h.D a3.h (by decide);have D3:aE w3 g4 40 #[.int .i64 r0, .int .i64 r1, .int .i64 (x:Int), .int .i64 r3, .int .i64 r4, .int .i64 r5, .int .i64 r6, .int .i64 r7]:=by
  rw[bt];exact a3.h.block ((av _ _ _ _ ck).trans (cH.h.block g4 a3.h.lt fun e=>a4.h e.symm))
 have bE:Below w0.heap.size w0 w3:=by rw[<-ay.h];exact b3
 have eC:=ao (H.h.below bE);have m3:w3.cell? ⟨gm,0,none⟩=some (.pointer (some ⟨g,0,none⟩)):=Yb bE a5.h HM.h;obtain⟨c0,c1,c2,c3,c4,c5,c6,c7⟩:=D3.eight;have d8:=ao cQ;have d9:=ao b3;have eD:=ao D3;have cl:=ao bE;have ea:Hid ((Value.slice A2 (N+1) O).ownBlock≠some g4):=ao fun e=>by
  rcases I.h with h1|h1
  ·rw[h1] at e;exact a4.h e
  ·rw[h1] at e;injection e with e;have:=a3.h.lt;omega
 clear cQ b3 D3 bE bt o0 d5 ck K2 cf cH d7 I a3 HR b9 a4 d6;go_wp2_with fail;refine(UD g P ma mc sa sc s ub x w3 eC.h hx).mono ?_;rintro e w4⟨rfl,b4⟩
 by_cases a6:P.n<=x
 ·have hd:decide (P.n<=x)=true:=by simpa using a6
  rw[hd];have B4:Below B w0 w4:=d9.h.trans (b4.mono (by rw[ay.h];exact cl.h.size));have a7:Below w0.heap.size w0 w4:=by rw[<-ay.h];exact B4
  have cS:=ao (d8.h.below b4);have eb:=ao (eD.h.below b4);have eE:=ao (H.h.below a7);have ed:=ao (HY.h.below a7);have m4:w4.cell? ⟨gm,0,none⟩=some (.pointer (some ⟨g,0,none⟩)):=Yb a7 a5.h HM.h;obtain⟨y0,y1,y2,y3⟩:=ed.h.four;have cT:=ao B4;have eg:=ao a7;clear b4 B4 a7 c0 c1 c2 c3 c4 c5 c6 c7 m3 hd;obtain⟨c0,c1,c2,c3,c4,c5,c6,c7⟩:=eb.h.eight;go_wp2_with fail;refine(Ma g P ma mc sa sc s ub x y w4 eE.h hx a6 (fun h=>HW.h h a6) hf ed.h.fl).mono ?_;rintro e w5⟨rfl,b5⟩;obtain⟨a2,bH,en,ef⟩:∃a2 bH,a2=(fg P x y.st).1/\bH=(fg P x y.st).2:=⟨_,_,rfl,rfl⟩;rw[<-en,<-ef];have eF:=ao en;have eG:=ao ef;have B5:Below B w0 w5:=cT.h.trans (b5.mono (by rw[ay.h];exact eg.h.size));have a8:Below w0.heap.size w0 w5:=by rw[<-ay.h];exact B5
  have T5:=cS.h.below b5;have D5:=eb.h.below b5;have eI:=ao (H.h.below a8);have m5:w5.cell? ⟨gm,0,none⟩=some (.pointer (some ⟨g,0,none⟩)):=Yb a8 a5.h HM.h;clear b5 en ef c0 c1 c2 c3 c4 c5 c6 c7 m4 y0 y1 y2 y3;obtain⟨L2,bQ⟩:=Zn (L++[(⟨r0,r1,(x:Int),r3,r4,r5,r6,r7⟩:ir)]);obtain⟨S6,cX⟩:=Zn (nW P ⟨r0,r1,(x:Int),r3,r4,r5,r6,r7⟩ a2 bH);have ei:S6.length=2:=by rw[cX];rfl
  rw[<-bQ] at T5;have dc:L2.length=N+1:=by rw[bQ,aC,HN.h];rfl
  have ej:∀k,(∃cs T,w5.heap[k]?=some (.cells cs T (0,0))/\T≠40)->(Value.slice A2 L2.length O).ownBlock≠some k:=fun k ⟨cs,T,h1,h2⟩ e=>by
   obtain⟨cur,hc⟩:=bY T5.row e;exact jY h1 hc h2 rfl
  obtain⟨Fs,ba⟩:=Zn (fun k=>k=go\/k=gm\/k=g4:Nat->Prop);have dp:Fs go:=by rw[ba];exact .inl rfl
  have ek:Fs gm:=by rw[ba];exact .inr (.inl rfl)
  have a0:Fs g4:=by rw[ba];exact .inr (.inr rfl)
  have o5:w5.cell? ⟨go,0,none⟩=some (.slice A2 (N+1) O):=by rw[<-dc];exact T5.D.cell 0
  obtain⟨c0,c1,c2,c3,c4,c5,c6,c7⟩:=D5.eight;have n0:∀u,aI Fs w5.drew u->u.cell? ⟨go,0,none⟩=some (.slice A2 (N+1) O):=fun u hu=>(hu.cell dp).trans o5;have n1:∀u,aI Fs w5.drew u->u.cell? ⟨gm,0,none⟩=some (.pointer (some ⟨g,0,none⟩)):=fun u hu=>(hu.cell ek).trans m5;have q0:∀u,aI Fs w5.drew u->u.cell? ⟨g4,0,none⟩=some (.int .i64 r0):=fun u hu=>(hu.cell a0).trans c0;have q1:∀u,aI Fs w5.drew u->u.cell? ⟨g4,1,none⟩=some (.int .i64 r1):=fun u hu=>(hu.cell a0).trans c1;have q2:∀u,aI Fs w5.drew u->u.cell? ⟨g4,2,none⟩=some (.int .i64 (x:Int)):=fun u hu=>(hu.cell a0).trans c2;have q3:∀u,aI Fs w5.drew u->u.cell? ⟨g4,3,none⟩=some (.int .i64 r3):=fun u hu=>(hu.cell a0).trans c3;have q4:∀u,aI Fs w5.drew u->u.cell? ⟨g4,4,none⟩=some (.int .i64 r4):=fun u hu=>(hu.cell a0).trans c4;have q5:∀u,aI Fs w5.drew u->u.cell? ⟨g4,5,none⟩=some (.int .i64 r5):=fun u hu=>(hu.cell a0).trans c5;have q6:∀u,aI Fs w5.drew u->u.cell? ⟨g4,6,none⟩=some (.int .i64 r6):=fun u hu=>(hu.cell a0).trans c6;have q7:∀u,aI Fs w5.drew u->u.cell? ⟨g4,7,none⟩=some (.int .i64 r7):=fun u hu=>(hu.cell a0).trans c7;have el:go<w5.heap.size/\gm<w5.heap.size/\g4<w5.heap.size:=⟨T5.D.lt,by have:=a8.size;have:=a5.h;omega,D5.lt⟩;have eo:=ao el;have dS:=ao T5;have eO:=ao D5;have ep:=ao B5;have cm:=ao a8;have I:=ao dc;have er:=ao cX;have bb:=ao ei;have et:=ao bQ;have dT:=ao ba;have cn:=ao dp;have eu:=ao ej;clear el T5 D5 B5 a8 dc cX ei bQ ba dp ek a0 c0 c1 c2 c3 c4 c5 c6 c7 m5 o5 ej
  go_upto_region 4 with(fail)
  refine bx (R:=aI Fs) 7 [5,6,7] [0,1,2,3,4,5,6,7] (by kernel_rfl) (aI.tr _) (aI.J _) (by kernel_rfl) (fun _ _ _ _ _ h=>h) ?_;refine Yt ?_;clear n0 n1 q0 q1 q2 q3 q4 q5 q6 q7;refine Ym fun K hK=>?_;refine(Mb g P ma mc sa sc s ub x ⟨r0,r1,(x:Int),r3,r4,r5,r6,r7⟩ a2 bH _ eI.h.drew rfl hx a6 hs).mono ?_;rintro e w6⟨A6,c6,rfl,bc,b6⟩;rw[<-er.h] at bc;have bf:Below w5.heap.size w5 w6:=(aS (aa _ _)).trans b6;have eJ:aI Fs w5.drew w6:=fun k hk=>by
   rw[dT.h] at hk;obtain⟨h1,h2,h3⟩:=eo.h;rcases hk with rfl|rfl|rfl
   ·exact b6.block _ h1
   ·exact b6.block _ h2
   ·exact b6.block _ h3
  have T6:=dS.h.below bf;have B6:Below B w0 w6:=ep.h.trans (bf.mono (by rw[ay.h];exact cm.h.size));have C6:Cells w6 A6 (fC S6):=dP.cC bc;have ew:∀k,Fs k->(Value.slice A2 L2.length O).ownBlock≠some k:=fun k hk=>by
   rw[dT.h] at hk;rcases hk with rfl|rfl|rfl
   ·exact eu.h _ ⟨_,_,dS.h.D,by decide⟩
   ·exact fun e=>by have:=(dS.h.row.lt _ e).1;have:=a5.h;have:=ay.h;omega
   ·rw[I.h];exact ea.h
  have eK:=ao eJ;refine Yo hK (eK.h) ?_;refine Yt ?_;refine Zm fun K hK=>?_;have ey:w6.ownsRow B 40 8 (.slice A2 (N+1) O) (N+1) (fC L2):=by rw[<-I.h];exact T6.row
  refine fZ yP ey (A:=A6) (m:=2) (c:=c6) (news:=fC S6) _ _ rfl rfl rfl (by rw[iL,bb.h]) (by intro h0;have h1:=iL S6;rw[h0,bb.h] at h1;simp at h1) C6 (x9 S6) (by omega) (by have:=ep.h.size;have:=ay.h;have:=bf.size;have:=cm.h.size;omega) (N+1+2) _ rfl rfl ?_;intro A7 c7 w7 ax;have ct:∀k,Fs k->k<w6.heap.size:=fun k hk=>by
   have hs:=bf.size;rw[dT.h] at hk;obtain⟨h1,h2,h3⟩:=eo.h;rcases hk with rfl|rfl|rfl<;>omega
  have bR:aI Fs w6 w7:=fun k hk=>ax.grown.block k (ct k hk) fun e=>ew k hk (by rw[I.h];exact e.symm);have o7:w7.cell? ⟨go,0,none⟩=some (.slice A2 (N+1) O):=Yd (bR go cn.h) (by rw[<-I.h];exact T6.D.cell 0);have z7:w7.frozen? ⟨go,0,none⟩=false:=(aY (a:=⟨go,0,none⟩) (bR go cn.h)).trans (T6.D.frozen 0);have fin:=T6.more (M:=S6) (n:=N+1+2) (by rw[I.h,bb.h]) ax.own (by rw[I.h];exact ax.grown) (by
   rcases ax.jV with h1|h1
   ·exact .inl (by rw[I.h];exact h1)
   ·exact .inr ⟨_,h1,af _⟩)
  have b7:=(ax.below B w0 (af _) B6).setCell (p:=⟨go,0,none⟩) T6.ge (.slice A7 (N+1+2) c7);have eL:=ao bR;have ez:=ao fin;have eM:=ao b7;clear bR fin b7 ct ax T6 B6 C6 ew ey bf bc;refine Yo hK (eL.h) ?_;refine Yt ?_;refine Zl fun K hK=>?_;go_simp;refine Yl hK ?_;refine aT ?_;go_wp2_with fail
  go_end0
  refine⟨rfl,A7,c7,?_,eM.h⟩;have cv:=ez.h;rw[et.h,bD,er.h] at cv;rw[GK (by simp only[mD];omega)];simp only[mD];rw[<-eF.h,<-eG.h];exact cv
 ·have hd:decide (P.n<=x)=false:=by simpa using a6
  rw[hd];have cS:=ao (d8.h.below b4);have cT:=ao (d9.h.trans (b4.mono (by rw[ay.h];exact cl.h.size)));clear b4 c0 c1 c2 c3 c4 c5 c6 c7 m3 hd;go_wp2_with fail
  go_end0
  refine⟨rfl,A2,O,?_,cT.h⟩;rw[JF (by simp only[mD];omega)];exact cS.h
theorem Fw (P:PD) (st:jz) (r:ir):(lz P st r).length<=3:=by
 unfold lz
 split
 ·simp
 ·simp[nW]
theorem vv (P:PD) (st:jz):∀l:List fG,(l.flatMap fun f=>lz P st (oC f)).length<=3*l.length
 |[]=>bT
 |f::l=>by
  have D:=Fw P st (oC f);have I:=vv P st l;rw[bj,aC,bI];omega
theorem Sw (g:Nat) (P:PD) (ma:Option Addr) (mc:Nat) (sa:Option Addr) (sc:Nat) (s ub:Nat) (x k:Nat) (y:zJ) (c:bN) (left:Int) (w:World)
  (h:JD w g P ma mc sa sc s ub) (hf:Cells w y.A (gW y.st.U)) (ax:c.inst=(x:Int)) (ay:c.side=(k:Int)+1) (hx:x<P.count) (hk:k<2) (ho:GD P x k y.st):
  Wz 108 #[Pz g,c.val, .agg y.cells.toArray,Iz left] w fun e w'=> ∃A cp,e= .returned (.slice A (nH P c.id x k y.st left).length cp)/\lD w.heap.size w' A cp (nH P c.id x k y.st left)/\Bz w w':=by
 obtain⟨w0,O⟩:=Zn (((w.alloc (.cells #[Pz g] 28)).alloc (.cells c.cells 35)).alloc (.cells y.cells.toArray 186))
 go_enter Tryz.func108,Tryz.ntmps108
 rw[show c.val= .agg c.cells from rfl]
 go_upto_region 1 with(fail)
 rw[<-O];obtain⟨gm,a7⟩:=Zn w.heap.size;obtain⟨gc,a2⟩:=Zn (w.heap.size+1);obtain⟨gx,a8⟩:=Zn (w.heap.size+1+1);rw[<-a8,<-a2,<-a7];have q1:(w.alloc (.cells #[Pz g] 28)).heap.size=gc:=by rw[cw,a2]
 have q2:((w.alloc (.cells #[Pz g] 28)).alloc (.cells c.cells 35)).heap.size=gx:=by rw[cw,q1,a8,a2]
 have B0:Bz w w0:=O▸au (au (au (aa _ _) _) _) _;have DM:aE w0 gm 28 #[Pz g]:=O▸a7▸(aE.new w _ 28).below (au (au (aa _ _) _) _);have DC:kM w0 gc c:=O▸q1▸(kM.new _ c).below (au (aa _ _) _);have DX:aE w0 gx 186 y.cells.toArray:=O▸q2▸aE.new _ _ _;have h0:=h.below B0;have ba:sM w0 gx y:=⟨DX,hf.below B0⟩;have bQ:Cz w0 gm 0 (Pz g):=DM.cell 0;have bR:=DM.lt;obtain⟨N,eN⟩:=Zn y.st.U.length;have bU:N<=500:=eN▸ho.len;obtain⟨go,a3⟩:=Zn w0.heap.size;obtain⟨w1,a4⟩:=Zn (w0.alloc (.cells #[.slice none 0 0] 32));have T1:oN w0.heap.size w1 go [] none 0:=⟨a4▸a3▸aE.new _ _ _,aM _ _ _ _,ae⟩;have B1:=Zw a4;have bV:=ba.below B1;obtain⟨y0,y1,y2,y3⟩:=bV.four;rw[<-eN] at y3;obtain⟨H,HY,HM,b0,b9,cd,bc,HC,HO,cf,ck,HN,cn⟩:=QO h0 ba bQ bR T1 B1 B0 DC ho ax ay eN a3;clear h h0 ba bQ bR T1 B1 B0 DC DM DX ho ax ay eN hf bV q1 q2 O a7 a2 a8
 go_upto_region 2 with(fail)
 rw[<-a4,<-a3];clear a4 a3;go_wp2_with fail
 go_loopw [17] (fun v wr=> ∃m:Nat,m<=N/\v= Iz (m:Int)/\Hid (∃A cp,oN w0.heap.size wr go ((y.st.U.take m).flatMap fun f=>lz P y.st (oC f)) A cp/\Bz w0 wr)) (fun v _=>N - (intOf v).toNat)
 case atStart=>exact⟨0,aB _,rfl,ao ⟨none,0,b9,cd⟩⟩
 case round=>
  obtain⟨m,hm,rfl,HR⟩:=hrel;obtain⟨A,cp,T,hB⟩:=HR.h
  by_cases a5:m<N
  ·obtain⟨b',o',f,eA,ct,c0,c1,c2,c3,c4,c5,b2⟩:=JE ((HY.below hB).fl) (m:=m) (HN.h▸a5)
   have i1:(m:Int)<N:=ae;have I:f∈y.st.U:=aH b2.h;obtain⟨cl,cv⟩:=HO.h.inst f I;obtain⟨HT,a6,b3,cm⟩:=mh T hB a5 I;rw[eA];clear T hB HR a5 hm y0 y1 y2 y3 eA I;go_wp2_with fail;have hlen:=vv P y.st (y.st.U.take m);have b4:(y.st.U.take m).length<=N:=by rw[bJ];have:=HN.h;omega
   obtain⟨wb,bf⟩:=Zn (wr.alloc (.cells #[Iz f.id,Iz (f.inst:Int),Iz ((f.k:Int)+1),Iz f.ag,Iz f.aw,Iz f.left] 240));have bb:=Zw bf;rw[<-bf];refine(JG w0 g P ma mc sa sc s ub f.inst y gm gx go _ A cp (oC f) wb H HY HM b0 (a6.trans (bb.mono a6.size)) (HT.below bb) rfl cl ⟨by show(1:Int)<=(f.k:Int)+1;omega,by show(f.k:Int)+1<=2;omega⟩ (fun b5 hn=>by rw[HO.h.real b5 f cm.h];exact HO.fy) (HN.h▸bU) ae).mono ?_;rintro e w'⟨rfl,A',c',J,a0⟩;obtain⟨bh,bp⟩:=dF J a0;clear J a0 bf bb hlen b4 c0 c1 c2 c3 c4 c5;go_wp2_with fail;go_roundw
   case rel=>
    refine⟨m+1,cA b3.h,by go_num,ao ⟨A',c',?_,bp⟩⟩;rw[bC,b2.h,rR];have:=bh.h;simpa using this
   case measure=>have:=b3.h;simp[intOf];omega
  ·obtain rfl:m=N:=ae
   have i1:¬((m:Int)<m):=ae;rw[HN.h,dE] at T;have hC:=HC.h.below hB;have b6:=HY.h.below hB;obtain⟨k1,n1,bt,bE,p1,q1,l1,t1,cF⟩:=c;obtain⟨d0,d1,d2,d3,d4,d5,d6,d7,d8⟩:=hC.reads;have ax:bt=(x:Int):=cf;have ay:bE=(k:Int)+1:=ck;rw[ax] at d2;rw[ay] at d3;obtain⟨z0,z1,z2,z3⟩:=b6.four;obtain⟨HT,a6⟩:=dF T hB;clear T hB HR a5 hm y0 y1 y2 y3 hC b6 d0 d4 d5 d6 d7 d8 z2 z3 ax ay;go_wp2_with fail;have hlen:=vv P y.st y.st.U;refine(JG w0 g P ma mc sa sc s ub x y gm gx go _ A cp ⟨3,n1,(x:Int),(k:Int)+1,y.st.ag,y.st.aw,left,0⟩ wr H HY HM b0 a6 HT rfl hx ⟨by show(1:Int)<=(k:Int)+1;omega,by show(k:Int)+1<=2;omega⟩ (fun b5 hn=>HO.fy) (HN.h▸bU) (cA HN.h)).mono ?_;rintro e w'⟨rfl,A',c',J,a0⟩;have o9:=J.D.cell 0;obtain⟨LL,bH⟩:=Zn (nH P n1 x k y.st left);have b7:(y.st.U.flatMap fun f=>lz P y.st (oC f))++lz P y.st ⟨3,n1,(x:Int),(k:Int)+1,y.st.ag,y.st.aw,left,0⟩=LL:=by rw[bH];rfl
   rw[b7] at J o9;have cH:Cz w' go 0 (.slice A' LL.length c'):=o9;obtain⟨bh,bp,b8⟩:=fY J a0 bH;clear J a0 hlen d1 d2 d3 z0 z1 o9 bH b7;go_wp2_with fail;go_ret;refine⟨A',c',by rw[<-b8.h];rfl,?_,bc.trans (bp.mono bc.size)⟩;rw[<-b8.h];exact ch bh.row bc.size
def sY (u:Int→Bool) (id:Int):Option Value:=if u id=true then some (.bool true) else none
structure zt where
 ma:Option Addr
 mc:Nat
 sa:Option Addr
 sc:Nat
 s:Nat
 ub:Nat
variable {C:zt}
structure jW (w:World) (Gs R:Nat→Prop) (g:Nat) (P:PD) (m:Mk) (C:zt):Prop where
 b:JD w g P C.ma C.mc C.sa C.sc C.s C.ub
 st:dR w Gs R C.s P m.S
 us:fR w C.ub (sY m.used) m.un
 gl:∀k,Gs k→k<w.heap.size
 rl:∀k,R k→k<w.heap.size
 sep:∀k,Gs k→k≠g∧k≠C.ub∧¬R k
 gu:g≠C.ub
 ro:∀k,qP C.ma k∨qP C.sa k→R k
 rg:¬R g∧¬R C.ub
 su:∀id,fI m.S id→m.used id=true
theorem JD.same (h:JD w g P ma mc sa sc s ub) (hg:w'.heap[g]?=w.heap[g]?) (hr:∀k,qP ma k\/qP sa k->k<w.heap.size->w'.heap[k]?=w.heap[k]?) (hs:w.heap.size<=w'.heap.size):JD w' g P ma mc sa sc s ub:=
 ⟨h.D.block hg,h.pd.same hr hs⟩
theorem jW.below (h:jW w Gs R g P m C) (D:Bz w w'):jW w' Gs R g P m C:=
 ⟨h.b.below D,h.st.below D,h.us.below D,fun k I=>aA (h.gl k I) D.size,fun k I=>aA (h.rl k I) D.size,h.sep,h.gu,h.ro,h.rg,h.su⟩
theorem jW.state {Gs':Nat->Prop} (h:jW w Gs R g P m C) (ax:dR w' Gs' R C.s P S') (hl:Lv Gs w w') (O:∀j,Gs' j->Gs j\/qO w w' j) (ay:∀id,fI S' id->m.used id=true):jW w' Gs' R g P {m with S:=S'} C:=by
 have a0:=h.b.D.lt;have a2:=h.us.lt;have hs:=hl.size;have nG:∀k,k=g\/k=C.ub\/R k->¬Gs k:=fun k J hg=>by
  obtain⟨I,h2,h3⟩:=h.sep k hg;rcases J with e|e|e
  ·exact I e
  ·exact h2 e
  ·exact h3 e
 refine⟨h.b.same (hl.block g a0 (nG g (.inl rfl))) (fun k J a3=>hl.block k a3 (nG k (.inr (.inr (h.ro k J))))) hs,ax,h.us.block (hl.block _ a2 (nG _ (.inr (.inl rfl)))),fun k J=>?_,fun k J=>aA (h.rl k J) hs,fun k J=>?_,h.gu,h.ro,h.rg,ay⟩
 ·rcases O k J with I|I
  ·exact aA (h.gl k I) hs
  ·exact I.2
 ·rcases O k J with I|I
  ·exact h.sep k I
  ·exact⟨fun e=>cA I.1,fun e=>cA I.1,fun e=>jE (h.rl k e) I.1⟩
theorem jW.use (h:jW w Gs R g P m C) (id:Int) (hu:fR w' C.ub (sY fun y=>if y=id then true else m.used y) n) (J:Lv (fun k=>k=C.ub) w w'):jW w' Gs R g P ⟨m.S,fun y=>if y=id then true else m.used y,n⟩ C:=by
 have O:=h.b.D.lt;have hs:=J.size;refine⟨h.b.same (J.block g O h.gu) (fun k I ax=>J.block k ax fun e=>h.rg.2 (e▸h.ro k I)) hs,h.st.same (fun k I ay=>J.block k I fun e=>?_) hs,hu,fun k I=>aA (h.gl k I) hs,fun k I=>aA (h.rl k I) hs,h.sep,h.gu,h.ro,h.rg,fun i hi=>?_⟩
 ·rcases ay with h1|h1
  ·exact(h.sep k h1).2.1 e
  ·exact h.rg.2 (e▸h1)
 ·simp only
  split
  ·rfl
  ·exact h.su i hi
theorem jW.lv {F:Nat->Prop} (h:jW w Gs R g P m C) (J:Lv F w w') (hF:∀k,k=g\/k=C.ub\/Gs k\/R k->¬F k):jW w' Gs R g P m C:=by
 have hs:=J.size;exact⟨h.b.same (J.block g h.b.D.lt (hF g (.inl rfl))) (fun k I O=>J.block k O (hF k (.inr (.inr (.inr (h.ro k I)))))) hs,h.st.lv J fun k I=>hF k (.inr (.inr I)),h.us.lv J (hF _ (.inr (.inl rfl))),fun k I=>aA (h.gl k I) hs,fun k I=>aA (h.rl k I) hs,h.sep,h.gu,h.ro,h.rg,h.su⟩
def ic (w:World) (Gs R:Nat→Prop) (g:Nat) (P:PD) (C:zt) (B:Nat) (res:Mk×List ir) (e:Ending) (w':World):Prop:=
 res.2.length≤B∧∃A cp Gs',e= .returned (.slice A res.2.length cp)∧lD w.heap.size w' A cp res.2∧jW w' Gs' R g P res.1 C∧Lv (fun j=>j=C.ub∨Gs j) w w'∧(∀j,Gs' j→Gs j∨qO w w' j)∧∀b,(Value.slice A res.2.length cp).ownBlock=some b→¬Gs' b
theorem ic.before {J:World} {O:Nat} {e:Ending} (I:Bz w J) (h:ic J Gs R g P C B res e w') (hB:B<=O):ic w Gs R g P C O res e w':=by
 obtain⟨h0,A,cp,Gs',h1,h2,h3,h4,h5,h6⟩:=h;refine⟨aF h0 hB,A,cp,Gs',h1,ch h2 I.size,h3,Lv.iD I h4,fun j hj=>?_,h6⟩;rcases h5 j hj with D|D
 ·exact .inl D
 ·exact .inr ⟨aF I.size D.1,D.2⟩
theorem ic.same (h:jW w Gs R g P m C) {cp:Nat} {l:List ir} (hn:n=l.length) (own:lD w.heap.size w' A cp l) (I:Bz w w'):ic w Gs R g P C n (m,l) (.returned (.slice A n cp)) w':=by
 subst hn;refine⟨af _,A,cp,Gs,rfl,own,h.below I,Lv.bL I,fun j J=> .inl J,fun b D hg=>?_⟩;have O:=(own.lt b D).1;have:=h.gl b hg;omega
def my:List jz→Int
 |[]=>0
 |st::l=>st.aw+my l
theorem zu (P:PD) (id:Int) (x k:Nat) (st:jz):∀(l:List jz) (left:Int),kj P id x k (l++[st]) left=kj P id x k l left++nH P id x k st (left - my l - st.aw)
 |[],left=>by simp[kj,my]
 |a::l,left=>by
  have h:=zu P id x k st l (left - a.aw);rw[fO];unfold kj;rw[h,bD,show left - a.aw - my l - st.aw=left - my (a::l) - st.aw by simp only[my];omega]
theorem Fx (P:PD) (id:Int) (x k:Nat) (st:jz) (left:Int) (h:st.U.length<=500):(nH P id x k st left).length<=1503:=by
 unfold nH;have D:=vv P st st.U;have I:=Fw P st ⟨3,id,x,(k:Int)+1,st.ag,st.aw,left,0⟩;rw[aC];omega
theorem Sx (P:PD) (id:Int) (x k:Nat) (st:jz) (left:Int):nH P id x k st left≠[]:=by
 unfold nH lz
 split<;>simp
theorem Sy (L:List zJ):my (L.map (·.st))=(L.map (·.st.aw)).sum:=by
 induction L with
 |nil=>rfl
 |cons y L D=>simp only[aW,my,cN,D]
theorem Fy (h:∀y∈L,1<=y.st.aw):∀n,0<=my ((L.take n).map (·.st))/\my ((L.take n).map (·.st))<=my (L.map (·.st))/\(L.length:Int)<=my (L.map (·.st)):=by
 induction L with
 |nil=>intro n;simp[my]
 |cons y L O=>
  intro n;have h1:=h y (cg ..);have D:=O (fun z hz=>h z (bB _ hz));have e:my ((y::L).map (·.st))=y.st.aw+my (L.map (·.st)):=rfl;have e2:(((y::L).length:Nat):Int)=(L.length:Int)+1:=bT;rw[e,e2]
  cases n with
  |zero=>
   obtain⟨a1,J,a3⟩:=D 0;have I:my (((y::L).take 0).map (·.st))=0:=rfl;have e4:my ((L.take 0).map (·.st))=0:=rfl;rw[e4] at J;rw[I];exact⟨ae,ae,ae⟩
  |succ n=>
   obtain⟨a1,J,a3⟩:=D n;have I:my (((y::L).take (n+1)).map (·.st))=y.st.aw+my ((L.take n).map (·.st)):=rfl;rw[I];exact⟨ae,ae,ae⟩
theorem FA (l:List jz) (st:jz):my (l++[st])=my l+st.aw:=by
 induction l with
 |nil=>simp[my]
 |cons a l D=>simp only[fO,my,D];omega
theorem Sz {l:List zJ} (h:Cells w A (uI l)) {m:Nat} (hm:m<l.length):
  ∃b o y,A=some ⟨b,o,none⟩/\b<w.heap.size/\w.cell? ⟨b,o+m*4,none⟩=some (Iz y.st.ag)/\w.cell? ⟨b,o+m*4+1,none⟩=some (Iz y.st.aw)/\w.cell? ⟨b,o+m*4+2,none⟩=some (.bool y.st.imp)/\w.cell? ⟨b,o+m*4+3,none⟩=some (.slice y.A y.st.U.length y.c)/\Hid (l[m]?=some y):=by
 have I:(uI l).length=l.length*4:=dX zJ.bG l;have D:uI l≠[]:=by intro e;rw[e] at I;simp at I;omega
 obtain⟨b,o,rfl,J,hc⟩:=h D;have hr:l[m]?=some l[m]:=aj hm;have key:∀(j:Nat) (v:Value),j<4->(l[m]).cells[j]?=some v->Cz w b (o+m*4+j) v:=fun j v O hv=>by
  rw[bg];exact hc _ _ ((ig zJ.bG j O hr).trans hv)
 exact⟨b,o,l[m],rfl,J,key 0 _ ae rfl,key 1 _ ae rfl,key 2 _ ae rfl,key 3 _ ae rfl,hr⟩
theorem PS (u:Int->Bool) (id:Int):(fun y=>if y=id then some (Value.bool true) else sY u y)=sY (fun y=>if y=id then true else u y):=by
 funext y
 unfold sY
 by_cases D:y=id<;>simp[D]
theorem PT (u:Int->Bool) (id:Int) (n:Nat):(if (sY u id).isSome=true then n else n+1)=if u id=true then n else n+1:=by
 unfold sY
 by_cases D:u id=true<;>simp[D]
def qk (P:PD) (id:Int) (x k:Nat) (ag aw:Int) (L:List zJ) (n:Nat):List ir:=⟨1,id,x,(k:Int)+1,ag,aw,aw,0⟩::kj P id x k ((L.take n).map (·.st)) aw
theorem FB (I:L[n]?=some y):qk P id x k ag aw L (n+1)=qk P id x k ag aw L n++nH P id x k y.st (aw - my ((L.take n).map (·.st)) - y.st.aw):=by
 unfold qk;have D:(L.take (n+1)).map (·.st)=(L.take n).map (·.st)++[y.st]:=by rw[bC,I];simp
 rw[D,zu,fO]
theorem CM {P:PD} {id:Int} {x k:Nat} {ag aw:Int} {L:List zJ} (h:∀y∈L,y.st.U.length<=500):∀n,(qk P id x k ag aw L n).length<=1+1503*n
 |0=>by simp[qk,kj]
 |n+1=>by
  have I:=CM (P:=P) (id:=id) (x:=x) (k:=k) (ag:=ag) (aw:=aw) h n
  cases D:L[n]? with
  |none=>
   have:L.take (n+1)=L.take n:=by rw[bC,D];simp
   unfold qk at I⊢;rw[this];omega
  |some y=>
   rw[FB D,aC];have:=Fx P id x k y.st (aw - my ((L.take n).map (·.st)) - y.st.aw) (h y (aH D));omega
structure Y3 (w w3 wr:World) (b0:Nat) (A:Option Addr) (c:Nat) (O:List ir):Prop where
 row:lD w.heap.size wr A c O
 jV:∀b,(Value.slice A O.length c).ownBlock=some b→b=b0∨w3.heap.size≤b
 lv:Lv (fun k=>k=b0) w3 wr
theorem PU (g:Nat) (P:PD) (m:Mk) (Gs R:Nat->Prop) (C:zt) (c:bN) (x k:Nat) (w:World) (h:jW w Gs R g P m C) (e9:c.inst=(x:Int)) (fa:c.side=(k:Int)+1) (hx:x<P.count) (hk:k<2) (hq:1<=c.aw/\c.aw<=1000000) (cm:dZ c.id) (hp:P.fy x c.ag=0)
  (eE:¬fI m.S c.id) (ff:cK m.S<250) (fi:m.un<1000000) (hl:c.ky.length<=9223372036854775807):
  Wz 70 #[Pz g,c.val] w (ic w Gs R g P C (2+1503*c.aw.toNat) (iE P m c.id x k c.ag c.aw c.time)):=by
 obtain⟨ck,ci,cn,cs,I,cq,cl,ct,cb⟩:=c;simp only at e9 fa hq cm hp eE hl⊢;subst e9;subst fa;obtain⟨w0,cv⟩:=Zn (w.alloc (.cells (bN.cells ⟨ck,ci,(x:Int),(k:Int)+1,I,cq,cl,ct,cb⟩) 35));obtain⟨gc,cF⟩:=Zn w.heap.size;have B0:=Zw cv;have C0:kM w0 gc ⟨ck,ci,(x:Int),(k:Int)+1,I,cq,cl,ct,cb⟩:=cv▸cF▸kM.new _ _;have h0:=h.below B0;obtain⟨d0,d1,d2,d3,d4,d5,d6,d7,d8⟩:=C0.reads;obtain⟨m0,m1,m2,m3,m4,m5,m6,m7,m8,m9,bE,a7,bh⟩:=h0.b.cells;have g8:g<w0.heap.size:=h0.b.D.lt;have g9:gc<w0.heap.size:=C0.lt;obtain⟨w1,fk,fq,fx⟩:=(h0.us.below (aS (aa _ _))).put Tryz.underlying88 cm (.bool true) fi;have ho:∀u,aR w0.drew u->Cz u g 12 (.map (some C.ub)):=fun u hu=>Yb hu g8 bh;have e1:∀u,aR w0.drew u->Cz u gc 1 (Iz ci):=fun u hu=>Yb hu g9 d1;obtain⟨H,H0,cH,eF,ht,hB,hD,hG,HP,hH,fz⟩:=Hl h h0 B0 C0 fq fx eE ff hp cm cF;clear h h0 B0 C0 fq fx eE ff hp cm fi d0 d1 d2 d3 d4 d5 d6 d7 d8 m0 m1 m2 m3 m4 m5 m6 m7 m8 m9 bE a7 bh;rw[show(bN.val ⟨ck,ci,(x:Int),(k:Int)+1,I,cq,cl,ct,cb⟩)= .agg (bN.cells ⟨ck,ci,(x:Int),(k:Int)+1,I,cq,cl,ct,cb⟩) from rfl]
 go_enter Tryz.func70,Tryz.ntmps70
 go_upto_region 1 with(fail)
 rw[<-cv,<-cF];clear cv cF;refine bx (R:=aR) 6 [6] [0,1,2,3,4,5,6] (by kernel_rfl) aR.tr aR.J (by kernel_rfl) (fun _ _ _ _ _ h=>h) ?_;refine Yt ?_;clear ho e1;refine Zl fun K hK=>?_;go_simp;refine Yl hK ?_;refine aT ?_;have M1:=ht.h;rw[PS,PT] at M1;have L1:Lv (fun k=>k=C.ub) w0 w1:=(Lv.drew (Lv.refl _ w0)).then (Lv.dy hB fun k hk=> .inl (by injection hk with hk;exact hk.symm));have eG:=H0.h.use ci M1 L1;obtain⟨m1,eI⟩:=Zn (⟨m.S,fun y=>if y=ci then true else m.used y,if m.used ci=true then m.un else m.un+1⟩:Mk);rw[<-eI] at eG;have C1:kM w1 gc ⟨ck,ci,(x:Int),(k:Int)+1,I,cq,cl,ct,cb⟩:=(L1.block gc eF.lt fun e=>jE H.h.us.lt fz.h).trans eF;obtain⟨d0,d1,d2,d3,d4,d5,d6,d7,d8⟩:=C1.reads;obtain⟨hJ,fH,bH,cQ⟩:=mh C1 eG L1 eI;clear C1 eG L1 eI M1 fk
 go_upto_region 3 with(fail)
 obtain⟨w2,cS⟩:=Zn (w1.alloc (.cells #[Iz 1,Iz ci,Iz (x:Int),Iz ((k:Int)+1),Iz I,Iz cq,Iz cq,Iz 0] 40));obtain⟨b0,cT⟩:=Zn w1.heap.size;rw[<-cS,<-cT];have B2:=Zw cS;have cX:=fH.h.below B2;have C2:=hJ.h.below B2;have bQ:w.heap.size<=w1.heap.size:=jE cH.h.size bH.h.size;have R2:lD w.heap.size w2 (some ⟨b0,0,none⟩) 1 [⟨1,ci,(x:Int),(k:Int)+1,I,cq,cq,0⟩]:=cS▸cT▸cI (base:=w.heap.size) (size:=8) w1 #[Iz 1,Iz ci,Iz (x:Int),Iz ((k:Int)+1),Iz I,Iz cq,Iz cq,Iz 0] 1 bQ (by unfold maxLen;omega) rfl;obtain⟨m0,eJ,m2,m3,m4,m5,m6,m7,m8,m9,bE,a7,bh⟩:=cX.b.cells;have fT:g<w2.heap.size:=cX.b.D.lt;have f0:gc<w2.heap.size:=C2.lt;clear d0 d1 d2 d3 d4 d5 d6 d7 d8;obtain⟨d0,d1,d2,d3,d4,d5,d6,d7,d8⟩:=C2.reads;obtain⟨Fs,c0⟩:=Zn (fun j=>j=g\/j=gc:Nat->Prop);have mg:Fs g:=c0▸.inl rfl;have mc:Fs gc:=c0▸.inr rfl;have eK:∀u,aI Fs w2.drew u->Cz u g 11 (Pz C.s):=fun u hu=>(hu.cell mg).trans a7;have e2:∀u,aI Fs w2.drew u->Cz u gc 2 (Iz (x:Int)):=fun u hu=>(hu.cell mc).trans d2;have e3:∀u,aI Fs w2.drew u->Cz u gc 3 (Iz ((k:Int)+1)):=fun u hu=>(hu.cell mc).trans d3;have e4:∀u,aI Fs w2.drew u->Cz u gc 4 (Iz I):=fun u hu=>(hu.cell mc).trans d4;have e5:∀u,aI Fs w2.drew u->Cz u gc 5 (Iz cq):=fun u hu=>(hu.cell mc).trans d5;have eb:w.heap.size<=gc:=bu fz.symm;have ed:∀j,Gs j->j<w.heap.size:=H.gl;obtain⟨eL,bb,hL,dc,ef,f1,hN,f2,bR,eM,eg⟩:=Hl B2 cX C2 R2 cT bQ c0 eb ed fT f0;clear B2 cX C2 R2 cT cS bQ m0 eJ m2 m3 m4 m5 m6 m7 m8 m9 bE a7 bh d0 d1 d2 d3 d4 d5 d6 d7 d8 c0 mg mc eb ed fT f0;refine bx (R:=aI Fs) 99999 [12] [0,1,2,3,4,5,6,7,8,9,10,11,12,13,14,15,16,17] (by kernel_rfl) (aI.tr _) (aI.J _) (by kernel_rfl) (fun _ _ _ _ _ h=>h) ?_;refine Yt ?_;clear eK e2 e3 e4 e5;refine Ym fun K hK=>?_;refine(GF C.s P m1.S Gs R x k ((k:Int)+1) I cq _ bb.st.drew hx hk rfl hq).mono ?_;rintro e w3⟨Al,hP,L,G3,rfl,hT⟩;rw[show m1.S=m.S by rw[cQ.h]] at hT;have hh:aI Fs w2.drew w3:=fun j hj=>by
  rw[hN.h] at hj;rcases hj with rfl|rfl
  ·exact hT.lv.block _ eM fun e=>(bb.sep _ e).1 rfl
  ·exact hT.lv.block _ eg fun e=>jE (bR.h _ e) f2.h
 refine Yo hK (hh) ?_;have HT:=ao hT;clear hT hh;refine Yt ?_;refine aT ?_;obtain⟨res,a5⟩:=Zn (dV P cq.toNat m.S x k I cq);have bU:m1.S=m.S:=by rw[cQ.h]
 rw[bU,<-a5];have hT:=HT.h;rw[<-a5] at hT;obtain⟨left,el⟩:=Zn res.2.2;rw[<-el];have f3:=hT.l0;have eO:=hT.sm;rw[<-el] at f3 eO;have bV:Lv Gs w2 w3:=(Lv.drew (Lv.refl _ w2)).then hT.lv;have f4:=bb.h.state (S':=res.1) hT.st bV hT.sub (fun id hs=>bb.su id (by rw[bU];rw[a5] at hs;exact(Sub.run P _ _ _ _ _ _).stands hs));have ei:w.heap.size<=b0:=ef.h▸f1;have ej:b0<w2.heap.size:=(dc.lt b0 rfl).2;have ek:∀j,j=g\/j=C.ub\/G3 j\/R j->¬(j=b0):=fun j hj e=>by
  subst e;rcases hj with e|e|e|e
  ·have:=H.h.b.D.lt;omega
  ·have:=H.h.us.lt;omega
  ·rcases hT.sub j e with h1|h1
   ·have:=bR.h j h1;omega
   ·have h2:w2.heap.size<=j:=h1.1;omega
  ·have:=H.h.rl j e;omega
 have eo:gc≠b0:=QF eF.h.lt bH.h.size ef.h;have C3:kM w3 gc ⟨ck,ci,(x:Int),(k:Int)+1,I,cq,cl,ct,cb⟩:=(bV.block gc eg fun e=>jE (bR.h _ e) f2.h).trans hL;have R3:lD w.heap.size w3 (some ⟨b0,0,none⟩) 1 [⟨1,ci,(x:Int),(k:Int)+1,I,cq,cq,0⟩]:=aX dc fun j hj=>bV.block j (dc.lt j hj).2 fun e=>by
  have h1:=(dc.lt j hj).1;have:=bR.h j e;omega
 have E3:Y3 w w3 w3 b0 (some ⟨b0,0,none⟩) 1 (qk P ci x k I cq L 0):=⟨R3,fun b hb=> .inl (by injection hb with hb;exact hb.symm),Lv.refl _ _⟩;obtain⟨N,eN⟩:=Zn L.length;have eP:=Fy hT.qs N;have ep:my (L.map (·.st))+left=cq:=by rw[Sy];exact eO
 have j1:N<=1000000:=ae;have f5:N<=cq.toNat:=ae;have eQ:=ao f5;clear f5;have f6:∀n,0<=my ((L.take n).map (·.st))/\my ((L.take n).map (·.st))<=cq:=fun n=>cA (Fy hT.qs n);have a8:0<=left/\left<=1000000:=ae;obtain⟨d0,d1,d2,d3,d4,d5,d6,d7,d8⟩:=C3.reads;obtain⟨ay,a6,b3,hQ,HN,bp,er,f7,b4,f8,et,hU,b6,eR,i7⟩:=V8 hT f4 C3 E3 eN ek eo f6 ej ei a5 el bV a8 ep;rw[<-eN];clear hT f4 C3 E3 eN ek eo f6 ej ei a5 el bV f3 eO eP R3 bU HT a8 ep;go_wp2_with fail
 go_loopw [5,8,51] (fun ov lv v wr=> ∃(n:Nat) (A:Option Addr) (cp:Nat) (O:Nat),n<=N/\v= Iz (n:Int)/\ov= .slice A O cp/\lv= Iz (cq - my ((L.take n).map (·.st)))/\Hid (O=(qk P ci x k I cq L n).length/\Y3 w w3 wr b0 A cp (qk P ci x k I cq L n))) (fun _ _ v _=>N - (intOf v).toNat)
 case atStart=>exact⟨0,_,_,1,aB _,rfl,rfl,by simp[my],ao ⟨rfl,hQ⟩⟩
 case round=>
  obtain⟨n,A,cp,O,hn,rfl,rfl,rfl,HI⟩:=hrel;obtain⟨hO,hI⟩:=HI.h;have b7:w3.heap.size<=wr.heap.size:=hI.lv.size
  by_cases dp:n<N
  ·have b8:wr.ownsRow w2.heap.size 186 4 (.slice Al L.length hP) L.length (uI L):=aX ay.steps.row fun j hj=>hI.lv.block j (ay.steps.row.lt j hj).2 fun e=>by
    have h1:w2.heap.size<=j:=(ay.steps.row.lt j hj).1;have:=b4.h;have e':j=b0:=e;omega
   obtain⟨bs,os,y,eA,j2,s0,s1,s2,s3,hy⟩:=Sz (dP.cC b8) (m:=n) (HN.h▸dp);have b9:y∈L:=aH hy.h;have dS:=(ay.steps.fl y b9).1;have f9:Cells wr y.A (gW y.st.U):=dP.cC (aX dS fun j hj=>hI.lv.block j (dS.lt j hj).2 fun e=>by
    have h1:w2.heap.size<=j:=(dS.lt j hj).1;have:=b4.h;have e':j=b0:=e;omega)
   have eu:=ay.h.ok y b9;have hV:=ay.h.qs y b9;have hC:=b3.h.lt;have Cr:kM wr gc ⟨ck,ci,(x:Int),(k:Int)+1,I,cq,cl,ct,cb⟩:=(hI.lv.block gc b3.lt er).trans b3;have Mr:=a6.h.lv hI.lv bp;clear d0 d1 d2 d3 d4 d5 d6 d7 d8;obtain⟨d0,d1,d2,d3,d4,d5,d6,d7,d8⟩:=Cr.reads;have a2:gc<wr.heap.size:=Cr.lt;have i1:(n:Int)<N:=ae;have eS:(L.take (n+1)).map (·.st)=(L.take n).map (·.st)++[y.st]:=by rw[bC,hy.h];simp
   have gb:=f7.h (n+1);have hW:=f7.h n;rw[eS,FA] at gb;obtain⟨lf,eT⟩:=Zn (cq - my ((L.take n).map (·.st)));rw[<-eT];have hX:0<=lf/\lf<=1000000:=ae;have gi:0<=lf - y.st.aw:=ae;obtain⟨qy,eU⟩:=Zn y.st.aw;rw[<-eU] at s1 gi hV;have hlen:(qk P ci x k I cq L n).length<=1+1503*n:=CM (fun y hy=>(ay.ok y hy).len) n;obtain⟨dT,eV,hY,ew,a0,h5,gj,eW,HO,gm,gp,j3,j4⟩:=QO hI dp f9 eu Mr eS eT eU hO b7 hlen Cr b9;rw[eA];clear hI dp f9 eu Mr eS eT eU hO b7 hlen HI hW gb dS b8 b9 hC eA hn Cr;obtain⟨i9,j0⟩:=hX;go_wp2_with fail;obtain⟨wa,eY⟩:=Zn (wr.alloc (.cells #[Iz y.st.ag,Iz qy, .bool y.st.imp, .slice y.A y.st.U.length y.c] 186));have Ba:=Zw eY;rw[<-eY];obtain⟨L5,cd⟩:=Zn (nH P ci x k y.st (lf - qy));have gq:Wz 108 #[Pz g, .agg #[Iz ck,Iz ci,Iz (x:Int),Iz ((k:Int)+1),Iz I,Iz cq,Iz cl,Iz ct, .string (str cb)], .agg #[Iz y.st.ag,Iz qy, .bool y.st.imp, .slice y.A y.st.U.length y.c],Iz (lf - qy)] wa fun e w'=> ∃A cp,e= .returned (.slice A L5.length cp)/\lD wa.heap.size w' A cp L5/\Bz wa w':=cd▸eW.h▸Sw g P C.ma C.mc C.sa C.sc C.s C.ub x k y ⟨ck,ci,(x:Int),(k:Int)+1,I,cq,cl,ct,cb⟩ (lf - y.st.aw) wa (a0.b.below Ba) (hY.below Ba) rfl rfl hx hk ew;have h6:L5.length<=1503:=cd▸Fx P ci x k y.st _ ew.len;have gv:L5≠[]:=cd▸Sx P ci x k y.st _;obtain⟨h7,gx,h8⟩:=fY Ba cd gv;clear eY Ba cd s0 s1 s2 s3 d0 d1 d2 d3 d4 d5 d6 d7 d8 a2 gv;refine gq.mono ?_;clear gq;rintro e w5⟨A5,c5,rfl,ey,b5⟩;have B5:Bz wr w5:=dW h7 b5;have r5:w5.ownsRow w.heap.size 40 8 (.slice A O cp) O (fC (qk P ci x k I cq L n)):=HO.h▸bP dT.row B5;have C5:Cells w5 A5 (fC L5):=dP.cC ey;obtain⟨M5,eZ⟩:=Zn L5.length;rw[<-eZ] at h6⊢;have hO:O<=1+1503*n:=HO.h▸gp;have j5:n<=1000000:=jE eV.h HN.h;have gy:w.heap.size<=w5.heap.size:=by have:=B5.size;have:=gm.h;have:=b6.h.size;have:=f8.h;have:=b4.h;omega
   obtain⟨gA,h9,ia,gG⟩:=mh B5 r5 C5 eZ;clear B5 r5 C5 eZ ey b5
   go_wp2_with (at_builtin
                refine kS yP h9 (A:=A5) (m:=M5) (c:=c5) (news:=fC L5) rfl _ _ rfl rfl rfl (by rw[iL,gG.h]) (by intro h0;have h1:=iL L5;rw[h0] at h1;simp at h1;exact h8 (aP ae)) ia (x9 L5) ae gy (O+M5) _ rfl rfl ?_;intro A6 c6 w6 ez;have gI:=ao ez;clear ez)
   go_roundw
   case rel=>
    have e0:=gI.h;have a3:=FB (P:=P) (id:=ci) (x:=x) (k:=k) (ag:=I) (aw:=cq) hy.h;rw[<-gj.h,<-eW.h,<-gx.h] at a3;have ax:O+M5=(qk P ci x k I cq L (n+1)).length:=by rw[a3,aC,HO.h,gG.h]
    refine⟨n+1,A6,c6,O+M5,cA eV.h,by go_num,rfl,?_,ao ⟨ax,?_,fun b hb=>?_,?_⟩⟩
    ·have h1:=gj.h;have h2:=eW.h
     rw[h5.h,FA,<-h2,(ae:cq - (my ((L.take n).map (·.st))+qy)=lf - qy)]
    ·unfold lD
     rw[<-ax,a3,rJ];exact e0.own
    ·rw[<-ax] at hb
     rcases e0.jV with h1|h1
     ·rw[h1,HO.h] at hb;exact dT.jV b hb
     ·rw[h1] at hb;injection hb with hb;exact .inr (jE gm.h gA.h.size)
    ·refine(dT.lv.cV gA).trans (Lv.dy (F:=fun j=>(Value.slice A O cp).ownBlock=some j) e0.grown fun j hj=> .inl hj) fun j hj=>?_
     rw[HO.h] at hj;exact dT.jV j hj
   case measure=>have:=eV.h;simp[intOf];omega
  ·obtain rfl:n=N:=ae
   have gO:=hI;have gP:(L.take n).map (·.st)=res.2.1:=by rw[HN.h,dE];exact ay.map
   have a3:qk P ci x k I cq L n=⟨1,ci,(x:Int),(k:Int)+1,I,cq,cq,0⟩::kj P ci x k res.2.1 cq:=by unfold qk;rw[gP]
   have hE:iE P m ci x k I cq ct=if left=0 then (⟨res.1,m1.used,m1.un⟩,qk P ci x k I cq L n) else if ct=1 then (⟨oW res.1 x k ci I left,m1.used,m1.un⟩,qk P ci x k I cq L n) else (⟨res.1,m1.used,m1.un⟩,qk P ci x k I cq L n++[⟨4,ci,(x:Int),(k:Int)+1,I,left,0,0⟩]):=by
    rw[a3,cQ.h,hU.h,et.h];rfl
   have Mr:=a6.h.lv hI.lv bp;have e6:Lv (fun j=>j=C.ub\/Gs j) w wr:=
    ((((Lv.bL cH:Lv (fun j=>j=C.ub\/Gs j) w w0).trans bH (fun j hj=> .inl (.inl hj))).cV eL).trans b6 (fun j hj=> .inl (.inr hj))).trans hI.lv (fun j hj=> .inr (by have:=f8.h;have e':j=b0:=hj;omega))
   have eB:∀j,G3 j->Gs j\/qO w wr j:=fun j hj=>by
    rcases ay.sub j hj with h2|h2
    ·exact .inl h2
    ·have h3:w2.heap.size<=j:=h2.1
     have h4:j<w3.heap.size:=h2.2;exact .inr ⟨QF bH.h.size cH.h.size eL.h.size,ae⟩
   have gR:∀b,(Value.slice A O cp).ownBlock=some b->¬G3 b/\b<wr.heap.size:=fun b hb=>by
    rw[hO] at hb;have h1:=hI.row.lt b hb;rcases hI.jV b hb with e|e
    ·exact⟨fun hg=>bp b (.inr (.inr (.inl hg))) e,h1.2⟩
    ·refine⟨fun hg=>?_,h1.2⟩
     rcases ay.sub b hg with h2|h2
     ·have:=bR.h b h2;have:=bH.h.size;have:=cH.h.size;have:=eL.h.size;have:=b6.h.size;omega
     ·have h4:b<w3.heap.size:=h2.2
      omega
   have Cr:kM wr gc ⟨ck,ci,(x:Int),(k:Int)+1,I,cq,cl,ct,cb⟩:=(hI.lv.block gc b3.lt er).trans b3;have gT:w.heap.size<=wr.heap.size:=e6.size;have a8:=eR.h;have i1:¬((n:Int)<n):=ae;have eC:wr.ownsRow w.heap.size 40 8 (.slice A O cp) O (fC (qk P ci x k I cq L n)):=hO▸hI.row;obtain⟨bc,HE,a0,e7,bf,a4,j6,HO,g3⟩:=QG eC hE Mr e6 eB gR Cr hO gT;have cf:O<=1+1503*n:=hO▸CM (fun y hy=>(ay.ok y hy).len) n;have d9:=ao cf;have ba:Hid (∀b,(Value.slice A O cp).ownBlock=some b->b=b0\/w3.heap.size<=b):=ao fun b hb=>gO.jV b (by rw[HO.h] at hb;exact hb);clear gP a3 hE Mr e6 eB gR hO hI gO HI gT eC cf dp d0 d1 d2 d3 d4 d5 d6 d7 d8 hn b7
   by_cases hz:left=0
   ·have i2:(left==0)=true:=by simp[hz]
    have HZ:=ao hz;clear hz Cr;go_wp2_with fail;go_ret;rw[HE.h,if_pos HZ.h];refine⟨by show(qk P ci x k I cq L n).length<=_;have:=d9.h;have:=HO.h;have:=eQ.h;omega,A,cp,G3,by rw[<-HO.h];rfl,by rw[lD,<-HO.h];exact bc,a0,e7,bf,fun b hb=>(a4 b (HO.h▸hb)).1⟩
   ·have i2:(left==0)=false:=by simpa using hz
    have HZ:=ao hz;obtain⟨d0,d1,d2,d3,d4,d5,d6,d7,d8⟩:=Cr.reads;have a2:gc<wr.heap.size:=Cr.lt;clear hz Cr
    by_cases bt:ct=1
    ·have i3:(ct==1)=true:=by simp[bt]
     have e8:=ao bt;clear bt;obtain⟨m0,eJ,m2,m3,m4,m5,m6,m7,m8,m9,bE,a7,bh⟩:=a0.h.b.cells;have ib:g<wr.heap.size:=a0.b.D.lt;have eK:∀u,aR wr.drew u->Cz u g 11 (Pz C.s):=fun u hu=>Yb hu ib a7;have e1:∀u,aR wr.drew u->Cz u gc 1 (Iz ci):=fun u hu=>Yb hu a2 d1;have e2:∀u,aR wr.drew u->Cz u gc 2 (Iz (x:Int)):=fun u hu=>Yb hu a2 d2;have e3:∀u,aR wr.drew u->Cz u gc 3 (Iz ((k:Int)+1)):=fun u hu=>Yb hu a2 d3;have e4:∀u,aR wr.drew u->Cz u gc 4 (Iz I):=fun u hu=>Yb hu a2 d4;clear m0 eJ m2 m3 m4 m5 m6 m7 m8 m9 bE a7 bh d0 d1 d2 d3 d4 d5 d6 d8;go_wp2_with fail;refine bx (R:=aR) 13 [13] [0,1,2,3,4,5,6,7,8,9,10,11,12,13] (by kernel_rfl) aR.tr aR.J (by kernel_rfl) (fun _ _ _ _ _ h=>h) ?_;refine Yt ?_;clear eK e1 e2 e3 e4;refine Zl fun K hK=>?_;go_simp;have g4:Sub res.1 m.S:=et.h▸Sub.run P _ _ _ _ _ _;have ih:x<res.1.length:=by rw[a0.h.st.len];exact hx
     have hM:res.1[x]?=some res.1[x]:=aj ih;refine(Sn C.s P res.1 G3 R x k res.1[x] ((k:Int)+1) ci I left _ a0.st.drew hM hk rfl hH (fun y N' il e' iF g6=>hD (g4.stands ⟨y,N',e',il,iF,g6⟩)) (jE g4.cnt hG.h) HP ⟨cA HZ.h,ae⟩).mono ?_;rintro en w4⟨rfl,i4,L4⟩;have ea:Lv G3 wr w4:=(Lv.drew (Lv.refl _ wr)).then L4;refine Yl hK ?_;refine aT ?_;go_wp2_with fail;go_ret;rw[HE.h,if_neg HZ.h,if_pos e8.h];have M4:=a0.h.state (S':=oW res.1 x k ci I left) i4 ea (fun j hj=>hj) (fun id hs=>by
      rcases Md hs with e'|e'
      ·rw[e',cQ.h];simp
      ·exact a0.su id e')
     refine⟨by show(qk P ci x k I cq L n).length<=_;have:=d9.h;have:=HO.h;have:=eQ.h;omega,A,cp,_,by rw[<-HO.h];rfl,?_,M4,e7.trans ea (fun j hj=>?_),fun j hj=>?_,fun b hb hg=>?_⟩
     ·rw[lD,<-HO.h]
      exact aX bc fun b hb=>ea.block b (a4 b hb).2 (a4 b hb).1
     ·rcases bf j hj with h1|h1
      ·exact .inl (.inr h1)
      ·exact .inr h1.1
     ·rcases hj with h1|h1
      ·rcases bf j h1 with h2|h2
       ·exact .inl h2
       ·exact .inr ⟨h2.1,aA h2.2 ea.size⟩
      ·exact .inr ⟨aF g3 h1.1,h1.2⟩
     ·have h2:=a4.h b (HO.h▸hb)
      rcases hg with h1|h1
      ·exact h2.1 h1
      ·have h3:wr.heap.size<=b:=h1.1
       omega
    ·have i3:(ct==1)=false:=by simpa using bt
     have e8:=ao bt;clear bt
     go_wp2_with (at_builtin
                  refine dO yP bc #[Iz 4,Iz ci,Iz (x:Int),Iz ((k:Int)+1),Iz I,Iz left,Iz 0,Iz 0] rfl _ _ rfl rfl rfl rfl (by intro u hu;simp at hu;rcases hu with rfl|rfl|rfl|rfl|rfl|rfl|rfl|rfl<;>rfl) (jE d9.h HN.h) g3 ?_;intro A2 i5 w4 eD g2 b2 l2;obtain⟨g7,eM,i6⟩:=fY eD g2 l2;clear eD g2 b2 l2)
     go_ret;rw[HE.h,if_neg HZ.h,if_neg e8.h];have ax:O+1=(qk P ci x k I cq L n++([⟨4,ci,(x:Int),(k:Int)+1,I,left,0,0⟩]:List ir)).length:=by rw[aC,<-HO.h];rfl
     have L4:Lv (fun j=>(Value.slice A O cp).ownBlock=some j) wr w4:=Lv.dy eM fun j hj=> .inl hj;have M4:=a0.h.lv L4 (fun j hj hb=>by
      have h2:=a4.h j hb;rcases hj with e'|e'|e'|e'
      ·exact bp j (.inl e') (by rcases ba j hb with h3|h3;exact h3;have:=a6.h.b.D.lt;omega)
      ·exact bp j (.inr (.inl e')) (by rcases ba j hb with h3|h3;exact h3;have:=a6.h.us.lt;omega)
      ·exact h2.1 e'
      ·exact bp j (.inr (.inr (.inr e'))) (by rcases ba j hb with h3|h3;exact h3;have:=a6.h.rl j e';omega))
     refine⟨by show(qk P ci x k I cq L n++([⟨4,ci,(x:Int),(k:Int)+1,I,left,0,0⟩]:List ir)).length<=_;rw[<-ax];have:=d9.h;have:=HO.h;have:=eQ.h;omega,A2,i5,G3,by rw[<-ax];rfl,?_,M4,e7.trans L4 (fun j hj=> .inr ?_),fun j hj=>?_,fun b hb hg=>?_⟩
     ·rw[lD,<-ax,rJ]
      exact g7
     ·exact(bc.lt j hj).1
     ·rcases bf j hj with h2|h2
      ·exact .inl h2
      ·exact .inr ⟨h2.1,aA h2.2 L4.size⟩
     ·rw[<-ax] at hb
      rcases i6 with h1|h1
      ·rw[h1] at hb;exact(a4 b hb).1 hg
      ·rw[h1] at hb
       injection hb with hb;have:b<wr.heap.size:=a0.gl b hg;omega
def JI (id:Int) (k:Nat) (p:Int) (e:dn):Value:= .agg #[Iz id,Iz ((k:Int)+1),Iz p,Iz e.aw, .bool e.top]
theorem CN (g:Nat) (P:PD) (m:Mk) (Gs R:Nat->Prop) (C:zt) (x k:Nat) (M:BM) (r:iQ) (e:dn) (id:Int) (w:World) (h:jW w Gs R g P m C) (hM:m.S[x]?=some M) (hr:r∈M.side k) (he:e∈r.2) (ay:e.id=id) (hk:k<2):
  Wz 42 #[Pz g,Iz id,Iz (x:Int),JI id k r.1 e] w (ic w Gs R g P C 1 (dG m id x k r.1 e)):=by
 unfold JI;obtain⟨w0,I⟩:=Zn (w.alloc (.cells #[Iz id,Iz ((k:Int)+1),Iz r.1,Iz e.aw, .bool e.top] 81));obtain⟨go,O⟩:=Zn w.heap.size;have D0:=Zq I O;have B0:=Zw I;have h0:=h.below B0;have a0:Cz w0 g 11 (Pz C.s):=h0.b.D.cell 11;have a2:g<w0.heap.size:=h0.b.D.lt;have a3:go<w0.heap.size:=D0.lt;have ba:∀u,aR w0.drew u->Cz u g 11 (Pz C.s):=fun u hu=>Yb hu a2 a0;have o3:∀u,aR w0.drew u->Cz u go 3 (Iz e.aw):=fun u hu=>Yb hu a3 (D0.cell 3);have a4:1<=e.aw:=((h.st.JH hM).ok e (fX hr he)).1;obtain⟨H,H0,a5,bb,HM,HR,HE,bc,bf,HQ⟩:=QM h h0 B0 D0 hM hr he ay O a4;clear h h0 B0 D0 hM hr he ay a0 a2 a3 a4
 go_enter Tryz.func42,Tryz.ntmps42
 go_upto_region 1 with(fail)
 rw[<-I,<-O];clear I O;refine bx (R:=aR) 7 [7] [0,1,2,3,4,5,6,7] (by kernel_rfl) aR.tr aR.J (by kernel_rfl) (fun _ _ _ _ _ h=>h) ?_;refine Yt ?_;clear ba o3;refine Zl fun K hK=>?_;go_simp;refine(vp C.s P m.S Gs R x k M r e id e.aw _ H0.st.drew HM HR HE bc hk ⟨HQ,cM _⟩).mono ?_;rintro en w1⟨rfl,a6,L1⟩;have ax:Lv Gs w0 w1:=(Lv.drew (Lv.refl _ w0)).then L1;have M1:=H0.h.state (S':=cutAt m.S x id e.aw) a6 ax (fun j hj=>hj) (fun i hs=>H0.su i ((Sub.cutAt _ _ _ _).stands hs));have D1:=bb.h.lv ax (fun hg=>jE (H.h.gl _ hg) bf.h);have q1:=D1.cell 1;have q2:=D1.cell 2;have q3:=D1.cell 3;obtain⟨a7,a8⟩:=dF M1 ax;clear a6 L1 ax M1 D1;refine Yl hK ?_;refine aT ?_;go_wp2_with fail;go_ret;have bh:=a8.h.size;have bp:=a5.h.size;have L:Lv (fun j=>j=C.ub\/Gs j) w w1:=(Lv.bL a5).trans a8 fun j hj=> .inl (.inr hj);refine⟨af _,some ⟨w1.heap.size,0,none⟩,1,_,rfl,?_,a7.below (au (aa _ _) _),L.alloc _,fun j hj=>?_,fun b hb hg=>?_⟩
 ·exact cI (base:=w.heap.size) (size:=8) w1 #[Iz 4,Iz id,Iz (x:Int),Iz ((k:Int)+1),Iz r.1,Iz e.aw,Iz 0,Iz 0] 1 ae (by unfold maxLen;omega) rfl
 ·rcases hj with h1|h1
  ·exact .inl h1
  ·have h2:w0.heap.size<=j:=h1.1
   exact .inr ⟨ae,by have:=h1.2;simp;omega⟩
 ·have bt:w1.heap.size=b:=by injection hb
  have:=a7.h.gl b hg;omega
theorem CO (g:Nat) (P:PD) (m:Mk) (Gs R:Nat->Prop) (C:zt) (x k:Nat) (M:BM) (r:iQ) (e:dn) (id aw:Int) (w:World) (h:jW w Gs R g P m C) (hM:m.S[x]?=some M) (hr:r∈M.side k) (he:e∈r.2) (a0:e.id=id) (hk:k<2) (hq:0<=aw/\aw<=e.aw):
  Wz 43 #[Pz g,Iz id,Iz aw,Iz (x:Int),JI id k r.1 e] w (ic w Gs R g P C 1 (jh m id aw x k r.1 e)):=by
 unfold JI;obtain⟨w0,J⟩:=Zn (w.alloc (.cells #[Iz id,Iz ((k:Int)+1),Iz r.1,Iz e.aw, .bool e.top] 81));obtain⟨go,O⟩:=Zn w.heap.size;have D0:=Zq J O;have B0:=Zw J;have h0:=h.below B0;have a6:Cz w0 g 11 (Pz C.s):=h0.b.D.cell 11;obtain⟨a7,a8,_⟩:=(h.st.JH hM).ok e (fX hr he);have ax:=h.st.JH hM;obtain⟨H,H0,a2,ba,HM,HR,HE,a3,bb,HQ,bc⟩:=Hl h h0 B0 D0 hM hr he a0 O hq ax;obtain⟨a,ea⟩:=Zn e.aw;rw[<-ea] at a7 a8 hq;have HA:=ao ea;clear h h0 B0 D0 hM hr he a0 ax
 go_enter Tryz.func43,Tryz.ntmps43
 go_upto_region 1 with(fail)
 rw[<-J,<-O,<-ea];clear J O ea;go_wp2_with fail;refine Calls.mono (R:=fun en I=> ∃v,en= .returned (Iz v)/\∃Gn,jW I Gn R g P {m with S:=cutAt m.S x id aw} C/\Lv Gs w0 I/\∀j,Gn j->Gs j\/qO w0 I j) ?_ ?_
 ·by_cases hz:aw<1
  ·refine(LI C.s P m.S Gs R x k M r e id aw _ H0.h.st HM.h HR.h HE.h a3.h hk hz).mono ?_
   rintro en I⟨rfl,b1⟩;obtain rfl:aw=0:=ae;refine⟨_,rfl,Gs,?_,Lv.bL b1,fun j hj=> .inl hj⟩;rw[nS HM.h,bc.h.Sa,Cs HM.h];exact H0.h.below b1
  ·refine(vp C.s P m.S Gs R x k M r e id aw _ H0.h.st HM.h HR.h HE.h a3.h hk ⟨ae,HA.h▸hq.2⟩).mono ?_
   rintro en I⟨rfl,bf,L1⟩;exact⟨_,rfl,_,H0.h.state (S':=cutAt m.S x id aw) bf L1 (fun j hj=>hj) (fun i hs=>H0.h.su i ((Sub.cutAt _ _ _ _).stands hs)),L1,fun j hj=>hj⟩
 rintro en I⟨v,rfl,Gn,M1,L1,ay⟩;have D1:=ba.h.lv L1 (fun hg=>jE (H.h.gl _ hg) bb.h);have q1:=D1.cell 1;have q2:=D1.cell 2;have q3:Cz I go 3 (Iz a):=HA.h▸D1.cell 3;obtain⟨a4,a5,bh⟩:=fY M1 L1 ay;clear L1 M1 D1 ay a6;go_wp2_with fail;go_ret;have bp:=a5.h.size;have bt:=a2.h.size;have L:Lv (fun j=>j=C.ub\/Gs j) w I:=(Lv.bL a2.h).trans a5.h fun j hj=> .inl (.inr hj);unfold jh;rw[<-HA.h];refine⟨af _,some ⟨I.heap.size,0,none⟩,1,_,rfl,?_,a4.h.below (au (aa _ _) _),L.alloc _,fun j hj=>?_,fun b hb hg=>?_⟩
 ·exact cI (base:=w.heap.size) (size:=8) I #[Iz 5,Iz id,Iz (x:Int),Iz ((k:Int)+1),Iz r.1,Iz aw,Iz (a - aw),Iz 0] 1 ae (by unfold maxLen;omega) rfl
 ·rcases bh.h j hj with h1|h1
  ·exact .inl h1
  ·have h2:w0.heap.size<=j:=h1.1
   exact .inr ⟨ae,by have:=h1.2;simp;omega⟩
 ·have bE:I.heap.size=b:=by injection hb
  have:=a4.h.gl b hg;omega
structure YQ (c:bN):Prop where
 side:c.side=1∨c.side=2
 t1:1≤c.time
 t3:c.time≤3
 q1:1≤c.aw
 q2:c.aw≤1000000
 l0:0≤c.least
 lq:c.least≤c.aw
 i1:1≤c.id
 i2:c.id≤1099511627776
 p1: -2000000≤c.ag
 p2:c.ag≤2000000
 n1:0≤c.inst
 n2:c.inst≤255
theorem FC (h:dx c=0) (hk:c.kind=1):YQ c:=by
 unfold dx wN at h
 by_cases h1:c.kind<1\/4<c.kind
 ·omega
 rw[if_neg h1] at h
 by_cases J:c.id<1\/1099511627776<c.id
 ·rw[if_pos J] at h;cases h
 rw[if_neg J,if_pos hk] at h
 by_cases O:c.side≠1/\c.side≠2
 ·rw[if_pos O] at h;cases h
 rw[if_neg O] at h
 by_cases h4:c.time<1\/3<c.time
 ·rw[if_pos h4] at h;cases h
 rw[if_neg h4] at h
 by_cases D:¬kL c.aw
 ·rw[if_pos D] at h;cases h
 rw[if_neg D] at h
 by_cases h6:c.least<0\/c.aw<c.least
 ·rw[if_pos h6] at h;cases h
 rw[if_neg h6] at h
 by_cases h7:c.ky≠[]/\Cd c.ky=false
 ·rw[if_pos h7] at h;cases h
 rw[if_neg h7] at h
 by_cases I:¬jg c.ag
 ·rw[if_pos I] at h;cases h
 rw[if_neg I] at h
 by_cases h9:c.inst<0\/255<c.inst
 ·rw[if_pos h9] at h;cases h
 unfold kL at D;unfold jg at I;exact⟨ae,ae,ae,ae,ae,ae,ae,ae,ae,ae,ae,ae,ae⟩
theorem PV {u:Int->Bool} (h:fR w b (sY u) n) (D:dZ id):
  (Instr.lookup 88 (.map (some b)) (Iz id) false).run Tryz.prog w= .ok (.bool (u id)) w:=by
 have I:(zeroValue 4).run Tryz.prog w= .ok (.bool false) w:=by kernel_rfl
 have:=h.look Tryz.underlying88 I D;rw[this];unfold sY
 by_cases hu:u id=true
 ·rw[if_pos hu,hu];rfl
 ·rw[if_neg hu,Bool.not_eq_true _|>.mp hu];rfl
theorem km (D a1 I J O a5 a6 a7:Int) (lb:List UInt8) (fy:Int) (w:World):Wz 38 #[.agg #[Iz D,Iz a1,Iz I,Iz J,Iz O,Iz a5,Iz a6,Iz a7, .string (str lb)],Iz fy] w fun e w'=> ∃A cp,e= .returned (.slice A 1 cp)/\lD w.heap.size w' A cp (mH a1 fy)/\Bz w w':=
 GI ⟨D,a1,I,J,O,a5,a6,a7,lb⟩ fy w
theorem NK (g:Nat) (P:PD) (m:Mk) (Gs R:Nat->Prop) (C:zt) (a0 ci:Int) (x k:Nat) (D cq cl I:Int) (lb:List UInt8) (w:World) (h:jW w Gs R g P m C) (hx:x<P.count) (hk:k<2) (hq:1<=cq/\cq<=1000000) (J:dZ ci) (hp:P.fy x D=0)
  (O:¬fI m.S ci) (ax:cK m.S<250) (ay:m.un<1000000) (hl:lb.length<=9223372036854775807):
  Wz 70 #[Pz g, .agg #[Iz a0,Iz ci,Iz (x:Int),Iz ((k:Int)+1),Iz D,Iz cq,Iz cl,Iz I, .string (str lb)]] w (ic w Gs R g P C (2+1503*cq.toNat) (iE P m ci x k D cq I)):=
 PU g P m Gs R C ⟨a0,ci,(x:Int),(k:Int)+1,D,cq,cl,I,lb⟩ x k w h rfl rfl hx hk hq J hp O ax ay hl
theorem Me (g:Nat) (P:PD) (m:Mk) (Gs R:Nat->Prop) (C:zt) (c:bN) (w:World) (h:jW w Gs R g P m C) (hr:dx c=0) (b7:c.kind=1) (eu:m.un<1000000) (hl:c.ky.length<=9223372036854775807):
  Wz 39 #[Pz g,c.val] w (ic w Gs R g P C (2+1503*c.aw.toNat) (lW P m c)):=by
 have hc:=FC hr b7;obtain⟨ck,ci,cn,cs,I,cq,cl,O,cb⟩:=c;obtain⟨hs,ew,eA,bp,bt,eB,eC,eD,eE,eF,eG,eI,eJ⟩:=hc;simp only at hs ew eA bp bt eB eC eD eE eF eG eI eJ b7 hl;obtain⟨k,ek,b8⟩:∃k:Nat,cs=(k:Int)+1/\k<2:=⟨(cs - 1).toNat,by omega,by omega⟩;subst b7;subst ek;obtain⟨fy,b0⟩:=Zn (P.oY cn I);have b6:dZ ci:=by unfold dZ;omega
 obtain⟨res,a5⟩:=Zn (lW P m ⟨1,ci,cn,(k:Int)+1,I,cq,cl,O,cb⟩);rw[<-a5];obtain⟨w0,bE⟩:=Zn (w.alloc (.cells (bN.cells ⟨1,ci,cn,(k:Int)+1,I,cq,cl,O,cb⟩) 35));obtain⟨gc,bH⟩:=Zn w.heap.size;have C0:kM w0 gc ⟨1,ci,cn,(k:Int)+1,I,cq,cl,O,cb⟩:=by rw[bE,bH];exact kM.new w _
 have B0:=Zw bE;have h0:=h.below B0;obtain⟨d0,d1,d2,d3,d4,d5,d6,d7,d8⟩:=C0.reads;obtain⟨m0,m1,m2,m3,m4,m5,m6,m7,m8,m9,d9,ax,eK⟩:=h0.b.cells;have J:g<w0.heap.size:=h0.b.D.lt;have b9:gc<w0.heap.size:=C0.lt;have st:∀{u:World} {b i:Nat} {v:Value},b<w0.heap.size->aR w0.drew u->Cz w0 b i v->Cz u b i v:=fun {u b i v} hb hu hv=>Yb hu hb hv;have e0:=fun u (hu:aR w0.drew u)=>st J hu m0;have e1:=fun u (hu:aR w0.drew u)=>st J hu m1;have e2:=fun u (hu:aR w0.drew u)=>st J hu m2;have e3:=fun u (hu:aR w0.drew u)=>st J hu m3;have e4:=fun u (hu:aR w0.drew u)=>st J hu m4;have e5:=fun u (hu:aR w0.drew u)=>st J hu m5;have e6:=fun u (hu:aR w0.drew u)=>st J hu m6;have e7:=fun u (hu:aR w0.drew u)=>st J hu m7;have e8:=fun u (hu:aR w0.drew u)=>st J hu m8;have e9:=fun u (hu:aR w0.drew u)=>st J hu m9;have eT:=fun u (hu:aR w0.drew u)=>st J hu d9;have o2:=fun u (hu:aR w0.drew u)=>st b9 hu d2;have o4:=fun u (hu:aR w0.drew u)=>st b9 hu d4;obtain⟨H,H0,eL,eM,HW,a6,ea,eU⟩:=Dw h h0 B0 C0 b0 a5 b6 bH;clear h h0 B0 C0 d0 d1 d2 d3 d4 d5 d6 d7 d8 m0 m1 m2 m3 m4 m5 m6 m7 m8 m9 d9 ax eK st J b9 a5 b6 hr b0;rw[show(bN.val ⟨1,ci,cn,(k:Int)+1,I,cq,cl,O,cb⟩)= .agg (bN.cells ⟨1,ci,cn,(k:Int)+1,I,cq,cl,O,cb⟩) from rfl]
 go_enter Tryz.func39,Tryz.ntmps39
 go_upto_region 1 with(fail)
 rw[<-bE,<-bH];clear bE bH;refine Zg [8] [0,1,2,3,4,5,6,7,8,9] ?_;refine Yt ?_;refine Ym fun K hK=>?_;refine(pQ P C.ma C.mc C.sa C.sc cn I _ H0.b.pd.drew).mono ?_;rintro e w1⟨rfl,b1⟩;rw[<-HW.h];have B1:Bz w0 w1:=(aS (aa _ _)).trans b1;refine Yo hK (b1) ?_;refine Yt ?_;refine aT ?_;have cf:=ao (dW eL B1);have M1:=H0.h.below B1;have C1:=eM.h.below B1;obtain⟨bQ,cm⟩:=dF M1 C1;obtain⟨d0,d1,d2,d3,d4,d5,d6,d7,d8⟩:=C1.reads;clear b1 B1 M1 C1
 by_cases a2:fy=0
 ·have i1:(fy !=0)=false:=by simp[a2]
  have eb:¬(cn<0\/(P.count:Int)<=cn):=fun hc=>by
   have:=HW.h;rw[a2] at this;unfold PD.oY at this;rw[if_pos hc] at this
   cases this
  obtain⟨x,ex⟩:∃x:Nat,cn=(x:Int):=⟨cn.toNat,by omega⟩;have hx:x<P.count:=by omega
  have ed:P.fy x I=0:=by
   have:=HW.h;unfold PD.oY at this;rw[if_neg eb,a2,ex] at this;exact this.symm
  obtain⟨least,el⟩:=Zn (if O=3 then cq else cl);have ay:res=(if m.used ci=true then (m,mH ci 25)
   else if 250<=cK m.S then (m,mH ci 13)
   else if 0<least/\ng P m.S x k I cq<least then (m,mH ci 28)
   else if O=1/\lV P m.S x k I cq=true then (m,mH ci 23)
   else iE P m ci x k I cq O):=by
   rw[a6.h];unfold lW;have eN:((k:Int)+1 - 1).toNat=k:=by omega
   have eO:cn.toNat=x:=by omega
   simp only[eN,eO,<-el];rw[if_neg (by rw[<-HW.h,a2];simp)]
  subst ex;obtain⟨ef,eP,eg,a7⟩:=mh a2 ed el ay;clear a2 eb ed el ay HW a6
  go_upto_if 25 with(fail)
  go_cut [6] (fun v wx=>v= Iz least/\w1=wx)
  case first=>
   by_cases ht:O=3
   ·have i2:(O==3)=true:=by simp[ht]
    have cv:least=cq:=by rw[eg.h,if_pos ht]
    clear ht;subst cv;go_wp2_with fail;go_meet;exact⟨rfl,rfl⟩
   ·have i2:(O==3)=false:=by simpa using ht
    have cv:least=cl:=by rw[eg.h,if_neg ht]
    clear ht;subst cv;go_wp2_with fail;go_meet;exact⟨rfl,rfl⟩
  obtain⟨rfl,rfl⟩:=hcut;have M1:=bQ.h;have C1:=cm.h;have eQ:∀u,aR w1.drew u->Cz u g 12 (.map (some C.ub)):=fun u hu=>Yb hu M1.b.D.lt (M1.b.D.cell 12);have k1:∀u,aR w1.drew u->Cz u gc 1 (Iz ci):=fun u hu=>Yb hu C1.lt (C1.cell 1);have lk:∀u,aR w1.drew u->(Instr.lookup 88 (.map (some C.ub)) (Iz ci) false).run Tryz.prog u= .ok (.bool (m.used ci)) u:=fun u hu=>PV (M1.us.below ((aS (aa _ _)).trans hu)) ea;obtain⟨ub,cF⟩:=Zn (m.used ci);rw[<-cF] at lk;have cH:=ao cF;clear M1 C1 cF d0 d1 d2 d3 d4 d5 d6 d7 d8
  go_upto_region 7 with(fail)
  refine Zg [] [0,1,2,3,4,5,6,7] ?_;refine Yt ?_;refine aT ?_;clear eQ k1 lk;obtain⟨w2,cQ⟩:=Zn w1.drew;rw[<-cQ];have b2:Bz w1 w2:=by rw[cQ];exact aS (aa _ _)
  have M2:=bQ.h.below b2;have C2:=cm.h.below b2;obtain⟨bR,a3,cS⟩:=fY (dW cf b2) M2 C2;obtain⟨d0,d1,d2,d3,d4,d5,d6,d7,d8⟩:=C2.reads;clear cQ b2 bQ cm cf C2
  cases ub with
  |true=>
   clear M2;go_wp2_with fail;refine(km 1 ci (x:Int) ((k:Int)+1) I cq cl O cb 25 w2).mono ?_;rintro e w3⟨A,cp,rfl,own,b3⟩;go_wp2_with fail;go_ret;rw[a7.h,if_pos cH.h.symm];exact(ic.same a3 rfl own b3).before bR (by show 1<=_;omega)
  |false=>
   have ei:¬m.used ci=true:=by rw[<-cH.h];simp
   have ax:Cz w2 g 11 (Pz C.s):=M2.b.D.cell 11;have a8:=ao ei;clear ei M2 cH;go_wp2_with fail;refine(LN C.s P m.S Gs R w2 a3.st).mono ?_;rintro e u⟨rfl,rfl⟩;obtain⟨cT,cX⟩:=Zn (cK m.S);rw[<-cX];have ba:=ao cX;clear cX
   by_cases a4:250<=cT
   ·have i3:(250:Int)<=cT:=by omega
    have a0:=ao a4;clear a4;go_wp2_with fail;refine(km 1 ci (x:Int) ((k:Int)+1) I cq cl O cb 13 w2).mono ?_;rintro e w3⟨A,cp,rfl,own,b3⟩;go_wp2_with fail;go_ret;rw[a7.h,if_neg a8.h,if_pos (by rw[<-ba.h];exact a0)];exact(ic.same a3 rfl own b3).before bR (by show 1<=_;omega)
   ·have i3:¬(250:Int)<=cT:=by omega
    have a0:=ao a4;clear a4;obtain⟨z,ez⟩:=Zn (decide (0<least/\ng P m.S x k I cq<least));have HZ:=ao ez;clear ez
    go_upto_region 11 with(fail)
    go_cut [47] (fun v wx=>v= .bool z/\Bz w2 wx)
    case first=>
     by_cases ej:0<least
     ·have C2:=cS.h
      have c0:∀u,aR w2.drew u->Cz u g 11 (Pz C.s):=fun u hu=>Yb hu a3.b.D.lt ax;have q2:∀u,aR w2.drew u->Cz u gc 2 (Iz (x:Int)):=fun u hu=>Yb hu C2.lt (C2.cell 2);have q3:∀u,aR w2.drew u->Cz u gc 3 (Iz ((k:Int)+1)):=fun u hu=>Yb hu C2.lt (C2.cell 3);have q4:∀u,aR w2.drew u->Cz u gc 4 (Iz I):=fun u hu=>Yb hu C2.lt (C2.cell 4);have q5:∀u,aR w2.drew u->Cz u gc 5 (Iz cq):=fun u hu=>Yb hu C2.lt (C2.cell 5);have hz:z=decide (ng P m.S x k I cq<least):=by rw[HZ.h];simp[ej]
      have eR:=ao hz;obtain⟨cd,eo⟩:=Zn (ng P m.S x k I cq);have ep:=ao eo;clear C2 ax d0 d1 d2 d3 d4 d5 d6 d7 d8 hz eo;refine Zg [15] [0,1,2,3,4,5,6,7,8,9,10,11,12,13,14,16,15,17,18,19] ?_;refine Yt ?_;clear c0 q2 q3 q4 q5;refine Ym fun K hK=>?_;refine(LY C.s P m.S Gs R x k ((k:Int)+1) I cq _ a3.st.drew hx b8 rfl ⟨bp,bt⟩).mono ?_;rintro e w3⟨rfl,b3⟩;rw[<-ep.h];refine Yo hK (b3) ?_;have B3:Bz w2 w3:=(aS (aa _ w2)).trans b3;refine Yt ?_;refine aT ?_;have bb:=ao B3;clear b3 B3;go_wp2_with fail;go_meet;exact⟨by rw[eR.h,<-ep.h],bb⟩
     ·have hz:z=false:=by rw[HZ.h];simp[ej]
      clear ax d0 d1 d2 d3 d4 d5 d6 d7 d8;subst hz;refine Zg [15] [0,1,2,3,4,5,6,7,8,9,10,11,12,13,14,16,15,17,18,19] ?_;refine Yt ?_;refine aT ?_;go_wp2_with fail;go_meet;exact⟨rfl,aS (aa _ _)⟩
    obtain⟨rfl,b3⟩:=hcut;obtain⟨w3,rfl⟩:=Zn wc;have M3:=a3.h.below b3;have C3:=cS.h.below b3;obtain⟨bc,dc,bb⟩:=fY M3 C3 (dW bR b3);obtain⟨d0,d1,d2,d3,d4,d5,d6,d7,d8⟩:=C3.reads;have ax:Cz w3 g 11 (Pz C.s):=M3.b.D.cell 11;clear M3 C3 b3 a3 cS bR;rcases(cG z).symm with e1|e1
    ·subst e1
     have bf:¬(0<least/\ng P m.S x k I cq<least):=by simpa using HZ.h.symm
     obtain⟨y,ey⟩:=Zn (decide (O=1/\lV P m.S x k I cq=true));obtain⟨bU,HY⟩:=dF bf ey;clear bf ey HZ
     go_upto_region 13 with(fail)
     go_cut [69] (fun v wx=>v= .bool y/\Bz w3 wx)
     case first=>
      have C3:=dc.h;have q7:∀u,aR w3.drew u->Cz u gc 7 (Iz O):=fun u hu=>Yb hu C3.lt (C3.cell 7)
      by_cases ht:O=1
      ·have c0:∀u,aR w3.drew u->Cz u g 11 (Pz C.s):=fun u hu=>Yb hu bc.b.D.lt ax
       have q2:∀u,aR w3.drew u->Cz u gc 2 (Iz (x:Int)):=fun u hu=>Yb hu C3.lt (C3.cell 2);have q3:∀u,aR w3.drew u->Cz u gc 3 (Iz ((k:Int)+1)):=fun u hu=>Yb hu C3.lt (C3.cell 3);have q4:∀u,aR w3.drew u->Cz u gc 4 (Iz I):=fun u hu=>Yb hu C3.lt (C3.cell 4);have q5:∀u,aR w3.drew u->Cz u gc 5 (Iz cq):=fun u hu=>Yb hu C3.lt (C3.cell 5);have hy:y=lV P m.S x k I cq:=by rw[HY.h];simp[ht]
       have i5:(O==1)=true:=by simp[ht]
       have eS:=ao hy;obtain⟨sk,er⟩:=Zn (lV P m.S x k I cq);have et:=ao er;clear C3 ax d0 d1 d2 d3 d4 d5 d6 d7 d8 hy er ht;refine Zg [16] [0,1,2,3,4,5,6,7,8,9,10,11,12,13,14,15,16,17,18] ?_;refine Yt ?_;clear c0 q2 q3 q4 q5 q7;refine Ym fun K hK=>?_;refine(CK C.s P m.S Gs R x k ((k:Int)+1) I cq _ bc.st.drew hx b8 rfl ⟨bp,bt⟩).mono ?_;rintro e w4⟨rfl,b4⟩;rw[<-et.h];refine Yo hK (b4) ?_;have B4:Bz w3 w4:=(aS (aa _ w3)).trans b4;refine Yt ?_;refine aT ?_;have bV:=ao B4;clear b4 B4;go_wp2_with fail;go_meet;exact⟨by rw[eS.h,<-et.h],bV⟩
      ·have hy:y=false:=by rw[HY.h];simp[ht]
       have i5:(O==1)=false:=by simpa using ht
       clear ax d0 d1 d2 d3 d4 d5 d6 d7 d8 C3 ht;subst hy;refine Zg [16] [0,1,2,3,4,5,6,7,8,9,10,11,12,13,14,15,16,17,18] ?_;refine Yt ?_;refine aT ?_;go_wp2_with fail;go_meet;exact⟨rfl,aS (aa _ _)⟩
     obtain⟨rfl,b4⟩:=hcut;obtain⟨w4,rfl⟩:=Zn wc;have M4:=bc.h.below b4;have C4:=dc.h.below b4;obtain⟨dp,bV⟩:=dF M4 (dW bb b4);obtain⟨d0,d1,d2,d3,d4,d5,d6,d7,d8⟩:=C4.reads;clear M4 C4 b4 bc dc bb ax;rcases(cG y).symm with e2|e2
     ·subst e2
      have bh:¬(O=1/\lV P m.S x k I cq=true):=by simpa using HY.h.symm
      have dS:=ao bh;clear bh HY;go_wp2_with fail;refine(NK g P m Gs R C 1 ci x k I cq cl O cb w4 dp hx b8 ⟨bp,bt⟩ ea eP (fun hs=>a8 (dp.su ci hs)) (by have:=a0.h;have:=ba.h;omega) eu hl).mono ?_;rintro e w5⟨dT,A,cp,Gs',rfl,ay⟩;go_wp2_with fail;go_ret;rw[a7.h,if_neg a8.h,if_neg (by rw[<-ba.h];exact a0),if_neg bU,if_neg dS];exact ic.before bV ⟨dT,A,cp,Gs',rfl,ay⟩ (af _)
     ·subst e2
      have bh:O=1/\lV P m.S x k I cq=true:=by simpa using HY.h.symm
      have dS:=ao bh;clear bh HY;go_wp2_with fail;refine(km 1 ci (x:Int) ((k:Int)+1) I cq cl O cb 23 w4).mono ?_;rintro e w5⟨A,cp,rfl,own,b5⟩;go_wp2_with fail;go_ret;rw[a7.h,if_neg a8.h,if_neg (by rw[<-ba.h];exact a0.h),if_neg bU.h,if_pos dS.h];exact(ic.same dp.h rfl own b5).before bV.h (by show 1<=_;omega)
    ·subst e1
     have bf:0<least/\ng P m.S x k I cq<least:=by simpa using HZ.h.symm
     have bU:=ao bf;clear bf HZ;go_wp2_with fail;refine(km 1 ci (x:Int) ((k:Int)+1) I cq cl O cb 28 w3).mono ?_;rintro e w4⟨A,cp,rfl,own,b4⟩;go_wp2_with fail;go_ret;rw[a7.h,if_neg a8.h,if_neg (by rw[<-ba.h];exact a0.h),if_pos bU.h];exact(ic.same bc.h rfl own b4).before bb.h (by show 1<=_;omega)
 ·have i1:(fy !=0)=true:=by simpa using a2
  have ef:=ao a2;clear a2;go_wp2_with fail;refine(km 1 ci cn ((k:Int)+1) I cq cl O cb fy w1).mono ?_;rintro e w2⟨A,cp,rfl,own,b2⟩;go_wp2_with fail;go_ret;have ay:res=(m,mH ci fy):=by
   rw[a6.h];unfold lW;simp only;rw[if_pos (by rw[<-HW.h];exact ef.h),<-HW.h]
  rw[ay];exact(ic.same bQ.h rfl own b2).before cf.h (by show 1<=_;omega)
theorem PW (s:Nat) (P:PD) (S:Sm) (G R:Nat->Prop) (w:World) (h:dR w G R s P S):
  Wz 56 #[Pz s] w fun e w'=> ∃s' D R',e= .returned (Pz s')/\dR w' D R' s' P S/\(∀j,D j->w.heap.size<=j)/\Bz w w':=
 (yO s P S G R w h).mono fun e w' ⟨s',I,J,O⟩=>⟨s',_,_,I,J,fun j hj=>hj.1,O⟩
theorem UF (g:Nat) (P:PD) (m:Mk) (Gs R:Nat->Prop) (C:zt) (ci:Int) (x k:Nat) (D cq:Int) (w:World) (h:jW w Gs R g P m C) (hx:x<P.count) (hk:k<2) (hq:1<=cq/\cq<=1000000) (I:dZ ci) (hp:P.fy x D=0)
  (J:¬fI m.S ci) (O:cK m.S<250) (ax:m.un<1000000):
  Wz 70 #[Pz g, .agg #[Iz 1,Iz ci,Iz (x:Int),Iz ((k:Int)+1),Iz D,Iz cq,Iz 0,Iz 1, .string ⟨#[]⟩]] w (ic w Gs R g P C (2+1503*cq.toNat) (iE P m ci x k D cq 1)):=
 NK g P m Gs R C 1 ci x k D cq 0 1 [] w h hx hk hq I hp J O ax bT
theorem JJ (g:Nat) (P:PD) (m:Mk) (Gs R:Nat->Prop) (C:zt) (c:bN) (x k:Nat) (M:BM) (r:iQ) (e:dn) (w:World) (h:jW w Gs R g P m C) (hM:m.S[x]?=some M) (hr:r∈M.side k) (he:e∈r.2) (cf:e.id=c.id) (hk:k<2)
  (hx:x<P.count) (hq:1<=c.aw/\c.aw<=1000000) (a6:dZ c.id) (eO:m.un<1000000) (hl:c.ky.length<=9223372036854775807):
  Wz 41 #[Pz g,c.val,Iz (x:Int),JI c.id k r.1 e] w (ic w Gs R g P C (3+1503*c.aw.toNat) (replaceM P m c x k r.1 e)):=by
 unfold JI;obtain⟨ck,ci,cn,cs,I,cq,cl,ct,cb⟩:=c;simp only at cf hq a6 hl⊢;obtain⟨p,ep⟩:=Zn r.1;obtain⟨a,ea⟩:=Zn e.aw;obtain⟨tp,cm⟩:=Zn e.top;obtain⟨fy,a0⟩:=Zn (P.fy x I);obtain⟨res,a7⟩:=Zn (replaceM P m ⟨ck,ci,cn,cs,I,cq,cl,ct,cb⟩ x k r.1 e);have b0:res=if fy≠0 then (m,mH ci fy) else if I=p/\cq<=a then jh m ci (a - cq) x k p e else if lV P (cutAt m.S x ci a) x k I cq=true then (m,mH ci 23) else ((iE P (dG m ci x k p e).1 ci x k I cq 1).1,(dG m ci x k p e).2++(iE P (dG m ci x k p e).1 ci x k I cq 1).2):=by
  rw[a7,a0,ep,ea];rfl
 have d9:P.oY (x:Int) I=fy:=by
  unfold PD.oY;rw[if_neg (by omega),a0];rfl
 rw[<-a7];obtain⟨eP,eQ,_⟩:=(h.st.JH hM).ok e (fX hr he);rw[<-ea] at eP eQ;obtain⟨w0,a8⟩:=Zn ((w.alloc (.cells (bN.cells ⟨ck,ci,cn,cs,I,cq,cl,ct,cb⟩) 35)).alloc (.cells #[Iz ci,Iz ((k:Int)+1),Iz p,Iz a, .bool tp] 81));obtain⟨gc,ba⟩:=Zn w.heap.size;obtain⟨go,bQ⟩:=Zn (gc+1);have C0:kM w0 gc ⟨ck,ci,cn,cs,I,cq,cl,ct,cb⟩:=by rw[a8,ba];exact(kM.new w _).below (au (aa _ _) _)
 have D0:aE w0 go 81 #[Iz ci,Iz ((k:Int)+1),Iz p,Iz a, .bool tp]:=by
  rw[a8,bQ,ba];have:=heap_alloc_new (w.alloc (.cells (bN.cells ⟨ck,ci,cn,cs,I,cq,cl,ct,cb⟩) 35)) (.cells #[Iz ci,Iz ((k:Int)+1),Iz p,Iz a, .bool tp] 81);rw[cw] at this;exact this
 have B0:Bz w w0:=by rw[a8];exact au (au (aa _ _) _) _
 have h0:=h.below B0;obtain⟨d0,d1,d2,d3,d4,d5,d6,d7,d8⟩:=C0.reads;obtain⟨m0,m1,m2,m3,m4,m5,m6,m7,m8,m9,eb,cv,eR⟩:=h0.b.cells;have J:g<w0.heap.size:=h0.b.D.lt;have ed:gc<w0.heap.size:=C0.lt;have st:∀{u:World} {b i:Nat} {v:Value},b<w0.heap.size->aR w0.drew u->Cz w0 b i v->Cz u b i v:=fun {u b i v} hb hu hv=>Yb hu hb hv;have e0:=fun u (hu:aR w0.drew u)=>st J hu m0;have e1:=fun u (hu:aR w0.drew u)=>st J hu m1;have e2:=fun u (hu:aR w0.drew u)=>st J hu m2;have e3:=fun u (hu:aR w0.drew u)=>st J hu m3;have e4:=fun u (hu:aR w0.drew u)=>st J hu m4;have e5:=fun u (hu:aR w0.drew u)=>st J hu m5;have e6:=fun u (hu:aR w0.drew u)=>st J hu m6;have e7:=fun u (hu:aR w0.drew u)=>st J hu m7;have e8:=fun u (hu:aR w0.drew u)=>st J hu m8;have e9:=fun u (hu:aR w0.drew u)=>st J hu m9;have eS:=fun u (hu:aR w0.drew u)=>st J hu eb;have o4:=fun u (hu:aR w0.drew u)=>st ed hu d4;obtain⟨H,H0,eT,eU,eV,HW,bR,bb,eW,eY,eZ,HP,HA,ef,HM,HR,HE,fa⟩:=TN h h0 B0 C0 D0 d9 b0 cf a6 ba bQ ep ea cm hM hr he a0;rw[<-ep,<-ea,<-cm];clear h h0 B0 C0 D0 d0 d1 d2 d3 d4 d5 d6 d7 d8 m0 m1 m2 m3 m4 m5 m6 m7 m8 m9 eb cv eR st J ed a7 a6 hr d9 b0 cf ep ea cm hM he a0;rw[show(bN.val ⟨ck,ci,cn,cs,I,cq,cl,ct,cb⟩)= .agg (bN.cells ⟨ck,ci,cn,cs,I,cq,cl,ct,cb⟩) from rfl]
 go_enter Tryz.func41,Tryz.ntmps41
 go_upto_region 1 with(fail)
 rw[<-a8,<-ba,<-bQ];clear a8 ba bQ;refine Zg [7] [0,1,2,3,4,5,6,7,8] ?_;refine Yt ?_;clear e0 e1 e2 e3 e4 e5 e6 e7 e8 e9 eS o4;refine Ym fun K hK=>?_;refine(pQ P C.ma C.mc C.sa C.sc (x:Int) I _ H0.h.b.pd.drew).mono ?_;rintro en w1⟨rfl,b1⟩;rw[HW.h];have B1:Bz w0 w1:=(aS (aa _ _)).trans b1;refine Yo hK (b1) ?_;refine Yt ?_;refine aT ?_;have cF:=ao (dW eT.h B1);have M1:=H0.h.below B1;have C1:=eU.h.below B1;have D1:=eV.h.below B1;obtain⟨bc,cH,cQ⟩:=fY M1 C1 D1;obtain⟨d0,d1,d2,d3,d4,d5,d6,d7,d8⟩:=C1.reads;have q0:Cz w1 go 0 (Iz ci):=D1.cell 0;have q1:Cz w1 go 1 (Iz ((k:Int)+1)):=D1.cell 1;have q2:Cz w1 go 2 (Iz p):=D1.cell 2;have q3:Cz w1 go 3 (Iz a):=D1.cell 3;have q4:Cz w1 go 4 (.bool tp):=D1.cell 4;clear b1 B1 M1 C1 D1
 by_cases a3:fy=0
 ·have i1:(fy !=0)=false:=by simp[a3]
  have a4:=ao a3;clear a3;obtain⟨z,ez⟩:=Zn (decide (I=p/\cq<=a));have HZ:=ao ez;clear ez
  go_upto_region 4 with(fail)
  go_cut [36] (fun v wx=>v= .bool z/\w1=wx)
  case first=>
   by_cases a5:I=p
   ·have i2:(I==p)=true:=by simp[a5]
    have hz:z=decide (cq<=a):=by rw[HZ.h];simp[a5]
    have ff:=ao hz;clear a5 hz;go_wp2_with fail;go_meet;exact⟨by rw[ff.h],rfl⟩
   ·have i2:(I==p)=false:=by simpa using a5
    have hz:z=false:=by rw[HZ.h];simp[a5]
    clear a5;subst hz;go_wp2_with fail;go_meet;exact⟨rfl,rfl⟩
  obtain⟨rfl,rfl⟩:=hcut;rcases(cG z).symm with hz|hz
  ·subst hz
   have ax:¬(I=p/\cq<=a):=by simpa using HZ.h.symm
   have cv:Cz w1 g 11 (Pz C.s):=bc.h.b.D.cell 11;have a2:=ao ax;clear ax HZ;go_wp2_with fail;refine(PW C.s P m.S Gs R w1 bc.h.st).mono ?_;rintro en w2⟨s',G',R',rfl,eg,ei,b2⟩;obtain⟨ej,ek,cS⟩:=fY eg ei b2;have C2:=cH.h.below b2;have D2:=cQ.h.below b2;clear d0 d1 d2 d3 d4 d5 d6 d7 d8 q0 q1 q2 q3 q4 eg ei b2 cv;obtain⟨d0,d1,d2,d3,d4,d5,d6,d7,d8⟩:=C2.reads;have q3:Cz w2 go 3 (Iz a):=D2.cell 3;clear C2 D2;go_wp2_with fail;refine(vp s' P m.S G' R' x k M r e ci a w2 ej.h HM.h HR.h HE.h bb.h hk ⟨by omega,by rw[<-HA.h];exact cM _⟩).mono ?_;rintro en w3⟨rfl,el,L3⟩;have B3:Bz w1 w3:=cS.h.trans (L3.below ek.h cS.h.size);have C3:=cH.h.below B3;have D3:=cQ.h.below B3;obtain⟨eo,er⟩:=dF el B3;clear d0 d1 d2 d3 d4 d5 d6 d7 d8 q3 el L3;obtain⟨d0,d1,d2,d3,d4,d5,d6,d7,d8⟩:=C3.reads;have q1:Cz w3 go 1 (Iz ((k:Int)+1)):=D3.cell 1;obtain⟨y,ey⟩:=Zn (lV P (cutAt m.S x ci a) x k I cq);have HY:=ao ey;clear C3 D3 B3 ey;go_wp2_with fail;refine(CK s' P _ _ _ x k ((k:Int)+1) I cq w3 eo.h hx hk rfl hq).mono ?_;rw[<-HY.h];rintro en w4⟨rfl,b4⟩;have B4:Bz w1 w4:=dW er.h b4;have M4:=bc.h.below B4;have C4:=cH.h.below B4;have D4:=cQ.h.below B4;obtain⟨et,eu,fi,cT⟩:=mh M4 C4 D4 (dW cF.h B4);clear d0 d1 d2 d3 d4 d5 d6 d7 d8 q1 b4 ej ek cS eo er M4 B4;obtain⟨d0,d1,d2,d3,d4,d5,d6,d7,d8⟩:=C4.reads;have q0:Cz w4 go 0 (Iz ci):=D4.cell 0;have q1:Cz w4 go 1 (Iz ((k:Int)+1)):=D4.cell 1;have q2:Cz w4 go 2 (Iz p):=D4.cell 2;have q3:Cz w4 go 3 (Iz a):=D4.cell 3;have q4:Cz w4 go 4 (.bool tp):=D4.cell 4;clear C4 D4
   cases y with
   |true=>
    go_wp2_with fail;refine(km ck ci cn cs I cq cl ct cb 23 w4).mono ?_;rintro en w5⟨A,cp,rfl,own,b5⟩;go_wp2_with fail;go_ret;rw[bR.h,if_neg (by rw[a4.h];simp),if_neg a2.h,if_pos HY.h.symm];exact(ic.same et.h rfl own b5).before cT.h (by show 1<=_;omega)
   |false=>
    go_wp2_with fail;refine(Calls.mono (R:=ic w4 Gs R g P C 1 (dG m ci x k p e)) ?_ ?_)
    ·have:=CN g P m Gs R C x k M r e ci w4 et.h HM.h HR.h HE.h bb.h hk
     unfold JI at this;rw[<-HP.h,<-HA.h,<-ef.h] at this;exact this
    rintro en w5⟨-,A5,cX,fk,rfl,b3,M5,L5,b6,bf⟩;rw[show(dG m ci x k p e).2.length=1 from rfl] at bf⊢;have c0:∀j,w.heap.size<=j->¬(j=C.ub\/Gs j):=fun j hj hF=>by
     rcases hF with e'|e'
     ·have:=H.h.us.lt;omega
     ·have:=H.h.gl j e';omega
    have ew:w.heap.size<=gc:=bu eY.h.symm;have C5:kM w5 gc ⟨ck,ci,cn,cs,I,cq,cl,ct,cb⟩:=(L5.block gc eu.h.lt (c0 gc ew)).trans eu.h;have D5:=fi.h.lv L5 (c0 go (by have:=eZ.h;omega));obtain⟨eA,fq,dc,b7,b8⟩:=rU b3 M5 L5 b6 bf;clear d0 d1 d2 d3 d4 d5 d6 d7 d8 q0 q1 q2 q3 q4 b3 M5 L5 b6 bf c0 ew;obtain⟨d0,d1,d2,d3,d4,d5,d6,d7,d8⟩:=C5.reads;have q1:Cz w5 go 1 (Iz ((k:Int)+1)):=D5.cell 1;have hcut:=UE H.h.st HM.h (fX HR.h HE.h);have bh:¬fI (dG m ci x k p e).1.S ci:=by
     have:=hcut.1;rw[bb.h] at this;exact this
    have bp:cK (dG m ci x k p e).1.S<250:=by
     have O:=hcut.2;rw[bb.h] at O;have h2:=H.h.st.cnt;have h3:(dG m ci x k p e).1.S=cutAt m.S x ci e.aw:=rfl;rw[h3];omega
    obtain⟨eB,eC⟩:=dF bh bp;clear hcut bh bp C5 D5;go_wp2_with fail;refine(UF g P (dG m ci x k p e).1 fk R C ci x k I cq w5 fq.h hx hk hq eW.h (fa.h.symm.trans a4.h) eB.h eC.h eO).mono ?_;obtain⟨eM,bU⟩:=Zn (iE P (dG m ci x k p e).1 ci x k I cq 1);rw[<-bU];have fx:=ao bU;have eD:eM.2≠[]:=by rw[bU];unfold iE;simp only;repeat' split<;>simp
    have fz:=ao eD;clear bU eD;rintro en w6⟨h6,A6,fH,eE,rfl,b9,M6,L6,bt,bE⟩;obtain⟨n6,dp⟩:=Zn eM.2.length;rw[<-dp] at h6 bE⊢;have bV:∀b,(Value.slice A5 1 cX).ownBlock=some b->w4.heap.size<=b/\b<w5.heap.size/\¬eE b/\b≠C.ub/\b≠g/\¬R b:=fun b hb=>by
     have O:=eA.h.lt b hb;have h2:=b8.h b hb;have h3:=cT.h.size;refine⟨O.1,O.2,fun hg=>?_,fun e'=>?_,fun e'=>?_,fun e'=>?_⟩
     ·rcases bt b hg with h4|h4
      ·exact h2 h4
      ·have:=h4.1;omega
     ·have:=H.h.us.lt;omega
     ·have:=H.h.b.D.lt;omega
     ·have:=H.h.rl b e';omega
    have bH:w6.ownsRow w4.heap.size 40 8 (.slice A5 1 cX) 1 (fC (dG m ci x k p e).2):=aX eA.h fun b hb=>L6.block b (bV b hb).2.1 fun hF=>by
     rcases hF with e'|e'
     ·exact(bV b hb).2.2.2.1 e'
     ·exact b8.h b hb e'
    have eF:Cells w6 A6 (fC eM.2):=dP.cC b9;have eG:w4.heap.size<=w6.heap.size:=aF dc.h.size L6.size;obtain⟨fT,f0,eI,eJ,eK,f5,dS,eL,f1,f2⟩:=QM bH eF M6 L6 bt bE bV dp eG h6;clear b9 bH eF M6 L6 bt bE bV dp d0 d1 d2 d3 d4 d5 d6 d7 d8 q1 eG
    go_wp2_with (at_builtin
                 refine kS yP fT.h (A:=A6) (m:=n6) (c:=fH) (news:=fC eM.2) rfl _ _ rfl rfl rfl (by rw[iL,eL.h]) (by intro h0;have O:=iL eM.2;rw[h0] at O;simp at O;exact fz.h (aP (by omega))) f0.h (x9 eM.2) (by omega) f1.h (1+n6) _ rfl rfl ?_;intro A7 c7 w7 cd;have eN:=ao cd;clear cd)
    go_ret;have dT:=eN.h;have f3:res=(eM.1,(dG m ci x k p e).2++eM.2):=by
     rw[bR.h,if_neg (by rw[a4.h];simp),if_neg a2.h,if_neg (by rw[<-HY.h];simp),<-fx.h]
    rw[f3];have ay:1+n6=((dG m ci x k p e).2++eM.2).length:=by rw[aC,eL.h];rfl
    have L7:Lv (fun j=>(Value.slice A5 1 cX).ownBlock=some j) w6 w7:=Lv.dy dT.grown fun j hj=> .inl hj;have M7:=eI.h.lv L7 (fun j hj hb=>by
     obtain⟨_,_,O,h2,h3,h4⟩:=dS.h j hb;rcases hj with e'|e'|e'|e'
     ·exact h3 e'
     ·exact h2 e'
     ·exact O e'
     ·exact h4 e')
    have LL:Lv (fun j=>j=C.ub\/Gs j) w4 w7:=(dc.h.trans eJ.h (fun j hj=>by
     rcases hj with O|O
     ·exact .inl (.inl O)
     ·rcases b7.h j O with h2|h2
      ·exact .inl (.inr h2)
      ·exact .inr h2.1)).trans L7 (fun j hj=> .inr (dS.h j hj).1)
    refine ic.before cT.h (B:=3+1503*cq.toNat) ⟨by show((dG m ci x k p e).2++eM.2).length<=_;rw[<-ay];have:=f2.h;omega,A7,c7,eE,by rw[<-ay];rfl,?_,M7,LL,fun j hj=>?_,fun b hb hg=>?_⟩ (af _)
    ·rw[lD,<-ay,rJ]
     exact dT.own
    ·rcases eK.h j hj with O|O
     ·rcases b7.h j O with h2|h2
      ·exact .inl h2
      ·exact .inr ⟨h2.1,by have:=h2.2;have:=eJ.h.size;have:=L7.size;omega⟩
     ·exact .inr ⟨by have:=O.1;have:=dc.h.size;omega,by have:=O.2;have:=L7.size;omega⟩
    ·rw[<-ay] at hb
     rcases dT.jV with O|O
     ·rw[O] at hb;exact(dS.h b hb).2.2.1 hg
     ·rw[O] at hb
      have f6:w6.heap.size=b:=by injection hb
      have:b<w6.heap.size:=eI.h.gl b hg;omega
  ·subst hz
   have ax:I=p/\cq<=a:=by simpa using HZ.h.symm
   have i3:cq<=a:=ax.2;have a2:=ao ax;clear ax HZ;go_wp2_with fail;refine(Calls.mono (R:=ic w1 Gs R g P C 1 (jh m ci (a - cq) x k p e)) ?_ ?_)
   ·have:=CO g P m Gs R C x k M r e ci (a - cq) w1 bc.h HM.h HR.h HE.h bb.h hk ⟨by omega,by rw[<-HA.h];omega⟩
    unfold JI at this;rw[<-HP.h,<-HA.h,<-ef.h] at this;exact this
   rintro en w2⟨h2,A,cp,Gs',rfl,f4⟩;go_wp2_with fail;go_ret;rw[bR.h,if_neg (by rw[a4.h];simp),if_pos a2.h];exact ic.before cF.h ⟨h2,A,cp,Gs',rfl,f4⟩ (by omega)
 ·have i1:(fy !=0)=true:=by simpa using a3
  have a4:=ao a3;clear a3;go_wp2_with fail;refine(km ck ci cn cs I cq cl ct cb fy w1).mono ?_;rintro en w2⟨A,cp,rfl,own,b2⟩;go_wp2_with fail;go_ret;rw[bR.h,if_pos a4.h];exact(ic.same bc.h rfl own b2).before cF.h (by show 1<=_;omega)
end Go.Proofs.YtbaaheidifacaaaGreat
