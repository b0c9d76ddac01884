import Derived.Test.YtbaaheidifacaaaGreatQMktP
import Derived.Test.YtbaaheidifacaaaGreatQRefB
import Derived.Test.YtbaaheidifacaaaGreatQCmd
set_option linter.defProp false
set_option linter.unusedVariables false
set_option linter.unusedSimpArgs false
set_option maxRecDepth 100000
set_option maxHeartbeats 12800000
namespace Go.Proofs.YtbaaheidifacaaaGreat
variable {P:PD} {X c:bN} {g mc sc:Nat} {ma sa:Option Addr} {v w w0:World}
open Go.RowKit
theorem kM.WA {c':bN} (h:kM w g c) (i:Nat) (u:Value) (hc:c.cells.setIfInBounds i u=c'.cells):kM (w.setCell ⟨g,i,none⟩ u) g c':=by
 have:=aE.set (T:=35) h i u;rw[hc] at this;exact this
structure nR (w0 v:World) (g:Nat) (P:PD) (ma:Option Addr) (mc:Nat) (sa:Option Addr) (sc:Nat) (c X:bN):Prop where
 b:Bz w0 v
 pb:fM v g P ma mc sa sc
 cc:kM v (g+1) c
 zz:kM v (g+2) bN.zero
 xx:kM v (g+3) X
 hg:w0.heap.size≤g
theorem nR.below {v':World} (h:nR w0 v g P ma mc sa sc c X) (D:Bz v v'):nR w0 v' g P ma mc sa sc c X:=
 ⟨dW h.b D,aE.below h.pb D,h.cc.below D,h.zz.below D,h.xx.below D,h.hg⟩
theorem nR.drew (h:nR w0 v g P ma mc sa sc c X):nR w0 v.drew g P ma mc sa sc c X:=h.below (aS (aa _ _))
theorem nR.set {I:bN} (h:nR w0 v g P ma mc sa sc c X) (i:Nat) (u:Value) (hc:X.cells.setIfInBounds i u=I.cells):nR w0 (v.setCell ⟨g+3,i,none⟩ u) g P ma mc sa sc c I:=by
 have D:∀k,k≠g+3->(v.setCell ⟨g+3,i,none⟩ u).heap[k]?=v.heap[k]?:=fun k J=>heap_setCell_other _ _ _ _ J;exact⟨h.b.setCell (by show w0.heap.size<=g+3;have:=h.hg;omega) u,aE.block h.pb (D g ae),(D (g+1) ae).trans h.cc,(D (g+2) ae).trans h.zz,h.xx.WA i u hc,h.hg⟩
theorem bN.frozen (h:kM w g c) (i:Nat):w.frozen? ⟨g,i,none⟩=false:=aE.frozen (T:=35) h i
theorem Ph {t a:Int} (D:1<=t/\t<=1000) (ha:0<=a/\a<=9):wrap64 (t*a)=t*a:=by
 have I:0<=t*a:=jG ae ae;have J:t*a<=1000*9:=tA ae ae ae ae;exact py _ ae
theorem Ut {t a:Int} (I:1<=t/\t<=1000) (ha:0<=a/\a<=9):0<=t*a/\t*a<=9000:=by
 have D:0<=t*a:=jG ae ae;have J:t*a<=1000*9:=tA ae ae ae ae;exact⟨D,ae⟩
def VP (P:PD) (c:bN) (i:Nat) (w:World) (e:Ending) (w':World):Prop:=e= .returned (rB P c i).val∧Bz w w'
theorem Pj (P:PD) (ma:Option Addr) (mc:Nat) (sa:Option Addr) (sc:Nat) (c:bN) (i:Nat) (w:World) (hP:iZ w P ma sa) (hi:i<=1000000):
  Wz 17 #[P.val ma mc sa sc,c.val,Iz (i:Int)] w (VP P c i w):=by
 obtain⟨ck,ci,cn,cs,O,cq,cl,ct,cb⟩:=c;have ea:=hP.right.cnt;obtain⟨N,eN⟩:=Zn (P.count:Nat);obtain⟨tk,b7⟩:=Zn P.tick;have ht:1<=tk/\tk<=1000:=b7▸⟨hP.right.BO,hP.right.EH⟩;have hN:2<=N/\N<=21:=ae;have b0:=cW ck 0 8 ae;have b1:=cW ci 0 30 ae;have b2:=cW cn 0 ((N:Int) - 1) ae;have b3:=cW cs 0 1 ae;have b4:=cW O 0 9 ae;have b5:=cW cq 0 11 ae;obtain⟨a0,bh⟩:=Zn (within ck 0 8);obtain⟨a1,cQ⟩:=Zn (within ci 0 30);obtain⟨a2,cS⟩:=Zn (within cn 0 ((N:Int) - 1));obtain⟨a3,cT⟩:=Zn (within cs 0 1);obtain⟨a4,b8⟩:=Zn (within O 0 9);obtain⟨a5,b9⟩:=Zn (within cq 0 11);rw[<-bh] at b0;rw[<-cQ] at b1;rw[<-cS] at b2;rw[<-cT] at b3;rw[<-b8] at b4;rw[<-b9] at b5;have b6:=cW cl 0 (1+a5) ae;obtain⟨a6,cX⟩:=Zn (within cl 0 (1+a5));rw[<-cX] at b6;obtain⟨kd,bH⟩:=Zn (if 4<1+a0 then 1 else 1+a0:Int);obtain⟨pr,bQ⟩:=Zn (tk*a4:Int);have eb:=Ut ht b4;have cd:wrap64 (tk*a4)=pr:=bQ▸Ph ht b4;have bt:IntKind.i64.wrap (tk*a4)=pr:=(IntWalk.i64_left _).trans cd;rw[<-bQ] at eb;obtain⟨r5,cf⟩:=Zn (ct.tmod 5:Int);obtain⟨r4,cm⟩:=Zn (cl.tmod 4:Int);have eA: -4<=r5/\r5<=4:=by
  have h1:=Int.tmod_lt_of_pos ct (b:=5) ae;have h2:=Int.lt_tmod_of_pos ct (b:=5) ae;omega
 have eB: -3<=r4/\r4<=3:=by
  have h1:=Int.tmod_lt_of_pos cl (b:=4) ae;have h2:=Int.lt_tmod_of_pos cl (b:=4) ae;omega
 have bR:IntKind.i64.wrap (ct.tmod 5)=r5:=cf▸aN _ ae;have a8:wrap64 (ct.tmod 5)=r5:=cf▸py _ ae;have dc:IntKind.i64.wrap (cl.tmod 4)=r4:=cm▸aN _ ae;have bE:wrap64 (cl.tmod 4)=r4:=cm▸py _ ae;obtain⟨bU,cv⟩:=Zn (if r5=2 then 2 else 1:Int);obtain⟨tm,d4⟩:=Zn (if r5=3 then 3 else bU:Int);obtain⟨ls,els⟩:=Zn (if r4=1 then a6 else 0:Int);obtain⟨sp,d5⟩:=Zn (decide (P.n<=a2.toNat):Bool);obtain⟨p4,d6⟩:=Zn (if kd=4 then pr+5*tk else pr:Int);have d2:kd=1->rB P ⟨ck,ci,cn,cs,O,cq,cl,ct,cb⟩ i=⟨1,(i:Int)+1,a2,1+a3,if sp=true then pr - 4*tk else pr+8*tk,1+a5,ls,tm,[]⟩:=fun hk=>by
  have d7:(1+within ck 0 8=1\/4<1+within ck 0 8):=by rw[<-bh];rw[bH] at hk;split at hk<;>omega
  have bb:(a2<(P.n:Int))↔¬sp=true:=by rw[d5,decide_eq_true_iff];omega
  unfold rB;simp only;rw[if_pos d7,<-eN,<-cS,<-cT,<-b8,<-b9,<-cX,<-b7,<-cf,<-cm,<-bQ,<-els,lM 8 tk,lM 4 tk];have e5:(if r5=3 then (3:Int) else if r5=2 then 2 else 1)=tm:=by rw[d4,cv]
  rw[e5]
  by_cases hs:sp=true
  ·rw[if_pos hs,if_neg (fun e=>bb.1 e hs)]
  ·rw[if_neg hs,if_pos (bb.2 hs)]
 have hold:kd≠1->rB P ⟨ck,ci,cn,cs,O,cq,cl,ct,cb⟩ i=⟨kd,1+a1,0,0,p4,1+a5,0,0,[]⟩:=fun hk=>by
  have d7:¬(1+within ck 0 8=1\/4<1+within ck 0 8):=by rw[<-bh];rw[bH] at hk;split at hk<;>omega
  have e1:kd=1+a0:=by rw[bH,if_neg (by rw[bh];omega)]
  unfold rB;simp only;rw[if_neg d7,<-bh,<-e1,<-cQ,<-b8,<-b9,<-b7,<-bQ,lM 5 tk,lM tk 5,<-d6]
 have eC:1<=kd/\kd<=4:=by rw[bH];split<;>omega
 obtain⟨A0,A1,A2,A3,A4,A5,A6,EN,dp,ed,eD,ef,ew,d3,ei,ej,ey,ek⟩:=TN bh cQ cS cT b8 b9 cX eN b7 bH bQ cf cm cv d4 els d5 d6;obtain⟨el,eo,HP,W5,W6,W4⟩:=FW d2 hold hP (And.intro bR a8) (And.intro dc bE) (And.intro cd bt);clear bh cQ cS cT b8 b9 cX eN b7 bH bQ cf cm cv d4 els d5 d6 d2 hold hP ea bR a8 dc bE cd bt;obtain⟨R,eR⟩:=Zn (VP P ⟨ck,ci,cn,cs,O,cq,cl,ct,cb⟩ i w);have ER:=ao eR;rw[PD.jt,show bN.val ⟨ck,ci,cn,cs,O,cq,cl,ct,cb⟩= .agg (bN.cells ⟨ck,ci,cn,cs,O,cq,cl,ct,cb⟩) from rfl,<-eR];clear eR;obtain⟨W3,bp⟩:=Zn (((w.alloc (.cells (P.cells ma mc sa sc) 25)).alloc (.cells (bN.cells ⟨ck,ci,cn,cs,O,cq,cl,ct,cb⟩) 35)).alloc (.cells (bN.cells bN.zero) 35));obtain⟨g,eg⟩:=Zn w.heap.size;have dS:W3.heap.size=g+3:=by rw[bp,eg];simp
 have B3:Bz w W3:=bp▸au (au (au (aa _ _) _) _) _;have K0:fM W3 g P ma mc sa sc:=bp▸eg▸aE.below (aE.below (fM.new _ _ _ _ _ _) (au (aa _ _) _)) (au (aa _ _) _);have K1:kM W3 (g+1) ⟨ck,ci,cn,cs,O,cq,cl,ct,cb⟩:=by
  rw[bp,eg];have h:=(kM.new (w.alloc (.cells (P.cells ma mc sa sc) 25)) ⟨ck,ci,cn,cs,O,cq,cl,ct,cb⟩).below (au (aa _ _) (.cells (bN.cells bN.zero) 35));rw[cw] at h;exact h
 have K2:kM W3 (g+2) bN.zero:=by
  rw[bp,eg];have h:=kM.new ((w.alloc (.cells (P.cells ma mc sa sc) 25)).alloc (.cells (bN.cells ⟨ck,ci,cn,cs,O,cq,cl,ct,cb⟩) 35)) bN.zero;rw[cw,cw] at h;exact h
 have c0:Cz W3 (g+1) 0 (Iz ck):=K1.cell 0;have dT:w.heap.size<=g:=ae;have HK:=ao (And.intro K0 (And.intro K1 (And.intro K2 (And.intro B3 (And.intro dS dT)))));clear K0 K1 K2 B3 dS dT
 go_enter Tryz.func17,Tryz.ntmps17
 go_upto_region 1 with(fail)
 refine jN bp ?_;rw[<-eg];have EG:=ao eg;clear bp eg;go_wp2_with fail;refine(dg ck 0 8 W3 ae ae ae).mono ?_;rw[<-A0.h];rintro e u⟨rfl,rfl⟩
 go_upto_region 2 with(fail)
 obtain⟨v0,e2⟩:=Zn (W3.alloc (.cells (bN.cells ⟨1+a0,0,0,0,0,0,0,0,[]⟩) 35));refine jN e2 ?_;rw[HK.h.2.2.2.2.1];have D:Hid (nR w v0 g P ma mc sa sc ⟨ck,ci,cn,cs,O,cq,cl,ct,cb⟩ ⟨1+a0,0,0,0,0,0,0,0,[]⟩):=ao (by
  obtain⟨K0,K1,K2,B3,dS,dT⟩:=HK.h;have hb:=Zw e2;refine⟨dW B3 hb,aE.below K0 hb,K1.below hb,K2.below hb,?_,dT⟩;rw[e2,<-dS];exact kM.new W3 _)
 clear HK e2 c0;have c1:Cz v0 (g+1) 1 (Iz ci):=D.h.cc.cell 1;have x1:Cz v0 (g+3) 1 (Iz 0):=D.h.xx.cell 1;have y1:=bN.frozen D.h.xx 1;go_wp2_with fail;refine(dg ci 0 30 v0 ae ae ae).mono ?_;rw[<-A1.h];rintro e u⟨rfl,rfl⟩
 go_upto_region 3 with(fail)
 clear c1 x1 y1;obtain⟨v1,e2⟩:=Zn (v0.setCell ⟨g+3,1,none⟩ (Iz (1+a1)));refine jN e2 ?_;have I:Hid (nR w v1 g P ma mc sa sc ⟨ck,ci,cn,cs,O,cq,cl,ct,cb⟩ ⟨1+a0,1+a1,0,0,0,0,0,0,[]⟩):=ao (e2▸D.h.set 1 (Iz (1+a1)) rfl);clear D e2;have D:=I;clear I;have x0:Cz v1 (g+3) 0 (Iz (1+a0)):=D.h.xx.cell 0;have y0:=bN.frozen D.h.xx 0
 go_upto_if 24 with(fail)
 go_cut [] (fun wx=>Hid (nR w wx g P ma mc sa sc ⟨ck,ci,cn,cs,O,cq,cl,ct,cb⟩ ⟨kd,1+a1,0,0,0,0,0,0,[]⟩))
 case first=>
  by_cases h4:4<1+a0
  ·have e1:kd=1:=by rw[ed.h,if_pos h4]
   subst e1;go_wp2_with fail;go_meet;exact ao (D.h.set 0 _ rfl)
  ·have e1:kd=1+a0:=by rw[ed.h,if_neg h4]
   have hf:decide (4<1+a0)=false:=decide_eq_false h4;go_wp2_with fail;go_meet;rw[e1];exact D
 clear x0 y0;clear D;have D:=hcut;clear hcut;obtain⟨v2,ay⟩:=Zn wc;rw[<-ay] at D⊢;clear ay;have k0:Cz v2 g 0 (.string (str P.code)):=D.h.pb.cell 0;have k1:Cz v2 g 1 (.slice ma P.E.length mc):=D.h.pb.cell 1;have k2:Cz v2 g 2 (Iz P.tick):=D.h.pb.cell 2;have k3:Cz v2 g 3 (Iz P.low):=D.h.pb.cell 3;have k4:Cz v2 g 4 (Iz P.high):=D.h.pb.cell 4;have k5:Cz v2 g 5 (Iz P.wide):=D.h.pb.cell 5;have k6:Cz v2 g 6 (Iz P.rule):=D.h.pb.cell 6;have k7:Cz v2 g 7 (Iz P.top):=D.h.pb.cell 7;have k8:Cz v2 g 8 (Iz P.least):=D.h.pb.cell 8;have k9:Cz v2 g 9 (Iz P.part):=D.h.pb.cell 9;have d8:Cz v2 g 10 (.slice sa P.settle.length sc):=D.h.pb.cell 10;go_wp2_with fail;refine(Lj P ma mc sa sc v2 (HP.h.below D.h.b)).mono ?_;rw[<-EN.h];rintro e v3⟨rfl,er⟩;clear k0 k1 k2 k3 k4 k5 k6 k7 k8 k9 d8;have I:=ao (D.h.below er);clear D er;have D:=I;clear I;have c2:Cz v3 (g+1) 2 (Iz cn):=D.h.cc.cell 2;have x2:Cz v3 (g+3) 2 (Iz 0):=D.h.xx.cell 2;have y2:=bN.frozen D.h.xx 2;go_wp2_with fail;refine(dg cn 0 ((N:Int) - 1) v3 ae ae ae).mono ?_;rw[<-A2.h];rintro e u⟨rfl,rfl⟩
 go_upto_region 7 with(fail)
 clear c2 x2 y2;obtain⟨v4,e2⟩:=Zn (v3.setCell ⟨g+3,2,none⟩ (Iz a2));refine jN e2 ?_;have I:Hid (nR w v4 g P ma mc sa sc ⟨ck,ci,cn,cs,O,cq,cl,ct,cb⟩ ⟨kd,1+a1,a2,0,0,0,0,0,[]⟩):=ao (e2▸D.h.set 2 (Iz a2) rfl);clear D e2;have D:=I;clear I;have c3:Cz v4 (g+1) 3 (Iz cs):=D.h.cc.cell 3;have x3:Cz v4 (g+3) 3 (Iz 0):=D.h.xx.cell 3;have y3:=bN.frozen D.h.xx 3;go_wp2_with fail;refine(dg cs 0 1 v4 ae ae ae).mono ?_;rw[<-A3.h];rintro e u⟨rfl,rfl⟩
 go_upto_region 8 with(fail)
 clear c3 x3 y3;obtain⟨v5,e2⟩:=Zn (v4.setCell ⟨g+3,3,none⟩ (Iz (1+a3)));refine jN e2 ?_;have I:Hid (nR w v5 g P ma mc sa sc ⟨ck,ci,cn,cs,O,cq,cl,ct,cb⟩ ⟨kd,1+a1,a2,1+a3,0,0,0,0,[]⟩):=ao (e2▸D.h.set 3 (Iz (1+a3)) rfl);clear D e2;have D:=I;clear I;have c5:Cz v5 (g+1) 5 (Iz cq):=D.h.cc.cell 5;have x5:Cz v5 (g+3) 5 (Iz 0):=D.h.xx.cell 5;have y5:=bN.frozen D.h.xx 5;go_wp2_with fail;refine(dg cq 0 11 v5 ae ae ae).mono ?_;rw[<-A5.h];rintro e u⟨rfl,rfl⟩
 go_upto_region 9 with(fail)
 clear c5 x5 y5;obtain⟨v6,e2⟩:=Zn (v5.setCell ⟨g+3,5,none⟩ (Iz (1+a5)));refine jN e2 ?_;have I:Hid (nR w v6 g P ma mc sa sc ⟨ck,ci,cn,cs,O,cq,cl,ct,cb⟩ ⟨kd,1+a1,a2,1+a3,0,1+a5,0,0,[]⟩):=ao (e2▸D.h.set 5 (Iz (1+a5)) rfl);clear D e2;have D:=I;clear I;have c4:Cz v6 (g+1) 4 (Iz O):=D.h.cc.cell 4;have k2:Cz v6 g 2 (Iz tk):=dp.h▸D.h.pb.cell 2;have l2:∀u,Below v6.heap.size v6.drew u->Cz u g 2 (Iz tk):=fun u hu=>Yb hu (aE.lt D.h.pb) k2;have l4:∀u,Below v6.heap.size v6.drew u->Cz u (g+1) 4 (Iz O):=fun u hu=>Yb hu D.h.cc.lt c4;obtain⟨cd,bt⟩:=W4.h;clear c4 k2;refine Zb v6.heap.size 7 [4,7] [0,1,2,3,4,5,6,7] ?_;refine Yt ?_;clear l2 l4;refine Ym fun K hK=>?_;refine(dg O 0 9 v6.drew ae ae ae).mono ?_;rw[<-A4.h];rintro e u⟨rfl,rfl⟩;refine Yo hK (dH.J _ _) ?_;have z4:Cz v6.drew (g+3) 4 (Iz 0):=D.h.drew.xx.cell 4;have y4:Fz v6.drew (g+3) 4:=bN.frozen D.h.drew.xx 4;refine Yt ?_;refine Zl fun K hK=>?_;go_simp;refine Yl hK ?_;refine aT ?_;clear z4 y4 cd bt;obtain⟨v7,e2⟩:=Zn ((v6.setCell ⟨g+3,4,none⟩ (Iz pr)).drew);rw[<-e2];have I:Hid (nR w v7 g P ma mc sa sc ⟨ck,ci,cn,cs,O,cq,cl,ct,cb⟩ ⟨kd,1+a1,a2,1+a3,pr,1+a5,0,0,[]⟩):=ao (e2▸nR.drew (D.h.set 4 (Iz pr) rfl));clear D e2;have D:=I;clear I
 by_cases bV:kd=1
 ·have ba:=el.h bV
  subst bV;have x0:Cz v7 (g+3) 0 (Iz 1):=D.h.xx.cell 0;have x1:Cz v7 (g+3) 1 (Iz (1+a1)):=D.h.xx.cell 1;have y1:=bN.frozen D.h.xx 1
  go_upto_region 12 with(fail)
  clear x0 x1 y1;obtain⟨v8,e2⟩:=Zn (v7.setCell ⟨g+3,1,none⟩ (Iz ((i:Int)+1)));refine jN e2 ?_;have I:Hid (nR w v8 g P ma mc sa sc ⟨ck,ci,cn,cs,O,cq,cl,ct,cb⟩ ⟨1,(i:Int)+1,a2,1+a3,pr,1+a5,0,0,[]⟩):=ao (e2▸D.h.set 1 (Iz ((i:Int)+1)) rfl);clear D e2;have D:=I;clear I;have x7:Cz v8 (g+3) 7 (Iz 0):=D.h.xx.cell 7;have y7:=bN.frozen D.h.xx 7
  go_upto_region 13 with(fail)
  clear x7 y7;obtain⟨v9,e2⟩:=Zn (v8.setCell ⟨g+3,7,none⟩ (Iz 1));refine jN e2 ?_;have I:Hid (nR w v9 g P ma mc sa sc ⟨ck,ci,cn,cs,O,cq,cl,ct,cb⟩ ⟨1,(i:Int)+1,a2,1+a3,pr,1+a5,0,1,[]⟩):=ao (e2▸D.h.set 7 (Iz 1) rfl);clear D e2;have D:=I;clear I;have c7:Cz v9 (g+1) 7 (Iz ct):=D.h.cc.cell 7;have x7:Cz v9 (g+3) 7 (Iz 1):=D.h.xx.cell 7;have y7:=bN.frozen D.h.xx 7;obtain⟨bR,a8⟩:=W5.h;have d9:=ef.h.symm
  go_upto_if 61 with(fail)
  go_cut [] (fun wx=>Hid (nR w wx g P ma mc sa sc ⟨ck,ci,cn,cs,O,cq,cl,ct,cb⟩ ⟨1,(i:Int)+1,a2,1+a3,pr,1+a5,0,bU,[]⟩))
  case first=>
   by_cases h4:r5=2
   ·have e1:bU=2:=by rw[d3.h,if_pos h4]
    subst e1;have hf:(r5==2)=true:=by rw[h4];rfl
    go_wp2_with fail;go_meet;exact ao (D.h.set 7 _ rfl)
   ·have e1:bU=1:=by rw[d3.h,if_neg h4]
    have hf:(r5==2)=false:=beq_eq_false_iff_ne.2 h4;go_wp2_with fail;go_meet;rw[e1];exact D
  clear c7 x7 y7;clear D;have D:=hcut;clear hcut;obtain⟨v10,ay⟩:=Zn wc;rw[<-ay] at D⊢;clear ay;clear bR a8 d9;have c7:Cz v10 (g+1) 7 (Iz ct):=D.h.cc.cell 7;have x7:Cz v10 (g+3) 7 (Iz bU):=D.h.xx.cell 7;have y7:=bN.frozen D.h.xx 7;obtain⟨bR,a8⟩:=W5.h;have d9:=ef.h.symm
  go_upto_if 66 with(fail)
  go_cut [] (fun wx=>Hid (nR w wx g P ma mc sa sc ⟨ck,ci,cn,cs,O,cq,cl,ct,cb⟩ ⟨1,(i:Int)+1,a2,1+a3,pr,1+a5,0,tm,[]⟩))
  case first=>
   by_cases h4:r5=3
   ·have e1:tm=3:=by rw[ei.h,if_pos h4]
    subst e1;have hf:(r5==3)=true:=by rw[h4];rfl
    go_wp2_with fail;go_meet;exact ao (D.h.set 7 _ rfl)
   ·have e1:tm=bU:=by rw[ei.h,if_neg h4]
    have hf:(r5==3)=false:=beq_eq_false_iff_ne.2 h4;go_wp2_with fail;go_meet;rw[e1];exact D
  clear c7 x7 y7;clear D;have D:=hcut;clear hcut;obtain⟨v11,ay⟩:=Zn wc;rw[<-ay] at D⊢;clear ay;clear bR a8 d9;have c6:Cz v11 (g+1) 6 (Iz cl):=D.h.cc.cell 6;have x5:Cz v11 (g+3) 5 (Iz (1+a5)):=D.h.xx.cell 5;have x6:Cz v11 (g+3) 6 (Iz 0):=D.h.xx.cell 6;have y6:=bN.frozen D.h.xx 6;obtain⟨dc,bE⟩:=W6.h;have ez:=ew.h.symm
  go_upto_if 71 with(fail)
  go_cut [] (fun wx=>Hid (nR w wx g P ma mc sa sc ⟨ck,ci,cn,cs,O,cq,cl,ct,cb⟩ ⟨1,(i:Int)+1,a2,1+a3,pr,1+a5,ls,tm,[]⟩))
  case first=>
   by_cases h4:r4=1
   ·have e1:ls=a6:=by rw[ej.h,if_pos h4]
    subst e1;have hf:(r4==1)=true:=by rw[h4];rfl
    go_wp2_with fail;refine(dg cl 0 (1+a5) v11 ae ae ae).mono ?_;rw[<-A6.h];rintro e u⟨rfl,rfl⟩;go_wp2_with fail;go_meet;exact ao (D.h.set 6 _ rfl)
   ·have e1:ls=0:=by rw[ej.h,if_neg h4]
    have hf:(r4==1)=false:=beq_eq_false_iff_ne.2 h4;go_wp2_with fail;go_meet;rw[e1];exact D
  clear c6 x5 x6 y6;clear D;have D:=hcut;clear hcut;obtain⟨a7,ay⟩:=Zn wc;rw[<-ay] at D⊢;clear ay;clear dc bE ez;have x2:Cz a7 (g+3) 2 (Iz a2):=D.h.xx.cell 2;have k0:Cz a7 g 0 (.string (str P.code)):=D.h.pb.cell 0;have k1:Cz a7 g 1 (.slice ma P.E.length mc):=D.h.pb.cell 1;have k2:Cz a7 g 2 (Iz P.tick):=D.h.pb.cell 2;have k3:Cz a7 g 3 (Iz P.low):=D.h.pb.cell 3;have k4:Cz a7 g 4 (Iz P.high):=D.h.pb.cell 4;have k5:Cz a7 g 5 (Iz P.wide):=D.h.pb.cell 5;have k6:Cz a7 g 6 (Iz P.rule):=D.h.pb.cell 6;have k7:Cz a7 g 7 (Iz P.top):=D.h.pb.cell 7;have k8:Cz a7 g 8 (Iz P.least):=D.h.pb.cell 8;have k9:Cz a7 g 9 (Iz P.part):=D.h.pb.cell 9;have d8:Cz a7 g 10 (.slice sa P.settle.length sc):=D.h.pb.cell 10;obtain⟨x,ex⟩:∃x:Nat,a2=(x:Int):=⟨a2.toNat,ae⟩;have et:x<P.count:=cA EN.h;rw[ex] at x2;go_wp2_with fail;refine(Pc P ma mc sa sc x a7 (HP.h.below D.h.b) et).mono ?_;rw[show decide (P.n<=x)=sp from by rw[ey.h];congr 2;omega];rintro e v13⟨rfl,eu⟩;clear x2 k0 k1 k2 k3 k4 k5 k6 k7 k8 k9 d8;have I:=ao (D.h.below eu);clear D eu;have D:=I;clear I;have EX:=ao ex;clear ex et;rcases cG sp with bb|bb
  ·have ep:(if sp=true then pr - 4*tk else pr+8*tk)=pr - 4*tk:=by rw[bb];rfl
   rw[ep] at ba;have bc:=ao ba;clear ep ba;subst bb;have x4:Cz v13 (g+3) 4 (Iz pr):=D.h.xx.cell 4;have y4:=bN.frozen D.h.xx 4;have k2:Cz v13 g 2 (Iz tk):=dp.h▸D.h.pb.cell 2
   go_upto_region 23 with(fail)
   clear x4 y4 k2;obtain⟨ax,e2⟩:=Zn (v13.setCell ⟨g+3,4,none⟩ (Iz (pr - 4*tk)));refine jN e2 ?_;have I:Hid (nR w ax g P ma mc sa sc ⟨ck,ci,cn,cs,O,cq,cl,ct,cb⟩ ⟨1,(i:Int)+1,a2,1+a3,pr - 4*tk,1+a5,ls,tm,[]⟩):=ao (e2▸D.h.set 4 (Iz (pr - 4*tk)) rfl);clear D e2;have D:=I;clear I;obtain⟨q0,q1,q2,q3,q4,q5,q6,q7,q8⟩:=D.h.zz.reads;have f0:=bN.frozen D.h.zz 0;have f1:=bN.frozen D.h.zz 1;have f2:=bN.frozen D.h.zz 2;have f3:=bN.frozen D.h.zz 3;have f4:=bN.frozen D.h.zz 4;have f5:=bN.frozen D.h.zz 5;have f6:=bN.frozen D.h.zz 6;have f7:=bN.frozen D.h.zz 7;have f8:=bN.frozen D.h.zz 8;have x0:Cz ax (g+3) 0 (Iz 1):=D.h.xx.cell 0;have x1:Cz ax (g+3) 1 (Iz ((i:Int)+1)):=D.h.xx.cell 1;have x2:Cz ax (g+3) 2 (Iz a2):=D.h.xx.cell 2;have x3:Cz ax (g+3) 3 (Iz (1+a3)):=D.h.xx.cell 3;have x4:Cz ax (g+3) 4 (Iz (pr - 4*tk)):=D.h.xx.cell 4;have x5:Cz ax (g+3) 5 (Iz (1+a5)):=D.h.xx.cell 5;have x6:Cz ax (g+3) 6 (Iz ls):=D.h.xx.cell 6;have x7:Cz ax (g+3) 7 (Iz tm):=D.h.xx.cell 7;have x8:Cz ax (g+3) 8 (.string (str [])):=D.h.xx.cell 8;go_wp2_with fail;have hf:=iA D.h.zz ⟨1,(i:Int)+1,a2,1+a3,pr - 4*tk,1+a5,ls,tm,[]⟩;obtain⟨wz,bf⟩:=Zn (lA ax (g+2) ⟨1,(i:Int)+1,a2,1+a3,pr - 4*tk,1+a5,ls,tm,[]⟩);rw[<-bf] at hf
   (try simp only[Exit.inBlock,Exit.then])
   refine post_at bf ?_;obtain⟨r0,r1,r2,r3,cF,cH,r6,r7,r8⟩:=hf.1.cL;refine bodyPost_ret (v:=bN.val ⟨1,(i:Int)+1,a2,1+a3,pr - 4*tk,1+a5,ls,tm,[]⟩) (by simp[results,Tryz.results17,go_sem,r0,r1,r2,r3,cF,cH,r6,r7,r8];try rfl) rfl ?_;rw[ER.h];exact⟨by rw[bc.h],Leaves.jd D.h.b hf.2 (cA D.h.hg)⟩
  ·have ep:(if sp=true then pr - 4*tk else pr+8*tk)=pr+8*tk:=by rw[bb];rfl
   rw[ep] at ba;have bc:=ao ba;clear ep ba;subst bb;have x4:Cz v13 (g+3) 4 (Iz pr):=D.h.xx.cell 4;have y4:=bN.frozen D.h.xx 4;have k2:Cz v13 g 2 (Iz tk):=dp.h▸D.h.pb.cell 2
   go_upto_region 23 with(fail)
   clear x4 y4 k2;obtain⟨ax,e2⟩:=Zn (v13.setCell ⟨g+3,4,none⟩ (Iz (pr+8*tk)));refine jN e2 ?_;have I:Hid (nR w ax g P ma mc sa sc ⟨ck,ci,cn,cs,O,cq,cl,ct,cb⟩ ⟨1,(i:Int)+1,a2,1+a3,pr+8*tk,1+a5,ls,tm,[]⟩):=ao (e2▸D.h.set 4 (Iz (pr+8*tk)) rfl);clear D e2;have D:=I;clear I;obtain⟨q0,q1,q2,q3,q4,q5,q6,q7,q8⟩:=D.h.zz.reads;have f0:=bN.frozen D.h.zz 0;have f1:=bN.frozen D.h.zz 1;have f2:=bN.frozen D.h.zz 2;have f3:=bN.frozen D.h.zz 3;have f4:=bN.frozen D.h.zz 4;have f5:=bN.frozen D.h.zz 5;have f6:=bN.frozen D.h.zz 6;have f7:=bN.frozen D.h.zz 7;have f8:=bN.frozen D.h.zz 8;have x0:Cz ax (g+3) 0 (Iz 1):=D.h.xx.cell 0;have x1:Cz ax (g+3) 1 (Iz ((i:Int)+1)):=D.h.xx.cell 1;have x2:Cz ax (g+3) 2 (Iz a2):=D.h.xx.cell 2;have x3:Cz ax (g+3) 3 (Iz (1+a3)):=D.h.xx.cell 3;have x4:Cz ax (g+3) 4 (Iz (pr+8*tk)):=D.h.xx.cell 4;have x5:Cz ax (g+3) 5 (Iz (1+a5)):=D.h.xx.cell 5;have x6:Cz ax (g+3) 6 (Iz ls):=D.h.xx.cell 6;have x7:Cz ax (g+3) 7 (Iz tm):=D.h.xx.cell 7;have x8:Cz ax (g+3) 8 (.string (str [])):=D.h.xx.cell 8;go_wp2_with fail;have hf:=iA D.h.zz ⟨1,(i:Int)+1,a2,1+a3,pr+8*tk,1+a5,ls,tm,[]⟩;obtain⟨wz,bf⟩:=Zn (lA ax (g+2) ⟨1,(i:Int)+1,a2,1+a3,pr+8*tk,1+a5,ls,tm,[]⟩);rw[<-bf] at hf
   (try simp only[Exit.inBlock,Exit.then])
   refine post_at bf ?_;obtain⟨r0,r1,r2,r3,cF,cH,r6,r7,r8⟩:=hf.1.cL;refine bodyPost_ret (v:=bN.val ⟨1,(i:Int)+1,a2,1+a3,pr+8*tk,1+a5,ls,tm,[]⟩) (by simp[results,Tryz.results17,go_sem,r0,r1,r2,r3,cF,cH,r6,r7,r8];try rfl) rfl ?_;rw[ER.h];exact⟨by rw[bc.h],Leaves.jd D.h.b hf.2 (cA D.h.hg)⟩
 ·have bc:=ao (eo.h bV)
  have eE:(kd==1)=false:=beq_eq_false_iff_ne.2 bV;have eF:=ao bV;clear bV;have x0:Cz v7 (g+3) 0 (Iz kd):=D.h.xx.cell 0;have x4:Cz v7 (g+3) 4 (Iz pr):=D.h.xx.cell 4;have y4:=bN.frozen D.h.xx 4;have k2:Cz v7 g 2 (Iz tk):=dp.h▸D.h.pb.cell 2
  go_upto_if 105 with(fail)
  go_cut [] (fun wx=>Hid (nR w wx g P ma mc sa sc ⟨ck,ci,cn,cs,O,cq,cl,ct,cb⟩ ⟨kd,1+a1,a2,1+a3,p4,1+a5,0,0,[]⟩))
  case first=>
   by_cases h4:kd=4
   ·have e1:p4=pr+5*tk:=by rw[ek.h,if_pos h4]
    have hf:(kd==4)=true:=by rw[h4];rfl
    go_wp2_with fail;go_meet;rw[e1];exact ao (D.h.set 4 _ rfl)
   ·have e1:p4=pr:=by rw[ek.h,if_neg h4]
    have hf:(kd==4)=false:=beq_eq_false_iff_ne.2 h4;go_wp2_with fail;go_meet;rw[e1];exact D
  clear x0 x4 y4 k2;clear D;have D:=hcut;clear hcut;obtain⟨v8,ay⟩:=Zn wc;rw[<-ay] at D⊢;clear ay;have x3:Cz v8 (g+3) 3 (Iz (1+a3)):=D.h.xx.cell 3;have y3:=bN.frozen D.h.xx 3
  go_upto_region 27 with(fail)
  clear x3 y3;obtain⟨v9,e2⟩:=Zn (v8.setCell ⟨g+3,3,none⟩ (Iz 0));refine jN e2 ?_;have I:Hid (nR w v9 g P ma mc sa sc ⟨ck,ci,cn,cs,O,cq,cl,ct,cb⟩ ⟨kd,1+a1,a2,0,p4,1+a5,0,0,[]⟩):=ao (e2▸D.h.set 3 (Iz 0) rfl);clear D e2;have D:=I;clear I;have x2:Cz v9 (g+3) 2 (Iz a2):=D.h.xx.cell 2;have y2:=bN.frozen D.h.xx 2
  go_upto_region 28 with(fail)
  clear x2 y2;obtain⟨v10,e2⟩:=Zn (v9.setCell ⟨g+3,2,none⟩ (Iz 0));refine jN e2 ?_;have I:Hid (nR w v10 g P ma mc sa sc ⟨ck,ci,cn,cs,O,cq,cl,ct,cb⟩ ⟨kd,1+a1,0,0,p4,1+a5,0,0,[]⟩):=ao (e2▸D.h.set 2 (Iz 0) rfl);clear D e2;have D:=I;clear I;obtain⟨q0,q1,q2,q3,q4,q5,q6,q7,q8⟩:=D.h.zz.reads;have f0:=bN.frozen D.h.zz 0;have f1:=bN.frozen D.h.zz 1;have f2:=bN.frozen D.h.zz 2;have f3:=bN.frozen D.h.zz 3;have f4:=bN.frozen D.h.zz 4;have f5:=bN.frozen D.h.zz 5;have f6:=bN.frozen D.h.zz 6;have f7:=bN.frozen D.h.zz 7;have f8:=bN.frozen D.h.zz 8;have x0:Cz v10 (g+3) 0 (Iz kd):=D.h.xx.cell 0;have x1:Cz v10 (g+3) 1 (Iz (1+a1)):=D.h.xx.cell 1;have x2:Cz v10 (g+3) 2 (Iz 0):=D.h.xx.cell 2;have x3:Cz v10 (g+3) 3 (Iz 0):=D.h.xx.cell 3;have x4:Cz v10 (g+3) 4 (Iz p4):=D.h.xx.cell 4;have x5:Cz v10 (g+3) 5 (Iz (1+a5)):=D.h.xx.cell 5;have x6:Cz v10 (g+3) 6 (Iz 0):=D.h.xx.cell 6;have x7:Cz v10 (g+3) 7 (Iz 0):=D.h.xx.cell 7;have x8:Cz v10 (g+3) 8 (.string (str [])):=D.h.xx.cell 8;go_wp2_with fail;have hf:=iA D.h.zz ⟨kd,1+a1,0,0,p4,1+a5,0,0,[]⟩;obtain⟨wz,bf⟩:=Zn (lA v10 (g+2) ⟨kd,1+a1,0,0,p4,1+a5,0,0,[]⟩);rw[<-bf] at hf
  (try simp only[Exit.inBlock,Exit.then])
  refine post_at bf ?_;obtain⟨r0,r1,r2,r3,cF,cH,r6,r7,r8⟩:=hf.1.cL;refine bodyPost_ret (v:=bN.val ⟨kd,1+a1,0,0,p4,1+a5,0,0,[]⟩) (by simp[results,Tryz.results17,go_sem,r0,r1,r2,r3,cF,cH,r6,r7,r8];try rfl) rfl ?_;rw[ER.h];exact⟨by rw[bc.h],Leaves.jd D.h.b hf.2 (cA D.h.hg)⟩
end Go.Proofs.YtbaaheidifacaaaGreat
