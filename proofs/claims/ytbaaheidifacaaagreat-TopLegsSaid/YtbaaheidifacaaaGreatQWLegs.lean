import Derived.Test.YtbaaheidifacaaaGreatQArgsT
import Derived.Test.YtbaaheidifacaaaGreatQAwk1
import Derived.Test.YtbaaheidifacaaaGreatQLoopMC5
import Derived.Test.YtbaaheidifacaaaGreatQLeg16
set_option linter.defProp false
set_option linter.unusedVariables false
set_option linter.unusedSimpArgs false
set_option maxRecDepth 100000
set_option maxHeartbeats 12800000
namespace Go.Proofs.YtbaaheidifacaaaGreat
open Go.RowKit
theorem acO {B D:Nat} {w w':World} (e:B=D) (h:Below B w w'):Below D w w':=e▸h
theorem adX (p:kU) (A:Option Addr) (n c:Nat) (w:World) (h0:p.Ok w) (h1:Commands w A n c):
  Wz 3 #[p.val, .slice A n c] w fun e w'=>e= .returned (.bool true)/\Bz w w':=by
 obtain⟨hle,cd,l,rfl,hA,d6⟩:=h1;have hJ:l.length<=9223372036854775807:=by unfold maxLen at cd;omega
 have bH:=fun u=>Qh p u h0;obtain⟨P,eP⟩:∃P,P=p.prod:=⟨_,rfl⟩;rw[<-eP] at bH;obtain⟨bQ,EP,HA,hG,hH⟩:=rU bH eP hA d6 (And.intro hle cd);clear bH eP hA d6 hle cd h0;obtain⟨pc,eu,mn,ew,ez,eA,eC,eD,eE,eF,eG,eI,eJ,eK,eL⟩:=p;simp only[kU.val] at bQ⊢;obtain⟨w0,ct⟩:∃v,v=w.alloc (.cells #[.string pc, .slice eu mn ew,Iz ez,Iz eA,Iz eC,Iz eD,Iz eE,Iz eF,Iz eG,Iz eI, .slice eJ eK eL] 25):=⟨_,rfl⟩;obtain⟨gx,ef⟩:∃v,v=w.heap.size:=⟨_,rfl⟩;have D0:=Zq ct ef;have B0:=Zw ct;have k0:Cz w0 gx 0 (.string pc):=D0.cell 0;have k1:Cz w0 gx 1 (.slice eu mn ew):=D0.cell 1;have k2:Cz w0 gx 2 (Iz ez):=D0.cell 2;have k3:Cz w0 gx 3 (Iz eA):=D0.cell 3;have k4:Cz w0 gx 4 (Iz eC):=D0.cell 4;have k5:Cz w0 gx 5 (Iz eD):=D0.cell 5;have k6:Cz w0 gx 6 (Iz eE):=D0.cell 6;have k7:Cz w0 gx 7 (Iz eF):=D0.cell 7;have k8:Cz w0 gx 8 (Iz eG):=D0.cell 8;have k9:Cz w0 gx 9 (Iz eI):=D0.cell 9;have f4:Cz w0 gx 10 (.slice eJ eK eL):=D0.cell 10;have cv:=ao B0;clear D0 B0
 go_enter Tryz.func3,Tryz.ntmps3
 go_upto_region 1 with(fail)
 rw[<-ct,<-ef];clear ct ef;go_wp2_with fail;refine(bQ.h w0).mono ?_;clear k0 k1 k2 k3 k4 k5 k6 k7 k8 k9 f4;rintro e w1⟨ma,mc,sa,sc,rfl,bU,d7,b1⟩;have HR:=ao bU.right;simp only[PD.val]
 go_upto_region 2 with(fail)
 obtain⟨w2,cf⟩:∃v,v=w1.alloc (.cells (P.cells ma mc sa sc) 25):=⟨_,rfl⟩;obtain⟨gp,ck⟩:∃v,v=w1.heap.size:=⟨_,rfl⟩;have O:fM w2 gp P ma mc sa sc:=by rw[cf,ck];exact fM.new _ _ _ _ _ _
 have B2:=Zw cf;unfold PD.cells at cf;rw[<-cf,<-ck];obtain⟨cF,cH,eg⟩:=fY O (bU.below B2) (dW (dW cv.h b1) B2);have hL:Hid (∀q,qP ma q\/qP sa q->w.heap.size<=q/\q<gp):=ao fun q hq=>⟨jE (d7 q hq) cv.h.size,by rw[ck];exact bU.Xc q hq⟩;have hI:Hid (w.heap.size<=gp):=ao (by rw[ck];exact aF cv.h.size b1.size);clear O B2 cf ck bU d7 b1 cv bQ;have O:=cF.h;have z0:Cz w2 gp 0 (.string (str P.code)):=O.cell 0;have z1:Cz w2 gp 1 (.slice ma P.E.length mc):=O.cell 1;have z2:Cz w2 gp 2 (Iz P.tick):=O.cell 2;have z3:Cz w2 gp 3 (Iz P.low):=O.cell 3;have z4:Cz w2 gp 4 (Iz P.high):=O.cell 4;have z5:Cz w2 gp 5 (Iz P.wide):=O.cell 5;have z6:Cz w2 gp 6 (Iz P.rule):=O.cell 6;have z7:Cz w2 gp 7 (Iz P.top):=O.cell 7;have z8:Cz w2 gp 8 (Iz P.least):=O.cell 8;have z9:Cz w2 gp 9 (Iz P.part):=O.cell 9;have cl:Cz w2 gp 10 (.slice sa P.settle.length sc):=O.cell 10;go_wp2_with fail;refine(JK P ma mc sa sc w2 cH.h).mono ?_;clear z0 z1 z2 z3 z4 z5 z6 z7 z8 z9 cl;rintro e w3⟨g,C,f5,R,rfl,eM,b3,l1,l2,l3⟩;obtain⟨B,eB⟩:∃B,B=w2.heap.size:=⟨_,rfl⟩;replace b3:Below B w2 w3:=acO eB.symm b3;rw[<-eB] at l1 l2 l3;have eO:gp<B:=by rw[eB];exact O.lt
 obtain⟨f6,f7,bR,ax,f8⟩:=rU (cC.new eM l1 l2 l3) b3 eB eO (HA.h.below eg.h);clear eM b3 l1 l2 l3 eB eO O;go_wp2_with fail
 go_loopw [8] (fun i wr=> ∃(k:Nat) (m:Mk) (Gs:Nat->Prop),k<=l.length/\k<=50/\i= Iz k/\Hid (MkL B wr g P C Gs R m k)/\Hid (Below B w2 wr)) (fun i _=>50 - (intOf i).toNat)
 case atStart=>exact⟨0,Mk.new P,f5,aB _,aB _,rfl,f6,f7⟩
 case round=>
  obtain⟨k,m,Gs,hk,hM,rfl,HM,HB⟩:=hrel;obtain⟨wo,rfl⟩:∃wo,wo=wr:=⟨_,rfl⟩;have eQ:B<=wo.heap.size:=by rw[bR.h];exact HB.h.size
  have ei:=ao eQ;clear eQ
  by_cases ej:k<l.length/\k<50
  ·obtain⟨j1,j2⟩:=ej
   obtain⟨b,o,q,rfl,hb,hq,D⟩:=Mv f8.h j1;rw[<-bR.h] at hb;have mv:∀(a:Addr) (v:Value),a.block<B->w2.cell? a=some v->∀u,Below B wo.drew u->u.cell? a=some v:=fun a v ha hv u hu=>((hu.cell (p:=a) ha).trans (HB.h.cell (p:=a) ha)).trans hv;have O:=cF.h;have z0:=mv _ _ ax.h (O.cell 0);have z1:=mv _ _ ax.h (O.cell 1);have z2:=mv _ _ ax.h (O.cell 2);have z3:=mv _ _ ax.h (O.cell 3);have z4:=mv _ _ ax.h (O.cell 4);have z5:=mv _ _ ax.h (O.cell 5);have z6:=mv _ _ ax.h (O.cell 6);have z7:=mv _ _ ax.h (O.cell 7);have z8:=mv _ _ ax.h (O.cell 8);have z9:=mv _ _ ax.h (O.cell 9);have cl:=mv _ _ ax.h (O.cell 10);have ek:=U5 HR.h q k;obtain⟨y,ey⟩:∃y,y=rB P q k:=⟨_,rfl⟩;rw[<-ey] at ek;have eR:=ek.ab0;have bc:=U3 HM.h.ZC.st.fine y;obtain⟨q0,q1,q2,q3,q4,q5,q6,q7,q8⟩:=q;have y0:∀u,Below B wo.drew u->Cz u b (o+k*9) (Iz q0):=mv _ _ hb (D 0 _ ae rfl);have y1:∀u,Below B wo.drew u->Cz u b (o+k*9+1) (Iz q1):=mv ⟨b,o+k*9+1,none⟩ _ hb (D 1 _ ae rfl);have y2:∀u,Below B wo.drew u->Cz u b (o+k*9+2) (Iz q2):=mv ⟨b,o+k*9+2,none⟩ _ hb (D 2 _ ae rfl);have y3:∀u,Below B wo.drew u->Cz u b (o+k*9+3) (Iz q3):=mv ⟨b,o+k*9+3,none⟩ _ hb (D 3 _ ae rfl);have y4:∀u,Below B wo.drew u->Cz u b (o+k*9+4) (Iz q4):=mv ⟨b,o+k*9+4,none⟩ _ hb (D 4 _ ae rfl);have y5:∀u,Below B wo.drew u->Cz u b (o+k*9+5) (Iz q5):=mv ⟨b,o+k*9+5,none⟩ _ hb (D 5 _ ae rfl);have y6:∀u,Below B wo.drew u->Cz u b (o+k*9+6) (Iz q6):=mv ⟨b,o+k*9+6,none⟩ _ hb (D 6 _ ae rfl);have y7:∀u,Below B wo.drew u->Cz u b (o+k*9+7) (Iz q7):=mv ⟨b,o+k*9+7,none⟩ _ hb (D 7 _ ae rfl);have y8:∀u,Below B wo.drew u->Cz u b (o+k*9+8) (.string (str q8)):=mv ⟨b,o+k*9+8,none⟩ _ hb (D 8 _ ae rfl);have i3:(k:Int)<l.length:=ae;have i4:(k:Int)<50:=ae;obtain⟨d8,el,EY,J1,J2⟩:=rU bc eR ey j1 j2;clear hq D mv O ek eR bc ey j1 j2 hb
   go_upto_region 8 with(fail)
   refine Zb B 99999 [7,8] [0,1,2,3,4,5,6,7,8,9] ?_;refine Yt ?_;clear z0 z1 z2 z3 z4 z5 z6 z7 z8 z9 cl y0 y1 y2 y3 y4 y5 y6 y7 y8;refine Ym fun K hK=>?_;refine(Pj P ma mc sa sc ⟨q0,q1,q2,q3,q4,q5,q6,q7,q8⟩ k wo.drew ((cH.h.below (acO bR.h HB.h)).drew) ae).mono ?_;rintro e w4⟨rfl,b4⟩;rw[<-EY.h];obtain⟨res,d9⟩:∃x,x=pC P m y:=⟨_,rfl⟩;have cQ:=ad2 B g P m Gs R C y k w4 (HM.h.below (dW (below_drewN (aa _ wo) 1) b4)) (aF ei.h b4.size) ae el.h.1 el.h.2;have bc:=d8.h;unfold DoL at cQ;rw[<-d9] at cQ bc;obtain⟨eS,bf⟩:=dF cQ bc;clear cQ bc d8 d9 EY el;obtain⟨r0,r1,r2,r3,r4,r5,r6,r7,r8⟩:=y;simp only[bN.val,bN.cells];refine Yo hK (b4.mono ei.h) ?_;refine Ym fun K hK=>?_;refine eS.h.mono ?_;rintro e w5⟨A1,cp,Gs',rfl,hC,hN,eT,b5,f9⟩;refine Yo hK (b5) ?_;refine Yt ?_;refine aT ?_;have eo:Below B w2 w5:=(HB.h.drew.trans (b4.mono ei.h)).trans b5;obtain⟨N,eN⟩:∃x,x=res.2.length:=⟨_,rfl⟩;rw[<-eN] at hN⊢;obtain⟨HC,EN,eU,cm,eV⟩:=rU hC eN eT eo hN;have eY:Hid (B<=w5.heap.size):=ao (by rw[bR.h];exact eo.size);clear hC eN eT eo hN b5 f9 b4 eS i3 i4 HM HB;go_wp2_with fail
   go_loopw [10] (fun i wr=> ∃j:Nat,j<=N/\i= Iz j/\Hid (Bz w5 wr)) (fun i _=>N - (intOf i).toNat)
   case atStart=>exact⟨0,aB _,rfl,ao (aa _ _)⟩
   case round=>
    obtain⟨j,hj,rfl,bh⟩:=hrel;obtain⟨wp,rfl⟩:∃wo,wo=wr:=⟨_,rfl⟩
    by_cases cS:j<N
    ·obtain⟨b,o,r,rfl,hb,hr,D⟩:=Tg HC.h (m:=j) (by rw[<-EN.h];exact cS)
     have cT:=bf.h.all r (aH hr);have cn:=ad9 bf.h hr;obtain⟨x,hx,e3⟩:=cT.inst;have mv:∀(a:Addr) (v:Value),a.block<w5.heap.size->w5.cell? a=some v->∀u,Below w5.heap.size wp.drew u->u.cell? a=some v:=fun a v ha hv u hu=>((hu.cell (p:=a) ha).trans (bh.h.cell (p:=a) ha)).trans hv;have ay:gp<w5.heap.size:=aA ax.h eY.h;have D5:fM w5 gp P ma mc sa sc:=cF.h.block (cm.h.block gp ax.h);have z0:=mv _ _ ay (D5.cell 0);have z1:=mv _ _ ay (D5.cell 1);have z2:=mv _ _ ay (D5.cell 2);have z3:=mv _ _ ay (D5.cell 3);have z4:=mv _ _ ay (D5.cell 4);have z5:=mv _ _ ay (D5.cell 5);have z6:=mv _ _ ay (D5.cell 6);have z7:=mv _ _ ay (D5.cell 7);have z8:=mv _ _ ay (D5.cell 8);have z9:=mv _ _ ay (D5.cell 9);have cl:=mv _ _ ay (D5.cell 10);obtain⟨r0,r1,r2,r3,r4,r5,r6,r7⟩:=r;simp only at hx cn cT;subst hx;have y0:∀u,Below w5.heap.size wp.drew u->Cz u b (o+j*8) (Iz r0):=mv ⟨b,o+j*8,none⟩ _ hb (D 0 _ ae rfl);have y1:∀u,Below w5.heap.size wp.drew u->Cz u b (o+j*8+1) (Iz r1):=mv ⟨b,o+j*8+1,none⟩ _ hb (D 1 _ ae rfl);have y2:∀u,Below w5.heap.size wp.drew u->Cz u b (o+j*8+2) (Iz (x:Int)):=mv ⟨b,o+j*8+2,none⟩ _ hb (D 2 _ ae rfl);have y3:∀u,Below w5.heap.size wp.drew u->Cz u b (o+j*8+3) (Iz r3):=mv ⟨b,o+j*8+3,none⟩ _ hb (D 3 _ ae rfl);have y4:∀u,Below w5.heap.size wp.drew u->Cz u b (o+j*8+4) (Iz r4):=mv ⟨b,o+j*8+4,none⟩ _ hb (D 4 _ ae rfl);have y5:∀u,Below w5.heap.size wp.drew u->Cz u b (o+j*8+5) (Iz r5):=mv ⟨b,o+j*8+5,none⟩ _ hb (D 5 _ ae rfl);have y6:∀u,Below w5.heap.size wp.drew u->Cz u b (o+j*8+6) (Iz r6):=mv ⟨b,o+j*8+6,none⟩ _ hb (D 6 _ ae rfl);have y7:∀u,Below w5.heap.size wp.drew u->Cz u b (o+j*8+7) (Iz r7):=mv ⟨b,o+j*8+7,none⟩ _ hb (D 7 _ ae rfl);have hO:j<20000000:=cA eV.h;have i3:(j:Int)<N:=ae;obtain⟨ln,e4⟩:∃v,v=(cy P.n x).1:=⟨_,rfl⟩;obtain⟨lf,e5⟩:∃v,v=(cy P.n x).2:=⟨_,rfl⟩;obtain⟨ea,hP,bV,gi,cX,c0,bp,a8,eb⟩:=QG cn cT cS e3 e4 e5 hb D ay;clear cn cT hr mv D5 cS e3 e4 e5 hb D ay
     go_upto_region 12 with(fail)
     refine Zb w5.heap.size 99999 [6] [0,1,2,3,4,5,6,7,8,9,10,11,12,13] ?_;refine Yt ?_;clear z0 z1 z2 z3 z4 z5 z6 z7 z8 z9 cl y0 y1 y2 y3 y4 y5 y6 y7;refine Ym fun K hK=>?_;refine(rD P ma mc sa sc x wp.drew (((cH.h.below (acO bR.h cm.h)).below bh.h).drew) gi.h).mono ?_;rintro e w6⟨rfl,b6⟩;rw[<-cX.h,<-c0.h];refine Yo hK (b6.mono bh.h.size) ?_;refine Yt ?_;refine aT ?_;have b8:Hid (Bz w5 w6):=ao (bh.h.drew.trans (b6.mono bh.h.size));clear b6 bh;have x0:Cz w6 b (o+j*8) (Iz r0):=Yb b8.h bp.h (a8.h 0 _ ae rfl)
     by_cases hs:r0=3/\P.n<=x
     ·obtain⟨gj,e6⟩:=hs
      subst gj;have e1:decide (P.n<=x)=true:=decide_eq_true e6;rw[e1];obtain⟨a,bb,ha,dc,I⟩:=ea.h rfl ae;have dp:=yZ ha;have dS:=yZ dc;obtain⟨gq,ep⟩:=ad1 HC.h ha;obtain⟨e7,er⟩:=ad1 HC.h dc;have e9:=(bf.h.all _ (aH ha)).ag;have ed:=(bf.h.all _ (aH dc)).ag;obtain⟨a0,a1,a2,a3,a4,a5,a6,a7⟩:=a;obtain⟨b0,b1,b2,b3,b4,b5,b6,b7⟩:=bb;obtain rfl:a0=3:=I.ak;obtain rfl:b0=3:=I.bk;obtain rfl:a1=r1:=I.ZF;obtain rfl:b1=a1:=I.ZG;obtain rfl:a2=(ln:Int):=by rw[cX.h];exact I.ai
      obtain rfl:b2=(lf:Int):=by rw[c0.h];exact I.bi
      obtain rfl:a3=r3:=I.sa;obtain rfl:a5=r5:=I.aq;obtain rfl:b5=a5:=I.bq;obtain rfl:a6=r6:=I.al;obtain rfl:b6=a6:=I.bl;obtain rfl:r4=a4 - b4:=I.pr.symm;have fa:(b3==a3)=false:=beq_eq_false_iff_ne.2 I.sb;have bU: -2000000<=a4/\a4<=2000000:=e9;have gv: -2000000<=b4/\b4<=2000000:=ed;have gy:=P.count;have ff:P.oY (ln:Int) a4=0:=by rw[Jm P (x:=ln) (aA (by rw[cX.h];exact I.an) (ad0 P)),cX.h];exact I.wa
      have fi:P.oY (lf:Int) b4=0:=by rw[Jm P (x:=lf) (aA (by rw[c0.h];exact I.bn) (ad0 P)),c0.h];exact I.wb
      have fk:IntKind.i64.wrap (a4 - b4)=a4 - b4:=aN _ ae;have gA:=eV.h;rw[<-EN.h] at dp dS;obtain⟨j1,dT⟩:∃v,v=j+1:=⟨_,rfl⟩;obtain⟨j2,d2⟩:∃v,v=j+2:=⟨_,rfl⟩;rw[<-dT] at dp ep;rw[<-d2] at dS er;have d3:IntKind.i64.wrap ((j:Int)+1)=(j1:Int):=by rw[dT];exact aN _ ae
      have et:IntKind.i64.wrap ((j:Int)+2)=(j2:Int):=by rw[d2];exact aN _ ae
      have i5:¬((N:Int)<=(j2:Int)):=ae;have i6:(j1:Int)<N:=ae;have i7:(j2:Int)<N:=ae;obtain⟨hQ,hT,hU,OK,bt,bE,gG,gI,gO,gP,J1,J2⟩:=QN d3 dT d2 I ep er fa ff fi fk dp dS;clear I ep er fa ff fi fk dp dS ha dc e9 ed bU gv gy gq e7 gA e6 e1 dT d2
      go_upto_region 16 with(fail)
      clear x0;obtain⟨Z,eZ⟩:∃v,v=w6.heap.size:=⟨_,rfl⟩;have EZ:=ao eZ;clear eZ;have mv:∀(a:Addr) (v:Value),a.block=b->w5.cell? a=some v->w6.cell? a=some v:=fun a v ha hv=>(b8.h.cell (p:=a) (by rw[ha];exact bp.h)).trans hv;have J:=ao mv;clear mv
      go_cut [14,15] (fun v v' wx=> ∃ga gb,v= Pz ga/\v'= Pz gb/\Hid (aE wx ga 40 #[Iz 3,Iz b1,Iz (ln:Int),Iz a3,Iz a4,Iz b5,Iz b6,Iz a7]/\aE wx gb 40 #[Iz 3,Iz b1,Iz (lf:Int),Iz b3,Iz b4,Iz b5,Iz b6,Iz b7]/\Z<=ga/\Z<=gb/\Below Z w6 wx))
      case first=>
       show adZ.wp Tryz.prog _ _ _;refine aei EZ (aA bp.h b8.h.size) (J.h ⟨b,o+j1*8,none⟩ _ rfl (bt.h 0 _ ae rfl)) (J.h ⟨b,o+j1*8+1,none⟩ _ rfl (bt.h 1 _ ae rfl)) (J.h ⟨b,o+j1*8+2,none⟩ _ rfl (bt.h 2 _ ae rfl)) (J.h ⟨b,o+j1*8+3,none⟩ _ rfl (bt.h 3 _ ae rfl)) (J.h ⟨b,o+j1*8+4,none⟩ _ rfl (bt.h 4 _ ae rfl)) (J.h ⟨b,o+j1*8+5,none⟩ _ rfl (bt.h 5 _ ae rfl)) (J.h ⟨b,o+j1*8+6,none⟩ _ rfl (bt.h 6 _ ae rfl)) (J.h ⟨b,o+j1*8+7,none⟩ _ rfl (bt.h 7 _ ae rfl)) (J.h ⟨b,o+j2*8,none⟩ _ rfl (bE.h 0 _ ae rfl)) (J.h ⟨b,o+j2*8+1,none⟩ _ rfl (bE.h 1 _ ae rfl)) (J.h ⟨b,o+j2*8+2,none⟩ _ rfl (bE.h 2 _ ae rfl)) (J.h ⟨b,o+j2*8+3,none⟩ _ rfl (bE.h 3 _ ae rfl)) (J.h ⟨b,o+j2*8+4,none⟩ _ rfl (bE.h 4 _ ae rfl)) (J.h ⟨b,o+j2*8+5,none⟩ _ rfl (bE.h 5 _ ae rfl)) (J.h ⟨b,o+j2*8+6,none⟩ _ rfl (bE.h 6 _ ae rfl)) (J.h ⟨b,o+j2*8+7,none⟩ _ rfl (bE.h 7 _ ae rfl)) i6 i7 d3 et ?_ (fun d4=>?_);exact fun _ _ _ _ _ h=>h;clear d3 et;go_wp2_with fail;go_meet;exact⟨_,_,rfl,rfl,d4⟩
      obtain⟨ga,gb,rfl,rfl,HX⟩:=hcut;obtain⟨DA,DB,gR,gT,bz⟩:=HX.h;obtain⟨W,eW⟩:∃v,v=wc.heap.size:=⟨_,rfl⟩;have fq:Bz w6 wc:=acO EZ.h bz;have ba:Bz w5 wc:=dW b8.h fq;have fx:gp<W:=by rw[eW];exact aA eb.h ba.size
      have fz:b<W:=by rw[eW];exact aA bp.h ba.size
      have fH:ga<W:=by rw[eW];exact DA.lt
      have fT:gb<W:=by rw[eW];exact DB.lt
      have D5:fM wc gp P ma mc sa sc:=cF.h.block ((ba.block gp eb.h).trans (cm.h.block gp ax.h));have g3:=ao ((cH.h.below (acO bR.h cm.h)).below ba);have f0:b<wc.heap.size:=by rw[<-eW];exact fz
      have y1:Cz wc b (o+j*8+1) (Iz b1):=Yb ba bp.h (a8.h 1 _ ae rfl);have y3:Cz wc b (o+j*8+3) (Iz a3):=Yb ba bp.h (a8.h 3 _ ae rfl);have y4:Cz wc b (o+j*8+4) (Iz (a4 - b4)):=Yb ba bp.h (a8.h 4 _ ae rfl);have y5:Cz wc b (o+j*8+5) (Iz b5):=Yb ba bp.h (a8.h 5 _ ae rfl);have y6:Cz wc b (o+j*8+6) (Iz b6):=Yb ba bp.h (a8.h 6 _ ae rfl);obtain⟨g4,g6,g7,g8,g9,hh,ho,ht,hy,hz⟩:=QM DA DB D5 f0 y1 y3 y4 y5 y6 ba;clear DA DB HX gR gT bz fq ba fx fz fH fT D5 eW f0 y1 y3 y4 y5 y6
      go_upto_region 17 with(fail)
      go_cut [218] (fun v wx=>v= .bool false/\Hid (Bz wc wx))
      case first=>
       show adT.wp Tryz.prog _ _ _;refine aeh g3 gI gO g7 g4 g6 g8.h g9.h hh.h ho.h ht.h hy.h gG.h gP.h i3 ?_ (fun d4=>?_);exact fun _ _ _ _ _ h=>h;have d5:=ao d4;clear d4;go_wp2_with fail;go_meet;exact⟨rfl,d5⟩
      obtain⟨rfl,d5⟩:=hcut;have hB:=ao (dW hz.h d5.h);clear d5 d3 et;go_wp2_with fail;go_roundw
      case rel=>exact⟨j+1,bV.h,by go_num,hB⟩
      case measure=>have:=bV.h;simp[intOf];omega
     ·
      clear ea
      by_cases f1:r0=3
      ·have e0:decide (P.n<=x)=false:=decide_eq_false ae
       subst f1;rw[e0];clear hs;go_wp2_with fail;go_roundw
       case rel=>exact⟨j+1,bV.h,by go_num,b8⟩
       case measure=>have:=bV.h;simp[intOf];omega
      ·have e0:(r0==3)=false:=beq_eq_false_iff_ne.2 f1
       clear hs;go_wp2_with fail;go_roundw
       case rel=>exact⟨j+1,bV.h,by go_num,b8⟩
       case measure=>have:=bV.h;simp[intOf];omega
    ·obtain rfl:j=N:=ae
     have i3:¬(j:Int)<j:=ae;obtain⟨hD,hE⟩:=dF (cm.h.trans (bh.h.mono eY.h)) (eU.h.below bh.h);clear cS bh eU;go_wp2_with fail;go_roundw
     case rel=>exact⟨k+1,res.1,Gs',J1.h,J2.h,by go_num,hE,hD⟩
     case measure=>have:=J2.h;simp[intOf];omega
  ·have f2:Bz w wo:=eg.h.trans (HB.h.mono (by rw[bR.h];exact eg.h.size))
   have f3:=ao f2;clear f2 HM HB
   by_cases hl:k=l.length
   ·have i3:¬(k:Int)<l.length:=ae
    clear ej hl;go_wp2_with fail;refine(Qw wo).mono ?_;rintro e w9⟨rfl,b9⟩;go_wp2_with fail;go_ret;exact⟨rfl,dW f3.h b9⟩
   ·have i3:(k:Int)<l.length:=ae
    have i4:¬(k:Int)<50:=ae;clear ej hl;go_wp2_with fail;refine(Qw wo).mono ?_;rintro e w9⟨rfl,b9⟩;go_wp2_with fail;go_ret;exact⟨rfl,dW f3.h b9⟩
end Go.Proofs.YtbaaheidifacaaaGreat
