import Derived.Test.YtbaaheidifacaaaGreatQ40
import Derived.Test.YtbaaheidifacaaaGreatQ41
set_option linter.defProp false
set_option linter.unusedVariables false
set_option linter.unusedSimpArgs false
set_option maxRecDepth 100000
set_option maxHeartbeats 12800000
namespace Go.Proofs.YtbaaheidifacaaaGreat
variable {A:Option Addr} {L:List ir} {P:PD} {f:ir→ir} {k:Nat} {l:List bN} {r:ir}
open Go.RowKit
theorem rL.Y0 {B:Nat} {w:World} {g:Nat} {C:zt} {Gs R:Nat->Prop} {c:Nat} (h:rL B w g P C Gs R l A c) (D:∀(i:Nat) (y:bN),l[i]?=some y->i<=1000/\wZ P i y):Tl P l:=
 ⟨fun n=>(h.fine n).f,fun n=>(h.fine n).su,D⟩
theorem Qx (D:P.gZ) (l:List bN) (n:Nat) (hn:n<=1000):∀(i:Nat) (y:bN),(js P l n)[i]?=some y->i<=1000/\wZ P i y:=fun i y h=>by
 obtain⟨J,I⟩:=Tk D h;exact⟨ae,I⟩
theorem wZ.run {i:Nat} {c:bN} (h:wZ P i c):c.aw<=12000/\c.ky.length<=9223372036854775807:=⟨cA h.aw,by rw[h.ky];simp⟩
theorem N3 (h:∀(i:Nat) (y:bN),l[i]?=some y->i<=1000/\wZ P i y):∀q∈l,q.aw<=12000/\q.ky.length<=9223372036854775807:=fun q hq=>by
 obtain⟨i,hi,rfl⟩:=kv.1 hq;exact(h i _ (aj hi)).2.run
def qU (f:ir→ir) (k:Nat) (L:List ir):List ir:=(L.take k).map f++L.drop k
theorem Qy (f:ir->ir) (L:List ir):qU f 0 L=L:=by simp[qU]
theorem TB (f:ir->ir) (L:List ir):qU f L.length L=L.map f:=by simp[qU]
theorem TC (f:ir->ir) (k:Nat) (L:List ir):(qU f k L).length=L.length:=by
 unfold qU;rw[aC,br,bJ,cu];omega
theorem Vf (h:L[k]?=some r):(qU f k L)[k]?=some r:=by
 have D:=(az.1 h).1;unfold qU;rw[bK iW];simp only[br,bJ];rw[jH,(ae:k+(k - min k L.length)=k)];exact h
theorem TD (h:L[k]?=some r):(qU f k L).set k (f r)=qU f (k+1) L:=by
 have D:=(az.1 h).1;unfold qU;have e1:(List.map f (L.take k)).length=k:=iW;rw[yX _ _ ae,e1,Vn,bC,h,iB D];rw[show L[k]=r from bW ((aj D).symm.trans h)];simp
theorem Du (p:kU) (A:Option Addr) (n c:Nat) (w:World) (h0:p.Ok w) (h1:Commands w A n c):
  Wz 5 #[p.val, .slice A n c] w fun e w'=>e= .returned (.bool true)/\Bz w w':=by
 obtain⟨hle,b4,l,rfl,hA,d8⟩:=h1;have h9:l.length<=9223372036854775807:=by unfold maxLen at b4;omega
 have bc:=fun u=>Qh p u h0;obtain⟨P,eP⟩:=Zn p.prod;rw[<-eP] at bc;obtain⟨bf,EP,HA,h6,h7⟩:=rU bc eP hA d8 (And.intro hle b4);clear bc eP hA d8 hle b4 h0;obtain⟨pc,e3,mn,e4,e5,e6,e7,e8,e9,fa,ff,fi,fk,fq,fx⟩:=p;simp only[kU.val] at bf⊢;obtain⟨w0,c0⟩:=Zn (w.alloc (.cells #[.string pc, .slice e3 mn e4,Iz e5,Iz e6,Iz e7,Iz e8,Iz e9,Iz fa,Iz ff,Iz fi, .slice fk fq fx] 25));obtain⟨gx,eu⟩:=Zn w.heap.size;have D0:=Zq c0 eu;have B0:=Zw c0;have k0:Cz w0 gx 0 (.string pc):=D0.cell 0;have k1:Cz w0 gx 1 (.slice e3 mn e4):=D0.cell 1;have k2:Cz w0 gx 2 (Iz e5):=D0.cell 2;have k3:Cz w0 gx 3 (Iz e6):=D0.cell 3;have k4:Cz w0 gx 4 (Iz e7):=D0.cell 4;have k5:Cz w0 gx 5 (Iz e8):=D0.cell 5;have k6:Cz w0 gx 6 (Iz e9):=D0.cell 6;have k7:Cz w0 gx 7 (Iz fa):=D0.cell 7;have k8:Cz w0 gx 8 (Iz ff):=D0.cell 8;have k9:Cz w0 gx 9 (Iz fi):=D0.cell 9;have hh:Cz w0 gx 10 (.slice fk fq fx):=D0.cell 10;have ew:=ao B0;clear D0 B0
 go_enter Tryz.func5,Tryz.ntmps5
 go_upto_region 1 with(fail)
 rw[<-c0,<-eu];clear c0 eu;go_wp2_with fail;refine(bf.h w0).mono ?_;clear k0 k1 k2 k3 k4 k5 k6 k7 k8 k9 hh;rintro e w1⟨ma,mc,sa,sc,rfl,dc,d9,b1⟩;have HR:=ao dc.right;simp only[PD.val]
 go_upto_region 2 with(fail)
 obtain⟨w2,b5⟩:=Zn (w1.alloc (.cells (P.cells ma mc sa sc) 25));obtain⟨O,dp⟩:=Zn w1.heap.size;have D2:fM w2 O P ma mc sa sc:=by rw[b5,dp];exact fM.new _ _ _ _ _ _
 have B2:=Zw b5;unfold PD.cells at b5;rw[<-b5,<-dp];obtain⟨dS,ey,ez⟩:=fY D2 (dc.below B2) (dW (dW ew.h b1) B2);have b6:Hid (∀q,qP ma q\/qP sa q->w.heap.size<=q/\q<O):=ao fun q hq=>⟨by have:=d9 q hq;have:=ew.h.size;omega,by rw[dp];exact dc.Xc q hq⟩;clear D2 B2 b5 dp dc d9 b1 ew bf;have D2:=dS.h;have z0:Cz w2 O 0 (.string (str P.code)):=D2.cell 0;have z1:Cz w2 O 1 (.slice ma P.E.length mc):=D2.cell 1;have z2:Cz w2 O 2 (Iz P.tick):=D2.cell 2;have z3:Cz w2 O 3 (Iz P.low):=D2.cell 3;have z4:Cz w2 O 4 (Iz P.high):=D2.cell 4;have z5:Cz w2 O 5 (Iz P.wide):=D2.cell 5;have z6:Cz w2 O 6 (Iz P.rule):=D2.cell 6;have z7:Cz w2 O 7 (Iz P.top):=D2.cell 7;have z8:Cz w2 O 8 (Iz P.least):=D2.cell 8;have z9:Cz w2 O 9 (Iz P.part):=D2.cell 9;have b8:Cz w2 O 10 (.slice sa P.settle.length sc):=D2.cell 10
 go_upto_region 3 with(fail)
 obtain⟨w3,bQ⟩:=Zn (w2.alloc (.cells (P.cells ma mc sa sc) 25));obtain⟨D,bR⟩:=Zn w2.heap.size;have cf:O<D:=by rw[bR];exact D2.lt
 have D3:fM w3 D P ma mc sa sc:=by rw[bQ,bR];exact fM.new _ _ _ _ _ _
 have B3:=Zw bQ;have fz:w3.heap.size=D+1:=by rw[bQ,bR];simp
 unfold PD.cells at bQ;rw[<-bQ,<-bR];clear z0 z1 z2 z3 z4 z5 z6 z7 z8 z9 b8;have fH:=ao bR;clear bQ bR;have fT:=HR.h.I7;have hl:=HR.h.zl;have ho:=HR.h.lh;obtain⟨a3,a7⟩:=Zn P.low;obtain⟨a4,a8⟩:=Zn P.high;rw[<-a7,<-a8] at ho;rw[<-a7] at fT;rw[<-a8] at hl;have f0:=ao (And.intro a7 a8);have l3:∀u,Below D w3.drew u->Cz u O 3 (Iz a3):=fun u hu=>Yb hu cf (Yb B3 D2.lt (by rw[a7];exact D2.cell 3));have l4:∀u,Below D w3.drew u->Cz u O 4 (Iz a4):=fun u hu=>Yb hu cf (Yb B3 D2.lt (by rw[a8];exact D2.cell 4));have y3:Cz w3 D 3 (Iz P.low):=D3.cell 3;have y4:Cz w3 D 4 (Iz P.high):=D3.cell 4;have f3:Fz w3 D 3:=D3.frozen 3;have f4:Fz w3 D 4:=D3.frozen 4;have n3:IntKind.i64.wrap (-a3)= -a3:=aN _ (by omega);have n4:IntKind.i64.wrap (-a4)= -a4:=aN _ (by omega);clear a7 a8;refine Zb D 9 [7,9] [0,1,2,3,4,5,6,7,8,9] ?_;refine Yt ?_;refine Ym fun K hK=>?_;refine Yo hK ((aa _ _).setCell (by exact af _) _) ?_;refine Yt ?_;refine Zl fun K hK=>?_;go_simp;refine Yl hK ?_;refine aT ?_;clear l3 l4 y3 y4 f3 f4 n3 n4;obtain⟨w4,ck⟩:=Zn (((w3.setCell ⟨D,3,none⟩ (Iz (-a4))).setCell ⟨D,4,none⟩ (Iz (-a3))).drew);rw[<-ck];have D4:aE w4 D 25 #[.string (str P.code), .slice ma P.E.length mc,Iz P.tick,Iz (-a4),Iz (-a3),Iz P.wide,Iz P.rule,Iz P.top,Iz P.least,Iz P.part, .slice sa P.settle.length sc]:=by rw[ck];exact aE.drew (aE.set (aE.set D3 3 (Iz (-a4))) 4 (Iz (-a3)))
 have B4:Below D w3 w4:=by rw[ck];exact(((aa _ _).setCell (by exact af _) _).setCell (by exact af _) _).drew
 have f1:w4.heap.size=D+1:=by rw[ck];simpa using fz
 have eA:Cz w4 D 10 (.slice sa P.settle.length sc):=D4.cell 10;have eB:=aE.frozen D4 10;clear ck
 go_upto_region 5 with(fail)
 obtain⟨w5,cm⟩:=Zn (w4.setCell ⟨D,10,none⟩ (.slice none 0 0));refine jN cm ?_;have D5:aE w5 D 25 #[.string (str P.code), .slice ma P.E.length mc,Iz P.tick,Iz (-a4),Iz (-a3),Iz P.wide,Iz P.rule,Iz P.top,Iz P.least,Iz P.part, .slice none 0 0]:=by rw[cm];exact aE.set D4 10 (.slice none 0 0)
 have B5:Below D w2 w5:=by rw[cm];exact((B3.mono (by rw[fH.h];exact af _)).trans B4).setCell (by exact af _) _
 have f2:w5.heap.size=D+1:=by rw[cm];simpa using f1
 obtain⟨hz,bh,hB,ax⟩:=mh D5 B5 f2 cf;clear eA eB cm D4 B4 f1 D3 B3 fz D2 D5 B5 f2;obtain⟨NS,eC⟩:=Zn P.settle.length;have ia:NS<=6:=by rw[eC,HR.h.vI];exact HR.h.n6
 have cn:=ao eC;clear eC;go_wp2_with fail
 go_loopw [7] (fun i wr=> ∃(k:Nat) (As:Option Addr) (cs:Nat),k<=NS/\i= Iz k/\Hid (aE wr D 25 #[.string (str P.code), .slice ma P.E.length mc,Iz P.tick,Iz (-a4),Iz (-a3),Iz P.wide,Iz P.rule,Iz P.top,Iz P.least,Iz P.part, .slice As k cs])/\Hid (wr.ownsRow (D+1) 2 1 (.slice As k cs) k (bZ ((P.settle.take k).map fun x=> -x)))/\Hid (Below D w5 wr)/\Hid (D+1<=wr.heap.size)) (fun i _=>NS - (intOf i).toNat)
 case atStart=>exact⟨0,none,0,aB _,rfl,hz,ao (aM _ _ _ _),ao (aa _ _),ao (bu hB.h.symm)⟩
 case round=>
  obtain⟨k,As,cs,hk,rfl,HD,HO,HB,ct⟩:=hrel;obtain⟨J,rfl⟩:=Zn wr;have Dp:=dS.h;have eD:∀i v,Cz w2 O i v->Cz J O i v:=fun i v hv=>Yb HB.h ax.h (Yb bh.h ax.h hv);have eE:Cz J O 10 (.slice sa NS sc):=eD 10 _ (by rw[cn.h];exact Dp.cell 10)
  by_cases ay:k<NS
  ·have bU:iZ J P ma sa:=ey.h.same (fun j hj _=>(HB.h.block j (by have:=(b6.h j hj).2;have:=ax.h;omega)).trans (bh.h.block j (by have:=(b6.h j hj).2;have:=ax.h;omega))) (aF bh.h.size HB.h.size)
   obtain⟨b,o,y,rfl,ib,hc,hy⟩:=bU.s.jK (k:=k) (by rw[<-cn.h];exact ay);have hC:=HR.h.KY y (aH hy.h);have f5:=HR.h.I7;have eF:=HR.h.zl;have ih: -1000000<=y/\y<=1000000:=by omega
   have hD:b<D+1:=by have:=(b6.h b (.inr ⟨o,rfl⟩)).2;have:=ax.h;omega
   have eG:O<D+1:=by have:=ax.h;omega
   have l1:∀u,Below (D+1) J.drew u->Cz u D 10 (.slice As k cs):=fun u hu=>Yb hu (cP _) (HD.h.cell 10);have l2:∀u,Below (D+1) J.drew u->Cz u O 10 (.slice (some ⟨b,o,none⟩) NS sc):=fun u hu=>Yb hu eG eE;have l3:∀u,Below (D+1) J.drew u->Cz u b (o+k) (Iz y):=fun u hu=>Yb hu hD hc;have n1:IntKind.i64.wrap (-y)= -y:=aN _ (by omega);have i1:(k:Int)<NS:=by omega
   have a0:bZ ((P.settle.take (k+1)).map fun x=> -x)=bZ ((P.settle.take k).map fun x=> -x)++[Iz (-y)]:=by
    rw[bC,hy.h];simp[bZ]
   obtain⟨ba,eI⟩:=dF ay a0;clear hC f5 eF hc bU Dp eD ay a0
   go_upto_region 8 with(fail)
   clear eE;refine Zb (D+1) 11 [8,9,11] [0,1,2,3,4,5,6,7,8,9,10,11] ?_;refine Yt ?_;clear l1 l2 l3 n1;refine Ym fun K hK=>?_;refine Yo hK (rM ct.h _) ?_;refine Zm fun K hK=>?_;refine fZ sL (F5 (HO.h.alloc _)) (news:=[Iz (-y)]) (m:=1) _ _ rfl rfl rfl rfl (by intro e;cases e) (Cells.lit J #[Iz (-y)] 2).drew (by intro u hu;simp at hu;subst hu;rfl) (by omega) (by simp;have:=ct.h;omega) (k+1) (bZ ((P.settle.take (k+1)).map fun x=> -x)) rfl eI.h ?_;intro A4 c4 w6 p4;have B6:Below (D+1) J w6:=p4.below (D+1) J (af _) (((aa _ _).alloc ct.h _).drew);have D6:=HD.h.block (B6.block D (cP _));have eA:Cz w6 D 10 (.slice As k cs):=D6.cell 10;have eB:Fz w6 D 10:=D6.frozen 10;refine Yo hK (p4.below _ _ (af _) (aa _ _)) ?_;refine Yt ?_;refine Zl fun K hK=>?_;go_simp;refine Yl hK ?_;refine aT ?_;have D7:Hid (aE (w6.setCell ⟨D,10,none⟩ (.slice A4 (k+1) c4)) D 25 #[.string (str P.code), .slice ma P.E.length mc,Iz P.tick,Iz (-a4),Iz (-a3),Iz P.wide,Iz P.rule,Iz P.top,Iz P.least,Iz P.part, .slice A4 (k+1) c4]):=ao (aE.set D6 10 _);have O7:Hid ((w6.setCell ⟨D,10,none⟩ (.slice A4 (k+1) c4)).ownsRow (D+1) 2 1 (.slice A4 (k+1) c4) (k+1) (bZ ((P.settle.take (k+1)).map fun x=> -x))):=ao (ownsRow_setCell_below (a:=⟨D,10,none⟩) p4.own (cP _) _);have B7:Hid (Below D w5 (w6.setCell ⟨D,10,none⟩ (.slice A4 (k+1) c4))):=ao ((HB.h.trans (B6.mono (qX _))).setCell (by exact af _) _);have S7:Hid (D+1<=(w6.setCell ⟨D,10,none⟩ (.slice A4 (k+1) c4)).heap.size):=ao (by simp;exact aF ct.h B6.size);obtain⟨w7,f6⟩:=Zn (w6.setCell ⟨D,10,none⟩ (.slice A4 (k+1) c4));rw[<-f6] at D7 O7 B7 S7⊢;clear f6 eA eB D6 B6 p4;go_wp2_with fail;go_roundw
   case rel=>exact⟨k+1,A4,c4,ba.h,by go_num,D7,O7,B7,S7⟩
   case measure=>have:=ba.h;simp[intOf];omega
  ·obtain rfl:k=NS:=by omega
   have i1:¬(k:Int)<k:=by omega
   have cv:P.settle.take k=P.settle:=aL (by rw[cn.h];exact af _);have bU:iZ J P ma sa:=ey.h.same (fun j hj _=>(HB.h.block j (by have:=(b6.h j hj).2;have:=ax.h;omega)).trans (bh.h.block j (by have:=(b6.h j hj).2;have:=ax.h;omega))) (aF bh.h.size HB.h.size);have own:=HO.h;rw[cv] at own;have a5:(DU P).settle.length=k:=by show(P.settle.map _).length=k;rw[br,<-cn.h]
   have eJ:iZ J (DU P) ma As:=⟨bU.m,Cells.cC own,MB HR.h⟩;have eK:fM J D (DU P) ma mc As cs:=by
    have h:=HD.h;rw[f0.h.1,f0.h.2] at h;unfold fM PD.cells;rw[a5];exact h
   have a2:fM J O P ma mc sa sc:=dS.h.block ((HB.h.block O ax.h).trans (bh.h.block O ax.h));obtain⟨Q,eQ⟩:=Zn (DU P);rw[<-eQ] at a5 eJ eK;have EQ:=ao eQ;clear eQ;have f7:Bz w J:=by
    have h1:w.heap.size<=D:=by rw[fH.h];exact ez.h.size
    exact(ez.h.trans (bh.h.mono h1)).trans (HB.h.mono h1)
   obtain⟨eL,cF,cH,il,bV,iF⟩:=FW bU eJ eK a2 f7 a5;clear own cv bU eJ eK f7 a5 HO HD HB ct eD Dp dS ey ez ay;have z0:Cz J O 0 (.string (str P.code)):=a2.cell 0;have z1:Cz J O 1 (.slice ma P.E.length mc):=a2.cell 1;have z2:Cz J O 2 (Iz P.tick):=a2.cell 2;have z3:Cz J O 3 (Iz P.low):=a2.cell 3;have z4:Cz J O 4 (Iz P.high):=a2.cell 4;have z5:Cz J O 5 (Iz P.wide):=a2.cell 5;have z6:Cz J O 6 (Iz P.rule):=a2.cell 6;have z7:Cz J O 7 (Iz P.top):=a2.cell 7;have z8:Cz J O 8 (Iz P.least):=a2.cell 8;have z9:Cz J O 9 (Iz P.part):=a2.cell 9;go_wp2_with fail;rw[cn.h];refine(Te P ma mc sa sc A l.length c l 50 J eL.h rfl (HA.h.below bV.h) (by omega)).mono ?_;clear z0 z1 z2 z3 z4 z5 z6 z7 z8 z9 eE i1;rintro e v7⟨Ac,cc,rfl,bp,b7⟩;obtain⟨cl,dT⟩:=Zn (js P l 50);rw[<-dT] at bp⊢;have eN:cl.length<=50:=by rw[dT];exact MA P l 50
   have f8:∀(i:Nat) (y:bN),cl[i]?=some y->i<=1000/\wZ P i y:=by rw[dT];exact Qx HR.h l 50 (by omega)
   obtain⟨M,eM⟩:=Zn cl.length;rw[<-eM] at bp eN⊢;obtain⟨eO,d2,EM,hE,f9,gi,ea,eb,ed⟩:=QG (dP.cC bp) f8 eM b7 (eL.h.below b7) (cF.h.below b7) (a2.below b7) (cH.h.below b7) (dW bV.h b7);clear bp f8 eM b7 a2 eL cF cH bV dT;go_wp2_with fail
   go_loopw [9,10] (fun v i wr=> ∃(k:Nat) (Ad:Option Addr) (cd:Nat),k<=M/\v= .slice Ad k cd/\i= Iz k/\Hid (wr.ownsRow v7.heap.size 35 9 (.slice Ad k cd) k (lF ((cl.take k).map De)))/\Hid (Bz v7 wr)) (fun _ i _=>M - (intOf i).toNat)
   case atStart=>exact⟨0,none,0,aB _,rfl,rfl,ao (aM _ _ _ _),ao (aa _ _)⟩
   case round=>
    obtain⟨k,Ad,cd,hk,rfl,rfl,HO,HB⟩:=hrel;obtain⟨J,rfl⟩:=Zn wr
    by_cases ay:k<M
    ·obtain⟨b,o,q,rfl,hb,hq,I⟩:=Mv (eO.h.below HB.h) (m:=k) (by rw[<-EM.h];exact ay)
     have gj:=(d2.h k q hq).2.ag;have a0:lF ((cl.take (k+1)).map De)=lF ((cl.take k).map De)++(De q).row:=by
      rw[bC,hq];simp[lF]
     obtain⟨q0,q1,q2,q3,q4,q5,q6,q7,q8⟩:=q;obtain⟨so,b0⟩:=Zn (if q3=1\/q3=2 then 3 - q3 else q3);have ef:(De ⟨q0,q1,q2,q3,q4,q5,q6,q7,q8⟩).row=[Iz q0,Iz q1,Iz q2,Iz so,Iz (-q4),Iz q5,Iz q6,Iz q7, .string (str q8)]:=by rw[b0];rfl
     rw[ef] at a0;have h8: -17000<=q4/\q4<=17000:=gj;have y0:Cz J b (o+k*9) (Iz q0):=I 0 _ (by omega) rfl;have y1:Cz J b (o+k*9+1) (Iz q1):=I 1 _ (by omega) rfl;have y2:Cz J b (o+k*9+2) (Iz q2):=I 2 _ (by omega) rfl;have y3:Cz J b (o+k*9+3) (Iz q3):=I 3 _ (by omega) rfl;have y4:Cz J b (o+k*9+4) (Iz q4):=I 4 _ (by omega) rfl;have y5:Cz J b (o+k*9+5) (Iz q5):=I 5 _ (by omega) rfl;have y6:Cz J b (o+k*9+6) (Iz q6):=I 6 _ (by omega) rfl;have y7:Cz J b (o+k*9+7) (Iz q7):=I 7 _ (by omega) rfl;have y8:Cz J b (o+k*9+8) (.string (str q8)):=I 8 _ (by omega) rfl;have i1:(k:Int)<M:=by omega
     obtain⟨eI,ba,d3⟩:=fY a0 ay b0;clear hq I gj a0 ef ay b0
     go_upto_region 15 with(fail)
     clear y0 y1 y2 y3 y4 y5 y6 y7 y8;obtain⟨va,a6⟩:=Zn (J.alloc (.cells (bN.cells ⟨q0,q1,q2,q3,q4,q5,q6,q7,q8⟩) 35));obtain⟨gy,d4⟩:=Zn J.heap.size;have Ca:kM va gy ⟨q0,q1,q2,q3,q4,q5,q6,q7,q8⟩:=by rw[a6,d4];exact kM.new J _
     have Ba:=Zw a6;refine jN a6 ?_;rw[<-d4];have gm:=ao d4;clear d4;have x4:Cz va gy 4 (Iz q4):=Ca.cell 4;have y4:=bN.frozen Ca 4;clear a6
     go_upto_region 16 with(fail)
     clear x4 y4;obtain⟨vb,d5⟩:=Zn (va.setCell ⟨gy,4,none⟩ (Iz (-q4)));have Cb:kM vb gy ⟨q0,q1,q2,q3, -q4,q5,q6,q7,q8⟩:=by rw[d5];exact Ca.WA 4 _ rfl
     have Bb:Bz J vb:=by rw[d5];exact Ba.setCell (bu gm.h.symm) _
     refine jN d5 ?_;have x3:Cz vb gy 3 (Iz q3):=Cb.cell 3;have y3:=bN.frozen Cb 3;clear d5 Ca Ba;go_wp2_with fail;refine(FT q3 vb).mono ?_;rw[<-d3.h];rintro e u⟨rfl,rfl⟩
     go_upto_region 17 with(fail)
     clear x3 y3;obtain⟨vc,d6⟩:=Zn (vb.setCell ⟨gy,3,none⟩ (Iz so));have Cc:kM vc gy ⟨q0,q1,q2,so, -q4,q5,q6,q7,q8⟩:=by rw[d6];exact Cb.WA 3 _ rfl
     have Bc:Bz J vc:=by rw[d6];exact Bb.setCell (bu gm.h.symm) _
     refine jN d6 ?_;obtain⟨x0,x1,x2,x3,x4,x5,x6,x7,x8⟩:=Cc.reads;have eR:=dW HB.h Bc;have eg:vc.ownsRow v7.heap.size 35 9 (.slice Ad k cd) k (lF ((cl.take k).map De)):=bP HO.h Bc;clear d6 Cb Bb Cc Bc
     go_wp2_with (at_builtin
                  refine dO VZ eg #[Iz q0,Iz q1,Iz q2,Iz so,Iz (-q4),Iz q5,Iz q6,Iz q7, .string (str q8)] rfl _ _ rfl rfl rfl rfl (by intro u hu;exact NT ⟨q0,q1,q2,so, -q4,q5,q6,q7,q8⟩ u hu) (by omega) eR.size ?_;intro A3 c3 w3 ei g3 b3 l3;have B3:=b3 _ _ (af _) eR)
     have hG:Hid (w3.ownsRow v7.heap.size 35 9 (.slice A3 (k+1) c3) (k+1) (lF ((cl.take (k+1)).map De))):=ao (by rw[eI.h];exact ei);have hH:=ao B3;clear eg ei g3 b3 l3 B3 x0 x1 x2 x3 x4 x5 x6 x7 x8 eR
     (try go_wp2_with fail)
     go_roundw
     case rel=>exact⟨k+1,A3,c3,ba.h,rfl,by go_num,hG,hH⟩
     case measure=>have:=ba.h;simp[intOf];omega
    ·obtain rfl:k=M:=by omega
     have i1:¬(k:Int)<k:=by omega
     have cv:cl.take k=cl:=aL (by rw[<-EM.h];exact af _);have own:=HO.h;rw[cv] at own;obtain⟨dl,cQ⟩:=Zn (cl.map De);rw[<-cQ] at own;have gv:dl.length=k:=by rw[cQ,br,<-EM.h]
     have gA:∀q∈dl,q.aw<=12000/\q.ky.length<=9223372036854775807:=fun q hq=>by
      rw[cQ] at hq;obtain⟨y,hy,rfl⟩:=aV.1 hq;exact N3 d2.h y hy
     obtain⟨gG,gI,hI,hJ⟩:=mh (dP.cC own) gv gA cQ;have Dp:=ea.h.below HB.h;have Dq:=eb.h.below HB.h;obtain⟨cH,hL,cF,hM,bV⟩:=rU Dq (f9.h.below HB.h) (gi.h.below HB.h) (eO.h.below HB.h) (dW ed.h HB.h);clear own cv gv gA cQ HO HB ay ea eb f9 gi eO ed hE;have z0:Cz J O 0 (.string (str P.code)):=Dp.cell 0;have z1:Cz J O 1 (.slice ma P.E.length mc):=Dp.cell 1;have z2:Cz J O 2 (Iz P.tick):=Dp.cell 2;have z3:Cz J O 3 (Iz P.low):=Dp.cell 3;have z4:Cz J O 4 (Iz P.high):=Dp.cell 4;have z5:Cz J O 5 (Iz P.wide):=Dp.cell 5;have z6:Cz J O 6 (Iz P.rule):=Dp.cell 6;have z7:Cz J O 7 (Iz P.top):=Dp.cell 7;have z8:Cz J O 8 (Iz P.least):=Dp.cell 8;have z9:Cz J O 9 (Iz P.part):=Dp.cell 9;have b8:Cz J O 10 (.slice sa P.settle.length sc):=Dp.cell 10;clear Dp Dq;go_wp2_with fail;refine(J1 P ma mc sa sc Ac k cc cl J hL.h EM.h.symm hM.h (by rw[<-EM.h];omega) (N3 d2.h)).mono ?_;clear z0 z1 z2 z3 z4 z5 z6 z7 z8 z9 b8 i1;rintro e v9⟨g,Aa,ca,C,Gs,R,rfl,cS,b9⟩;have gO:=cS.Y0 d2.h;have bt:=cS.pos;have hlen:=cS.len;have eS:=dP.cC cS.own;obtain⟨La,eT⟩:=Zn ((runM P (Mk.new P) cl).2);rw[<-eT] at eS bt hlen⊢;obtain⟨Na,eU⟩:=Zn La.length;rw[<-eU] at bt hlen⊢;rw[<-EM.h] at bt hlen;obtain⟨hN,hO,hP,gP⟩:=mh gO eS eT eU;have Dq:=cH.h.below b9;obtain⟨ej,ek,el⟩:=fY (cF.h.below b9) (gG.h.below b9) (dW bV.h b9);clear gO eS eT eU cS b9 cF gG bV cH;have z0:Cz v9 D 0 (.string (str Q.code)):=Dq.cell 0;have z1:Cz v9 D 1 (.slice ma Q.E.length mc):=Dq.cell 1;have z2:Cz v9 D 2 (Iz Q.tick):=Dq.cell 2;have z3:Cz v9 D 3 (Iz Q.low):=Dq.cell 3;have z4:Cz v9 D 4 (Iz Q.high):=Dq.cell 4;have z5:Cz v9 D 5 (Iz Q.wide):=Dq.cell 5;have z6:Cz v9 D 6 (Iz Q.rule):=Dq.cell 6;have z7:Cz v9 D 7 (Iz Q.top):=Dq.cell 7;have z8:Cz v9 D 8 (Iz Q.least):=Dq.cell 8;have z9:Cz v9 D 9 (Iz Q.part):=Dq.cell 9;have b8:Cz v9 D 10 (.slice As Q.settle.length cs):=Dq.cell 10;clear Dq;go_wp2_with fail;refine(J1 Q ma mc As cs Ad k cd dl v9 ej.h gI.h ek.h (by rw[gI.h];omega) hI.h).mono ?_;clear z0 z1 z2 z3 z4 z5 z6 z7 z8 z9 b8;rintro e v10⟨g2,Ab,cb,C2,i3,R2,rfl,b2,d7⟩;have gR:∀n,pn Q (runM Q (Mk.new Q) (dl.take n)).1.S:=fun n=>(b2.fine n).f;have bE:=b2.own;have bb:=U8 HR.h hN.h;rw[<-hJ.h,<-hP.h,<-EQ.h] at bb;have eV:∀r∈(runM Q (Mk.new Q) dl).2,zL Q r:=fun r hr=>To gR hr;obtain⟨Lb,gT⟩:=Zn ((runM Q (Mk.new Q) dl).2);rw[<-gT] at bE bb eV⊢;have eW:Lb.length=Na:=by rw[gP.h,<-bb,br]
     rw[eW] at bE⊢;obtain⟨hQ,g4,hT,g6,hU,eY,i4⟩:=yY bE bb eV eW d7 (dW el.h d7) d7.size;clear gR bE bb eV eW b2 gT d7 ej ek;go_wp2_with fail
     go_loopw [16] (fun i wr=> ∃k:Nat,k<=Na/\i= Iz k/\Hid (wr.ownsRow v9.heap.size 40 8 (.slice Ab Na cb) Na (fC (qU tj k Lb)))/\Hid (Below v9.heap.size v10 wr)) (fun i _=>Na - (intOf i).toNat)
     case atStart=>exact⟨0,aB _,rfl,ao (by rw[Qy];exact hQ.h),ao (aa _ _)⟩
     case round=>
      obtain⟨j,hj,rfl,HO,HB⟩:=hrel;obtain⟨wp,rfl⟩:=Zn wr
      by_cases ay:j<Na
      ·obtain⟨gb,rfl,_,_⟩:=kz HO.h (by omega)
       have eZ:j<Lb.length:=by rw[g6.h];exact ay
       obtain⟨r,hr⟩:∃r,Lb[j]?=some r:=⟨_,aj eZ⟩;have b2:=(hT.h r (aH hr)).ag;have hmx:=Vf (f:=tj) hr;have own:=HO.h;have cT:fC ((qU tj j Lb).set j {r with ag:= -r.ag})=(fC (qU tj j Lb)).set (j*8+4) (Iz (-r.ag)):=(tI ir.bG (by omega) hmx rfl).symm;have eo:((qU tj j Lb).set j {r with ag:= -r.ag})[j]?=some {r with ag:= -r.ag}:=aD (by rw[TC];exact eZ);have cX:fC (qU tj (j+1) Lb)=((fC (qU tj j Lb)).set (j*8+4) (Iz (-r.ag))).set (j*8+3) (Iz (oP r.side)):=by
        rw[<-cT,<-TD (f:=tj) hr];have:=tI ir.bG (v:= Iz (oP r.side)) (y:=tj r) (j:=3) (by omega) eo rfl;unfold fC;rw[this,List.set_set]
       have I:∀t v,t<8->r.cells[t]?=some v->(fC (qU tj j Lb))[j*8+t]?=some v:=fun t v ht hv=>(ig ir.bG t ht hmx).trans hv;obtain⟨r0,r1,r2,r3,r4,r5,r6,r7⟩:=r;obtain⟨so,b0⟩:=Zn (if r3=1\/r3=2 then 3 - r3 else r3);have fT: -2000000<=r4/\r4<=2000000:=b2;have h4:=I 4 _ (by omega) rfl;have h3:=I 3 _ (by omega) rfl;have y4:Cz wp gb (j*8+4) (Iz r4):=dI own h4;have f4:=fJ own (j*8+4);have i2:(j:Int)<Na:=by omega
       obtain⟨hV,ba,d3,H4,H3⟩:=rU cX ay b0 h4 h3;clear hr b2 hmx cT eo cX I ay eZ b0 h4 h3 own
       go_upto_region 24 with(fail)
       clear y4 f4;obtain⟨va,a6⟩:=Zn (wp.setCell ⟨gb,j*8+4,none⟩ (Iz (-r4)));have bH:va.ownsRow v9.heap.size 40 8 (.slice (some ⟨gb,0,none⟩) Na cb) Na ((fC (qU tj j Lb)).set (j*8+4) (Iz (-r4))):=by rw[a6];exact jM HO.h H4.h _
       have Ba:Below v9.heap.size v10 va:=by rw[a6];exact HB.h.setCell ((ju HO.h).1) _
       refine jN a6 ?_;have e0:((fC (qU tj j Lb)).set (j*8+4) (Iz (-r4)))[j*8+3]?=some (Iz r3):=by rw[aZ (by omega)];exact H3.h
       have y3:Cz va gb (j*8+3) (Iz r3):=dI bH e0;have f3:=fJ bH (j*8+3);obtain⟨ep,BA,hW⟩:=fY bH Ba e0;clear a6 bH Ba e0;go_wp2_with fail;refine(FT r3 va).mono ?_;rw[<-d3.h];rintro e u⟨rfl,rfl⟩;go_wp2_with fail;go_roundw
       case rel=>
        refine⟨j+1,ba.h,by go_num,ao ?_,ao ?_⟩
        ·rw[hV.h,show oP r3=so from d3.h.symm]
         exact jM ep.h hW.h (Iz so)
        ·exact BA.h.setCell ((ju ep.h).1) _
       case measure=>have:=ba.h;simp[intOf];omega
      ·obtain rfl:j=Na:=by omega
       have i2:¬(j:Int)<j:=by omega
       have er:qU tj j Lb=La:=by
        rw[<-g4.h,<-g6.h];exact TB tj Lb
       have own:=HO.h;rw[er] at own;have g7:=dP.cC own;have et:Cells wp Aa (fC La):=hO.h.below (hU.h.trans HB.h);have i5:k<=j:=bt;have hX:j<=100000000000:=by omega
       obtain⟨hY,g8,g9⟩:=fY g7 et (eY.h.trans (HB.h.mono el.h.size));clear er own g7 et ay;go_wp2_with fail;refine(Th Aa ca Ab cb j La wp gP.h.symm hX g8.h hY.h).mono ?_;rintro e v11⟨rfl,h2⟩;go_wp2_with fail;refine(Qw v11).mono ?_;rintro e i6⟨rfl,h5⟩;go_wp2_with fail;go_ret;exact⟨rfl,dW (dW g9.h h2) h5⟩
end Go.Proofs.YtbaaheidifacaaaGreat
