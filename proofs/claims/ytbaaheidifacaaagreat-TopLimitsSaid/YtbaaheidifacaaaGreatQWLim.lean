import Derived.Test.YtbaaheidifacaaaGreatQArgsT
import Derived.Test.YtbaaheidifacaaaGreatQAwk1
import Derived.Test.YtbaaheidifacaaaGreatQLoopMC4
set_option linter.defProp false
set_option linter.unusedVariables false
set_option linter.unusedSimpArgs false
set_option maxRecDepth 100000
set_option maxHeartbeats 12800000
namespace Go.Proofs.YtbaaheidifacaaaGreat
variable {A:Ac} {L l:List ir} {T:TypeId} {f:Int→Int} {g j y:Nat} {r:ir} {w w':World}
open Go.RowKit
theorem acO {B D:Nat} (e:B=D) (h:Below B w w'):Below D w w':=e▸h
def ZT (f:Int→Int):Array Value:=((List.range 80).map fun(j:Nat)=>Value.int .i64 (f j)).toArray
theorem acB:Tryz.zeroCells44=ZT fun _=>0:=by kernel_rfl
theorem ab3:Tryz.zeroCells45=ZT fun _=>0:=by kernel_rfl
theorem ZN (h:aE w g T (ZT f)) (D:y<80):w.cell? ⟨g,y,none⟩=some (Iz (f y)):=by
 rw[h.cell y];unfold ZT;rw[List.getElem?_toArray,bo,rS D];rfl
theorem aa3 (h:aE w g T (ZT f)) (v:Int):aE (w.setCell ⟨g,y,none⟩ (Iz v)) g T (ZT fun z=>if z=(y:Int) then v else f z):=by
 have I:=h.set y (Iz v);have e:(ZT f).setIfInBounds y (Iz v)=ZT fun z=>if z=(y:Int) then v else f z:=by
  unfold ZT;rw[List.setIfInBounds_toArray]
  congr 1
  apply fA;intro i;rw[List.getElem?_set,bo,bo]
  by_cases hi:y=i
  ·subst hi
   by_cases D:y<80
   ·simp[D]
   ·simp[D]
  ·rw[if_neg hi]
   by_cases D:i<80
   ·have:¬(i:Int)=(y:Int):=ae
    simp[D,this]
   ·simp[D]
 rw[e] at I;exact I
theorem ab4:∀{l:List ir} {A:Ac} {j:Nat} {r:ir},chk A l->l[j]?=some r->okL ((A.go (l.take j)).upd r) r
 |[],A,j,r,_,h=>by simp at h
 |y::l,A,0,r,h,hr=>by
  obtain rfl:=bW hr;exact h.1
 |y::l,A,j+1,r,h,hr=>ab4 (l:=l) h.2 hr
theorem go_succ (h:l[j]?=some r):A.go (l.take (j+1))=(A.go (l.take j)).upd r:=by
 rw[bC,h];simp only[tB];rw[aaZ];rfl
structure aa4 (w:World) (ga gb gc:Nat) (A:Ac):Prop where
 a:aE w ga 44 (ZT A.ag)
 b:aE w gb 45 (ZT A.inst)
 c:aE w gc 45 (ZT A.side)
theorem aa4.block {ga D gc:Nat} (h:aa4 w ga D gc A) (I:w'.heap[ga]?=w.heap[ga]?) (J:w'.heap[D]?=w.heap[D]?) (O:w'.heap[gc]?=w.heap[gc]?):aa4 w' ga D gc A:=⟨h.a.block I,h.b.block J,h.c.block O⟩
structure aco (F:Nat→Prop) (B:Nat) (w2 w:World) (g ga gb gc:Nat) (P:PD) (C:zt) (Gs R:Nat→Prop) (m:Mk) (k:Nat) (A:Ac):Prop where
 mf:cC F w g P C Gs R m k
 bl:Below B w2 w
 ar:aa4 w ga gb gc A
 inv:Z1 A m.S
 us:∀y,m.used y=true→1≤y∧y≤61
theorem acp {B b N cp:Nat} (own:w.ownsRow B 40 8 (.slice (some ⟨b,0,none⟩) N cp) N (fC L)) (hr:L[j]?=some r) {t:Nat} {v:Value} (D:t<8) (hv:r.cells[t]?=some v):w.cell? ⟨b,j*8+t,none⟩=some v:=dI own ((ig ir.bG t D hr).trans hv)
theorem aaz (p:kU) (A:Option Addr) (n c:Nat) (w:World) (h0:p.Ok w) (h1:Commands w A n c):
  Wz 4 #[p.val, .slice A n c] w fun e w'=>e= .returned (.bool true)/\Bz w w':=by
 obtain⟨hle,bE,l,rfl,hA,d2⟩:=h1;have hB:l.length<=9223372036854775807:=by unfold maxLen at bE;omega
 have a4:=fun u=>Qh p u h0;obtain⟨P,eP⟩:∃P,P=p.prod:=⟨_,rfl⟩;rw[<-eP] at a4;obtain⟨a5,EP,HA,hh,ho⟩:=rU a4 eP hA d2 (And.intro hle bE);clear a4 eP hA d2 hle bE h0;obtain⟨pc,et,mn,eu,ew,ez,eA,eC,eD,eE,eG,eI,eJ,eK,eL⟩:=p;simp only[kU.val] at a5⊢;obtain⟨w0,cm⟩:∃v,v=w.alloc (.cells #[.string pc, .slice et mn eu,Iz ew,Iz ez,Iz eA,Iz eC,Iz eD,Iz eE,Iz eG,Iz eI, .slice eJ eK eL] 25):=⟨_,rfl⟩;obtain⟨gx,d9⟩:∃v,v=w.heap.size:=⟨_,rfl⟩;have D0:=Zq cm d9;have B0:=Zw cm;have k0:Cz w0 gx 0 (.string pc):=D0.cell 0;have k1:Cz w0 gx 1 (.slice et mn eu):=D0.cell 1;have k2:Cz w0 gx 2 (Iz ew):=D0.cell 2;have k3:Cz w0 gx 3 (Iz ez):=D0.cell 3;have k4:Cz w0 gx 4 (Iz eA):=D0.cell 4;have k5:Cz w0 gx 5 (Iz eC):=D0.cell 5;have k6:Cz w0 gx 6 (Iz eD):=D0.cell 6;have k7:Cz w0 gx 7 (Iz eE):=D0.cell 7;have k8:Cz w0 gx 8 (Iz eG):=D0.cell 8;have k9:Cz w0 gx 9 (Iz eI):=D0.cell 9;have f8:Cz w0 gx 10 (.slice eJ eK eL):=D0.cell 10;have ea:=ao B0;clear D0 B0
 go_enter Tryz.func4,Tryz.ntmps4
 go_upto_region 1 with(fail)
 rw[<-cm,<-d9];clear cm d9;go_wp2_with fail;refine(a5.h w0).mono ?_;clear k0 k1 k2 k3 k4 k5 k6 k7 k8 k9 f8;rintro e w1⟨ma,mc,sa,sc,rfl,cn,d3,b1⟩;have HR:=ao cn.right;simp only[PD.val]
 go_upto_region 2 with(fail)
 obtain⟨w2,bH⟩:∃v,v=w1.alloc (.cells (P.cells ma mc sa sc) 25):=⟨_,rfl⟩;obtain⟨gp,ct⟩:∃v,v=w1.heap.size:=⟨_,rfl⟩;have I:fM w2 gp P ma mc sa sc:=bH▸ct▸fM.new _ _ _ _ _ _;have B2:=Zw bH;unfold PD.cells at bH;rw[<-bH,<-ct];obtain⟨eM,eO,eb⟩:=fY I (cn.below B2) (dW (dW ea.h b1) B2);have hC:Hid (∀q,qP ma q\/qP sa q->w.heap.size<=q/\q<gp):=ao fun q hq=>⟨jE (d3 q hq) ea.h.size,ct▸cn.Xc q hq⟩;clear I B2 bH ct cn d3 b1 ea a5;have I:=eM.h;have z0:Cz w2 gp 0 (.string (str P.code)):=I.cell 0;have z1:Cz w2 gp 1 (.slice ma P.E.length mc):=I.cell 1;have z2:Cz w2 gp 2 (Iz P.tick):=I.cell 2;have z3:Cz w2 gp 3 (Iz P.low):=I.cell 3;have z4:Cz w2 gp 4 (Iz P.high):=I.cell 4;have z5:Cz w2 gp 5 (Iz P.wide):=I.cell 5;have z6:Cz w2 gp 6 (Iz P.rule):=I.cell 6;have z7:Cz w2 gp 7 (Iz P.top):=I.cell 7;have z8:Cz w2 gp 8 (Iz P.least):=I.cell 8;have z9:Cz w2 gp 9 (Iz P.part):=I.cell 9;have ed:Cz w2 gp 10 (.slice sa P.settle.length sc):=I.cell 10;go_wp2_with fail;refine(JK P ma mc sa sc w2 eO.h).mono ?_;clear z0 z1 z2 z3 z4 z5 z6 z7 z8 z9 ed;rintro e w3⟨g,C,eQ,R,rfl,eR,b3,l1,l2,l3⟩;obtain⟨B,eB⟩:∃B,B=w2.heap.size:=⟨_,rfl⟩;replace b3:Below B w2 w3:=acO eB.symm b3;rw[<-eB] at l1 l2 l3;have eS:gp<B:=eB▸I.lt;obtain⟨eT,ef,a6,ax,f9⟩:=rU (cC.new eR l1 l2 l3) b3 eB eS (HA.h.below eb.h);clear eR b3 l1 l2 l3 eB eS I
 go_upto_region 6 with(fail)
 obtain⟨ga,a0⟩:∃v,v=w3.heap.size:=⟨_,rfl⟩;obtain⟨w4,bQ⟩:∃v,v=w3.alloc (.cells Tryz.zeroCells44 44):=⟨_,rfl⟩;have A4:aE w4 ga 44 (ZT fun _=>0):=bQ▸a0▸acB▸aE.new _ _ _;have B4:=Zw bQ;have s4:w4.heap.size=ga+1:=by rw[bQ,a0];simp
 rw[<-bQ,<-a0];clear bQ
 go_upto_region 7 with(fail)
 rw[<-a0];obtain⟨gc,bR⟩:∃v,v=ga+1+1:=⟨_,rfl⟩;obtain⟨gb,cv⟩:∃v,v=ga+1:=⟨_,rfl⟩;rw[<-bR,<-cv];obtain⟨w5,bh⟩:∃v,v=(w4.alloc (.cells Tryz.zeroCells45 45)).alloc (.cells Tryz.zeroCells45 45):=⟨_,rfl⟩;rw[<-bh];have B5:Bz w4 w5:=bh▸au (au (aa _ _) _) _;have s5:w5.heap.size=gc+1:=by rw[bh,bR];simp[s4]
 have A5:aa4 w5 ga gb gc ⟨fun _=>0,fun _=>0,fun _=>0⟩:=by
  refine⟨A4.block (B5.block ga A4.lt),?_,?_⟩
  ·rw[bh,<-ab3,cv,<-s4]
   exact(aE.new w4 _ _:aE (w4.alloc (.cells Tryz.zeroCells45 45)) w4.heap.size 45 _).below (au (aa _ _) _)
  ·rw[bh,<-ab3,bR,show ga+1+1=(w4.alloc (.cells Tryz.zeroCells45 45)).heap.size by simp[s4]]
   exact aE.new _ _ _
 have eg:B<=ga:=by rw[a0];have:=ef.h.size;rw[a6.h];exact this
 obtain⟨F,eF⟩:∃F:Nat->Prop,F=fun j=>j<B\/j=ga\/j=gb\/j=gc:=⟨_,rfl⟩;have hF:∀j,F j->j<B\/j=ga\/j=gb\/j=gc:=fun j h=>by rw[eF] at h;exact h
 have eU:∀j,j<B->F j:=fun j h=>eF▸.inl h;have eV:F ga/\F gb/\F gc:=eF▸⟨.inr (.inl rfl), .inr (.inr (.inl rfl)), .inr (.inr (.inr rfl))⟩;have eW:aco F B w2 w5 g ga gb gc P C eQ R (Mk.new P) 0 ⟨fun _=>0,fun _=>0,fun _=>0⟩:=by
  refine⟨((eT.h.more (F':=F) fun j hj=>?_).below B4).below B5,(ef.h.trans (B4.mono ?_)).trans (B5.mono ?_),A5,Z1.new P _,fun y hy=>by cases hy⟩
  ·rcases hF j hj with h|h|h|h
   ·exact .inl h
   ·rw[h,a0];exact .inr (af _)
   ·rw[h,cv,a0];exact .inr ae
   ·rw[h,bR,a0];exact .inr ae
  ·rw[<-a0];exact eg
  ·rw[s4];omega
 have bc:ga<gb/\gb<gc:=ae;have eY:gc<w5.heap.size:=ae;obtain⟨gi,gj,eZ,bp,gq,a3,gv⟩:=yY eW hF eU eV eg bc eY;clear eF hF eU eV eW eg A5 s5 B5 bh bR cv a0 s4 B4 A4 bc eY eT ef;go_wp2_with fail
 go_loopw [11] (fun i wr=> ∃(k:Nat) (m:Mk) (Gs:Nat->Prop) (Acc:Ac),k<=l.length/\k<=60/\i= Iz k/\Hid (aco F B w2 wr g ga gb gc P C Gs R m k Acc)/\Hid (gc<wr.heap.size)) (fun i _=>60 - (intOf i).toNat)
 case atStart=>exact⟨0,Mk.new P,eQ,_,aB _,aB _,rfl,gi,gv⟩
 case round=>
  obtain⟨k,m,Gs,Acc,hk,hD,rfl,HI,gy⟩:=hrel;obtain⟨wo,rfl⟩:∃wo,wo=wr:=⟨_,rfl⟩;have HB:=ao HI.h.bl;have ei:Hid (B<=wo.heap.size):=ao (a6.h▸HB.h.size)
  by_cases ej:k<l.length/\k<60
  ·obtain⟨j1,j2⟩:=ej
   obtain⟨b,o,q,rfl,hb,hq,D⟩:=Mv f9.h j1;rw[<-a6.h] at hb;have mv:∀(a:Addr) (v:Value),a.block<B->w2.cell? a=some v->∀u,Below B wo.drew u->u.cell? a=some v:=fun a v ha hv u hu=>((hu.cell (p:=a) ha).trans (HB.h.cell (p:=a) ha)).trans hv;have I:=eM.h;have z0:=mv _ _ ax.h (I.cell 0);have z1:=mv _ _ ax.h (I.cell 1);have z2:=mv _ _ ax.h (I.cell 2);have z3:=mv _ _ ax.h (I.cell 3);have z4:=mv _ _ ax.h (I.cell 4);have z5:=mv _ _ ax.h (I.cell 5);have z6:=mv _ _ ax.h (I.cell 6);have z7:=mv _ _ ax.h (I.cell 7);have z8:=mv _ _ ax.h (I.cell 8);have z9:=mv _ _ ax.h (I.cell 9);have ed:=mv _ _ ax.h (I.cell 10);have bU:=U5 HR.h q k;obtain⟨y,ey⟩:∃y,y=rB P q k:=⟨_,rfl⟩;rw[<-ey] at bU;have ek:=bU.ab0;have cF:=HI.h.mf.ZC.V2;have bV:=acA cF.f cF.su HI.h.inv y;have b0:∀r∈(pC P m y).2,1<=r.id/\r.id<=61:=fun r hr=>by
    rcases WL hr with h|h
    ·rw[h];have:=bU.id;omega
    ·exact HI.h.us _ (cF.su _ h)
   have el:∀z,(pC P m y).1.used z=true->1<=z/\z<=61:=fun z hz=>by
    rcases abB hz with h|h
    ·rw[h];have:=bU.id;omega
    ·exact HI.h.us _ h
   obtain⟨res,d4⟩:∃x,x=pC P m y:=⟨_,rfl⟩;have cH:=fun u (h:cC F u g P C Gs R m k) (hs:gc<u.heap.size/\B<=u.heap.size)=>abc F g P m Gs R C y k u h (fun j hj=>by rcases gj.h j hj with h|h|h|h;omega;(have:=a3.h;omega);(have:=a3.h;omega);omega) ae ek.1 ek.2;unfold DoF at cH;rw[<-d4] at bV b0 el cH;obtain⟨e0,d5,e3,gA⟩:=mh cH bV b0 el;clear cH bV b0 el d4 cF;obtain⟨q0,q1,q2,q3,q4,q5,q6,q7,q8⟩:=q;have y0:∀u,Below B wo.drew u->Cz u b (o+k*9) (Iz q0):=mv _ _ hb (D 0 _ ae rfl);have y1:∀u,Below B wo.drew u->Cz u b (o+k*9+1) (Iz q1):=mv ⟨b,o+k*9+1,none⟩ _ hb (D 1 _ ae rfl);have y2:∀u,Below B wo.drew u->Cz u b (o+k*9+2) (Iz q2):=mv ⟨b,o+k*9+2,none⟩ _ hb (D 2 _ ae rfl);have y3:∀u,Below B wo.drew u->Cz u b (o+k*9+3) (Iz q3):=mv ⟨b,o+k*9+3,none⟩ _ hb (D 3 _ ae rfl);have y4:∀u,Below B wo.drew u->Cz u b (o+k*9+4) (Iz q4):=mv ⟨b,o+k*9+4,none⟩ _ hb (D 4 _ ae rfl);have y5:∀u,Below B wo.drew u->Cz u b (o+k*9+5) (Iz q5):=mv ⟨b,o+k*9+5,none⟩ _ hb (D 5 _ ae rfl);have y6:∀u,Below B wo.drew u->Cz u b (o+k*9+6) (Iz q6):=mv ⟨b,o+k*9+6,none⟩ _ hb (D 6 _ ae rfl);have y7:∀u,Below B wo.drew u->Cz u b (o+k*9+7) (Iz q7):=mv ⟨b,o+k*9+7,none⟩ _ hb (D 7 _ ae rfl);have y8:∀u,Below B wo.drew u->Cz u b (o+k*9+8) (.string (str q8)):=mv ⟨b,o+k*9+8,none⟩ _ hb (D 8 _ ae rfl);have i3:(k:Int)<l.length:=ae;have i4:(k:Int)<60:=ae;obtain⟨EY,J1,J2⟩:=fY ey j1 j2;clear hq D mv I bU ek ey j1 j2 hb
   go_upto_region 10 with(fail)
   refine Zb B 99999 [7,8] [0,1,2,3,4,5,6,7,8,9] ?_;refine Yt ?_;clear z0 z1 z2 z3 z4 z5 z6 z7 z8 z9 ed y0 y1 y2 y3 y4 y5 y6 y7 y8;refine Ym fun K hK=>?_;refine(Pj P ma mc sa sc ⟨q0,q1,q2,q3,q4,q5,q6,q7,q8⟩ k wo.drew ((eO.h.below (acO a6.h HB.h)).drew) ae).mono ?_;rintro e w6⟨rfl,b6⟩;rw[<-EY.h];clear EY;obtain⟨r0,r1,r2,r3,r4,r5,r6,r7,r8⟩:=y;simp only[bN.val,bN.cells];refine Yo hK (b6.mono ei.h) ?_;have cQ:aco F B w2 w6 g ga gb gc P C Gs R m k Acc:=by
    have b:Bz wo w6:=dW (below_drewN (aa _ wo) 1) b6;have h:=HI.h;exact⟨h.mf.below b,h.bl.trans (b.mono ei.h),h.ar.block (b.block _ h.ar.a.lt) (b.block _ h.ar.b.lt) (b.block _ h.ar.c.lt),h.inv,h.us⟩
   have e4:gc<w6.heap.size/\B<=w6.heap.size:=⟨cQ.ar.c.lt,a6.h▸cQ.bl.size⟩;obtain⟨a7,b2⟩:=dF cQ e4;clear cQ e4 b6 HI HB ei gy;refine Ym fun K hK=>?_;refine(e0.h w6 a7.h.mf b2.h).mono ?_;rintro e w7⟨A1,cp,Gs',rfl,bf,hN,e5,bt⟩;refine Yo hK (bt.below (fun j hj=>by apply Nat.le_of_not_lt;intro h;exact hj (eZ.h j h)) b2.h.2) ?_;refine Yt ?_;refine aT ?_;have e6:Below B w2 w7:=a7.h.bl.trans (bt.below (fun j hj=>by apply Nat.le_of_not_lt;intro h;exact hj (eZ.h j h)) b2.h.2);have e7:aa4 w7 ga gb gc Acc:=a7.h.ar.block (bt.block _ a7.h.ar.a.lt fun h=>h bp.h.1) (bt.block _ a7.h.ar.b.lt fun h=>h bp.h.2.1) (bt.block _ a7.h.ar.c.lt fun h=>h bp.h.2.2);have b4:∀b,(Value.slice A1 res.2.length cp).ownBlock=some b->gc<b:=fun b hb=>aA b2.h.1 (bf.lt b hb).1;obtain⟨N,eN⟩:∃x,x=res.2.length:=⟨_,rfl⟩;rw[<-eN] at hN bf b4⊢;obtain⟨b5,EN,gG,e9,gI,gO,d6⟩:=yY bf eN e5 e6 hN e7 b4;clear bf eN e5 e6 hN bt e7 b4 a7 b2 e0 i3 i4;go_wp2_with fail
   go_loopw [13] (fun i wr=> ∃j:Nat,j<=N/\i= Iz j/\Hid (aa4 wr ga gb gc (Acc.go (res.2.take j)))/\Hid (Lv (fun q=>q=ga\/q=gb\/q=gc) w7 wr)) (fun i _=>N - (intOf i).toNat)
   case atStart=>exact⟨0,aB _,rfl,gO,ao (Lv.refl _ _)⟩
   case round=>
    obtain⟨j,hj,rfl,cS,a2⟩:=hrel;obtain⟨wp,rfl⟩:∃wo,wo=wr:=⟨_,rfl⟩
    by_cases cT:j<N
    ·obtain⟨b,rfl,_,_⟩:=kz b5.h ae
     have ff:j<res.2.length:=EN.h▸cT;obtain⟨r,hr⟩:∃r,res.2[j]?=some r:=⟨_,aj ff⟩;have fi:=e3.h r (aH hr);have a8:=ab4 d5.h.1 hr;have ba:=go_succ (A:=Acc) hr;have cX:=d6.h b rfl;have own:=aX b5.h fun q hq=>a2.h.block q (b5.h.lt q hq).2 (jE (d6.h q hq) a3.h);obtain⟨y,hy⟩:∃y:Nat,r.id=(y:Int):=⟨r.id.toNat,ae⟩;obtain⟨A',gP⟩:∃x,x=Acc.go (res.2.take j):=⟨_,rfl⟩;have bb:=cS.h;rw[<-gP] at a8 ba bb;have hc:∀(u:World),u.heap[b]?=wp.heap[b]?->∀t v,t<8->r.cells[t]?=some v->Cz u b (j*8+t) v:=fun u hu t v ht hv=>acp (uX own hu) hr ht hv;obtain⟨r0,r1,r2,r3,r4,r5,r6,r7⟩:=r;simp only at fi hy;subst hy;have d7:y<80:=ae;have hE:j<20000000:=cA gI.h;have i3:(j:Int)<N:=ae;have i4:¬(y:Int)<1:=ae;have i5:¬80<=(y:Int):=ae;have i6:(y:Int)<80:=ae;have x0:Cz wp b (j*8) (Iz r0):=hc wp rfl 0 _ ae rfl;have x1:Cz wp b (j*8+1) (Iz (y:Int)):=hc wp rfl 1 _ ae rfl;obtain⟨HC,fk,eo,gR,H3,HY,O⟩:=yY hc a8 ba cX bb d7 cT;clear hc a8 ba cX bb d7 cT fi hr ff own cS
     by_cases c0:r0=1
     ·subst c0
      have A3:=H3.h;have bc:=a3.h;have cX:=gR.h;have y2:∀u,mV b wp.drew u->Cz u b (j*8+2) (Iz r2):=fun u hu=>HC.h u hu 2 _ ae rfl;have y3:∀u,mV b wp.drew u->Cz u b (j*8+3) (Iz r3):=fun u hu=>HC.h u hu 3 _ ae rfl;have y4:∀u,mV b wp.drew u->Cz u b (j*8+4) (Iz r4):=fun u hu=>HC.h u hu 4 _ ae rfl;have ca:Cz wp ga y (Iz (A'.ag y)):=ZN A3.a HY.h;have fa:Fz wp ga y:=aE.frozen A3.a y;obtain⟨v1,b7⟩:∃v,v=(wp.setCell ⟨ga,y,none⟩ (Iz r4)).drew:=⟨_,rfl⟩;have fq:aE v1 ga 44 (ZT fun z=>if z=(y:Int) then r4 else A'.ag z):=b7▸aE.drew (aa3 A3.a r4);have b8:∀q,q≠ga->v1.heap[q]?=wp.heap[q]?:=fun q hq=>b7▸av _ _ _ _ hq;have dc:aE v1 gb 45 (ZT A'.inst):=A3.b.block (b8 gb ae);have fx:aE v1 gc 45 (ZT A'.side):=A3.c.block (b8 gc ae);have cb:Cz v1 gb y (Iz (A'.inst y)):=ZN dc HY.h;have fb:Fz v1 gb y:=dc.frozen y;obtain⟨v2,cd⟩:∃v,v=v1.setCell ⟨gb,y,none⟩ (Iz r2):=⟨_,rfl⟩;have fz:aE v2 gb 45 (ZT fun z=>if z=(y:Int) then r2 else A'.inst z):=cd▸aa3 dc r2;have cf:∀q,q≠gb->v2.heap[q]?=v1.heap[q]?:=fun q hq=>cd▸av _ _ _ _ hq;have dp:aE v2 gc 45 (ZT A'.side):=fx.block (cf gc ae);have cc:Cz v2 gc y (Iz (A'.side y)):=ZN dp HY.h;have fc:Fz v2 gc y:=dp.frozen y;obtain⟨v3,ck⟩:∃v,v=v2.setCell ⟨gc,y,none⟩ (Iz r3):=⟨_,rfl⟩;have fH:aE v3 gc 45 (ZT fun z=>if z=(y:Int) then r3 else A'.side z):=ck▸aa3 dp r3;have dS:∀q,q≠gc->v3.heap[q]?=v2.heap[q]?:=fun q hq=>ck▸av _ _ _ _ hq;have R3:aa4 v3 ga gb gc (A'.upd ⟨1,(y:Int),r2,r3,r4,r5,r6,r7⟩):=by
       unfold Ac.upd;rw[if_pos rfl];exact⟨(fq.block (cf ga ae)).block (dS ga ae),fz.block (dS gb ae),fH⟩
      have L3:Lv (fun q=>q=ga\/q=gb\/q=gc) w7 v3:=ck▸cd▸b7▸((a2.h.setCell (.inl rfl) _).drew.setCell (.inr (.inl rfl)) _).setCell (.inr (.inr rfl)) _;have h1:mV b wp.drew v1:=b8 b ae;have h2:mV b v1 v2:=cf b ae;have h3:v3.heap[b]?=wp.heap[b]?:=(dS b ae).trans ((cf b ae).trans (b8 b ae));have fT:Cz v3 b (j*8) (Iz 1):=HC.h v3 h3 0 _ ae rfl;obtain⟨R3,L3,gT,g3,g4,g6,g7,W0⟩:=Dw R3 L3 h1 h2 b7 cd ck fT;clear A3 bc cX fq b8 dc fx fz cf dp fH dS h1 h2 h3 b7 cd ck fT
      go_upto_region 18 with(fail)
      refine bx (R:=mV b) 23 [19,21,23] [0,1,2,3,4,5,6,7,8,9,10,11,12,13,14,15,16,17,18,19,20,21,22,23] (by kernel_rfl) (mV.tr b) (mV.J b) (by kernel_rfl) (fun _ _ _ _ _ h=>h) ?_;refine Yt ?_;refine Ym fun K hK=>?_;rw[<-g4.h];refine Yo hK (gT.h) ?_;clear ca fa;refine Yt ?_;refine Ym fun K hK=>?_;rw[<-g6.h];refine Yo hK (g3.h) ?_;clear cb fb;refine Yt ?_;refine Zl fun K hK=>?_;go_simp;rw[<-g7.h];refine Yl hK ?_;refine aT ?_;clear cc fc y2 y3 y4 x0 x1;have x0:=W0.h;go_wp2_with fail
      go_quiet (fail)
      go_wp2_with fail;go_roundw
      case rel=>exact⟨j+1,O.h,by go_num,ao (eo.h▸R3.h.block rfl rfl rfl),ao (L3.h.drewN _)⟩
      case measure=>have:=O.h;simp[intOf];omega
     ·have A3:=H3.h
      have ep:A'.upd ⟨r0,(y:Int),r2,r3,r4,r5,r6,r7⟩=A':=aa1 c0;have a8:=fk.h;rw[ep] at a8;have ba:=eo.h;rw[ep] at ba;have ca:=ZN A3.a HY.h;have cb:=ZN A3.b HY.h;have cc:=ZN A3.c HY.h;have y2:Cz wp b (j*8+2) (Iz r2):=HC.h wp rfl 2 _ ae rfl;have y3:Cz wp b (j*8+3) (Iz r3):=HC.h wp rfl 3 _ ae rfl;have y4:Cz wp b (j*8+4) (Iz r4):=HC.h wp rfl 4 _ ae rfl;have ay:r0=3->r2=A'.inst y->r3=A'.side y/\(A'.side y=1->r4<=A'.ag y)/\(A'.side y=2->A'.ag y<=r4):=a8;have e1:(r0==1)=false:=beq_eq_false_iff_ne.2 c0;have cl:Hid (aa4 wp ga gb gc (Acc.go (res.2.take (j+1)))):=ao (ba▸A3);obtain⟨ap,f0⟩:∃v,v=A'.ag y:=⟨_,rfl⟩;obtain⟨ai,f3⟩:∃v,v=A'.inst y:=⟨_,rfl⟩;obtain⟨sd,f4⟩:∃v,v=A'.side y:=⟨_,rfl⟩;rw[<-f0] at ca ay;rw[<-f3] at cb ay;rw[<-f4] at cc ay;clear A3 ep a8 ba c0 f0 f3 f4 H3 fk eo HC
      by_cases h3:r0=3
      ·subst h3
       by_cases hi:r2=ai
       ·subst hi
        obtain⟨hs,h1,h2⟩:=ay rfl rfl;subst hs;clear ay
        by_cases dT:r3=1
        ·subst dT
         have hle:=h1 rfl;have f5:decide (ap<r4)=false:=decide_eq_false ae;clear h1 h2 hle;go_wp2_with fail
         go_quiet (fail)
         go_wp2_with fail;go_roundw
         case rel=>exact⟨j+1,O.h,by go_num,ao (cl.h.block rfl rfl rfl),ao (a2.h.drewN _)⟩
         case measure=>have:=O.h;simp[intOf];omega
        ·by_cases er:r3=2
         ·subst er
          have hle:=h2 rfl;have f5:decide (r4<ap)=false:=decide_eq_false ae;clear h1 h2 hle dT;go_wp2_with fail
          go_quiet (fail)
          go_wp2_with fail;go_roundw
          case rel=>exact⟨j+1,O.h,by go_num,ao (cl.h.block rfl rfl rfl),ao (a2.h.drewN _)⟩
          case measure=>have:=O.h;simp[intOf];omega
         ·have f1:(r3==1)=false:=beq_eq_false_iff_ne.2 dT
          have f2:(r3==2)=false:=beq_eq_false_iff_ne.2 er;clear h1 h2 dT er;go_wp2_with fail
          go_quiet (fail)
          go_wp2_with fail;go_roundw
          case rel=>exact⟨j+1,O.h,by go_num,ao (cl.h.block rfl rfl rfl),ao (a2.h.drewN _)⟩
          case measure=>have:=O.h;simp[intOf];omega
       ·have f1:(r2==ai)=false:=beq_eq_false_iff_ne.2 hi
        clear ay hi;go_wp2_with fail
        go_quiet (fail)
        go_wp2_with fail;go_roundw
        case rel=>exact⟨j+1,O.h,by go_num,ao (cl.h.block rfl rfl rfl),ao (a2.h.drewN _)⟩
        case measure=>have:=O.h;simp[intOf];omega
      ·have f1:(r0==3)=false:=beq_eq_false_iff_ne.2 h3
       clear ay h3;go_wp2_with fail
       go_quiet (fail)
       go_wp2_with fail;go_roundw
       case rel=>exact⟨j+1,O.h,by go_num,ao (cl.h.block rfl rfl rfl),ao (a2.h.drewN _)⟩
       case measure=>have:=O.h;simp[intOf];omega
    ·obtain rfl:j=N:=ae
     have d8:res.2.take j=res.2:=aL (EN.h▸af _);have bb:=cS.h;rw[d8] at bb;have hI:aco F B w2 wp g ga gb gc P C Gs' R res.1 (k+1) (Acc.go res.2):=
      ⟨gG.h.lv a2.h (fun q hq=>by rcases hq with rfl|rfl|rfl;exact bp.h.1;exact bp.h.2.1;exact bp.h.2.2),e9.h.trans (a2.h.below (fun q hq=>jE gq.h a3.h) (a6.h▸e9.h.size)),bb,d5.h.2,gA.h⟩
     obtain⟨g8,g9⟩:=dF hI (hI.ar.c.lt);have i3:¬(j:Int)<j:=ae;clear d8 bb hI cT cS a2;go_wp2_with fail;go_roundw
     case rel=>exact⟨k+1,res.1,Gs',Acc.go res.2,J1.h,J2.h,by go_num,g8,g9⟩
     case measure=>have:=J2.h;simp[intOf];omega
  ·have f6:Bz w wo:=eb.h.trans (HB.h.mono (a6.h▸eb.h.size))
   have f7:=ao f6;clear f6 HI HB
   by_cases hl:k=l.length
   ·have i3:¬(k:Int)<l.length:=ae
    clear ej hl;go_wp2_with fail;refine(Qw wo).mono ?_;rintro e w9⟨rfl,b9⟩;go_wp2_with fail;go_ret;exact⟨rfl,dW f7.h b9⟩
   ·have i3:(k:Int)<l.length:=ae
    have i4:¬(k:Int)<60:=ae;clear ej hl;go_wp2_with fail;refine(Qw wo).mono ?_;rintro e w9⟨rfl,b9⟩;go_wp2_with fail;go_ret;exact⟨rfl,dW f7.h b9⟩
end Go.Proofs.YtbaaheidifacaaaGreat
