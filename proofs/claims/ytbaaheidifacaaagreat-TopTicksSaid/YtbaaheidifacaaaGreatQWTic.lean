import Derived.Test.YtbaaheidifacaaaGreatQRunXC1
import Derived.Test.YtbaaheidifacaaaGreatQArgsT
import Derived.Test.YtbaaheidifacaaaGreatQLawMorC10
import Derived.Test.YtbaaheidifacaaaGreatQAwk1
set_option linter.defProp false
set_option linter.unusedVariables false
set_option linter.unusedSimpArgs false
set_option maxRecDepth 100000
set_option maxHeartbeats 12800000
namespace Go.Proofs.YtbaaheidifacaaaGreat
variable {A:Option Addr} {L:List ir} {P:PD} {f:ir→ir} {k:Nat} {l:List bN} {r:ir}
open Go.RowKit
theorem rL.Y0 {B:Nat} {w:World} {g:Nat} {C:zt} {Gs R:Nat->Prop} {c:Nat} (h:rL B w g P C Gs R l A c) (D:∀(i:Nat) (y:bN),l[i]?=some y->i<=1000/\wZ P i y):Tl P l:=
 ⟨fun n=>(h.fine n).f,fun n=>(h.fine n).su,D⟩
theorem Qx (D:P.gZ) (l:List bN) (n:Nat) (hn:n<=1000):∀(i:Nat) (y:bN),(js P l n)[i]?=some y->i<=1000/\wZ P i y:=fun i y h=>by
 obtain⟨J,I⟩:=Tk D h;exact⟨ae,I⟩
theorem wZ.run {i:Nat} {c:bN} (h:wZ P i c):c.aw<=12000/\c.ky.length<=9223372036854775807:=⟨cA h.aw,by rw[h.ky];simp⟩
theorem N3 (h:∀(i:Nat) (y:bN),l[i]?=some y->i<=1000/\wZ P i y):∀q∈l,q.aw<=12000/\q.ky.length<=9223372036854775807:=fun q hq=>by
 obtain⟨i,hi,rfl⟩:=kv.1 hq;exact(h i _ (aj hi)).2.run
def qU (f:ir→ir) (k:Nat) (L:List ir):List ir:=(L.take k).map f++L.drop k
theorem Qy (f:ir->ir) (L:List ir):qU f 0 L=L:=by simp[qU]
theorem TB (f:ir->ir) (L:List ir):qU f L.length L=L.map f:=by simp[qU]
theorem Vf (h:L[k]?=some r):(qU f k L)[k]?=some r:=by
 have D:=(az.1 h).1;unfold qU;rw[bK iW];simp only[br,bJ];rw[jH,(ae:k+(k - min k L.length)=k)];exact h
theorem TD (h:L[k]?=some r):(qU f k L).set k (f r)=qU f (k+1) L:=by
 have D:=(az.1 h).1;unfold qU;have e1:(List.map f (L.take k)).length=k:=iW;rw[yX _ _ ae,e1,Vn,bC,h,iB D];rw[show L[k]=r from bW ((aj D).symm.trans h)];simp
theorem ack {k x a b:Int} (D:1<=k/\k<=a) (I:0<=b) (hx: -b<=x/\x<=b): -(a*b)<=k*x/\k*x<=a*b:=by
 have O:k*x<=k*b:=gh hx.2 ae;have J:k* -b<=k*x:=gh hx.1 ae;have h3:k*b<=a*b:=Int.mul_le_mul_of_nonneg_right D.2 I;rw[Int.mul_neg] at J;omega
theorem aan {k x b:Int} (D:1<=k/\k<=1000) (I:0<=b/\b<=1000000000) (hx: -b<=x/\x<=b):IntKind.i64.wrap (k*x)=k*x:=by
 have:=ack D I.1 hx;exact aN _ ae
theorem abZ (mn ti wi ru top le pa:Int):(Gr mn ti wi ru top le pa).tick<=10/\ -1000<=(Gr mn ti wi ru top le pa).low/\(Gr mn ti wi ru top le pa).high<=1000:=by
 have h:=cW ti 0 9 ae;unfold Gr zn;simp only;omega
theorem aaG (p:kU) (A:Option Addr) (n c:Nat) (times:Int) (w:World) (h0:p.Ok w) (h1:Commands w A n c) (h2:(Lit.int .i64 times).wf=true):
  Wz 6 #[p.val, .slice A n c,Iz times] w fun e w'=>e= .returned (.bool true)/\Bz w w':=by
 replace h2:=V9 h2;obtain⟨hle,bV,l,rfl,hA,eb⟩:=h1;have j7:l.length<=9223372036854775807:=by unfold maxLen at bV;omega
 have a8:=fun u=>Qh p u h0;obtain⟨P,eP⟩:∃P,P=p.prod:=⟨_,rfl⟩;rw[<-eP] at a8;obtain⟨ba,EP,HA,j4,j5⟩:=rU a8 eP hA eb (And.intro hle bV);clear a8 eP hA eb hle bV h0;obtain⟨pc,hD,mn,hE,hG,hH,hI,hJ,hL,hM,hN,hO,hP,hQ,hT⟩:=p;simp only[kU.val] at ba⊢;obtain⟨w0,dS⟩:∃v,v=w.alloc (.cells #[.string pc, .slice hD mn hE,Iz hG,Iz hH,Iz hI,Iz hJ,Iz hL,Iz hM,Iz hN,Iz hO, .slice hP hQ hT] 25):=⟨_,rfl⟩;obtain⟨gx,et⟩:∃v,v=w.heap.size:=⟨_,rfl⟩;have D0:=Zq dS et;have B0:=Zw dS;have k0:=D0.cell;have dT:=ao B0;clear D0 B0
 go_enter Tryz.func6,Tryz.ntmps6
 go_upto_region 1 with(fail)
 rw[<-dS,<-et];clear dS et;go_wp2_with fail;refine(ba w0).mono ?_;clear k0;rintro e w1⟨ma,mc,sa,sc,rfl,d2,ed,b1⟩;have HR:=ao d2.right;simp only[PD.val]
 go_upto_region 2 with(fail)
 obtain⟨w2,b0⟩:∃v,v=w1.alloc (.cells (P.cells ma mc sa sc) 25):=⟨_,rfl⟩;obtain⟨gp,b2⟩:∃v,v=w1.heap.size:=⟨_,rfl⟩;have D2:fM w2 gp P ma mc sa sc:=b0▸b2▸fM.new _ _ _ _ _ _;have B2:=Zw b0;unfold PD.cells at b0;rw[<-b0,<-b2];obtain⟨d3,eu,ew⟩:=fY D2 (d2.below B2) (dW (dW dT b1) B2);have b4:Hid (∀q,qP ma q\/qP sa q->w.heap.size<=q/\q<gp):=ao fun q hq=>⟨jE (ed q hq) dT.h.size,b2▸d2.Xc q hq⟩;have j6:Hid (w.heap.size<=gp):=ao (b2▸aF dT.size b1.size);clear D2 B2 b0 b2 d2 ed b1 dT ba;have e9:=cW times 0 9 ae;obtain⟨kk,ey⟩:∃v,v=within times 0 9:=⟨_,rfl⟩;rw[<-ey] at e9;have fa:=ao ey;clear ey;go_wp2_with fail;refine(dg times 0 9 _ ae ae ae).mono ?_;rw[<-fa.h];rintro e wq⟨rfl,rfl⟩;obtain⟨kq,eK⟩:∃v,v=1+kk:=⟨_,rfl⟩;have hK:1<=kq/\kq<=10:=ae;have D2:=d3.h;have z0:Cz w2 gp 0 (.string (str P.code)):=D2.cell 0;have z1:Cz w2 gp 1 (.slice ma P.E.length mc):=D2.cell 1;have z2:Cz w2 gp 2 (Iz P.tick):=D2.cell 2;have z3:Cz w2 gp 3 (Iz P.low):=D2.cell 3;have z4:Cz w2 gp 4 (Iz P.high):=D2.cell 4;have z5:Cz w2 gp 5 (Iz P.wide):=D2.cell 5;have z6:Cz w2 gp 6 (Iz P.rule):=D2.cell 6;have z7:Cz w2 gp 7 (Iz P.top):=D2.cell 7;have z8:Cz w2 gp 8 (Iz P.least):=D2.cell 8;have z9:Cz w2 gp 9 (Iz P.part):=D2.cell 9;have b5:Cz w2 gp 10 (.slice sa P.settle.length sc):=D2.cell 10
 go_upto_region 4 with(fail)
 rw[<-eK];have d4:Hid (P.tick<=10/\ -1000<=P.low/\P.high<=1000):=ao (EP.h▸abZ _ _ _ _ _ _ _);obtain⟨ff,bb⟩:=dF hK ((ae:1<=kq/\kq<=1000));clear e9 eK hK fa;obtain⟨w3,bH⟩:∃v,v=w2.alloc (.cells (P.cells ma mc sa sc) 25):=⟨_,rfl⟩;obtain⟨D,bQ⟩:∃v,v=w2.heap.size:=⟨_,rfl⟩;have a5:gp<D:=bQ▸D2.lt;have D3:fM w3 D P ma mc sa sc:=bH▸bQ▸fM.new _ _ _ _ _ _;have B3:=Zw bH;have fi:w3.heap.size=D+1:=by rw[bH,bQ];simp
 unfold PD.cells at bH;rw[<-bH,<-bQ];clear z0 z1 z2 z3 z4 z5 z6 z7 z8 z9 b5;have fk:=ao bQ;clear bH bQ;have ez:=HR.h.I7;have fq:=HR.h.zl;have fx:=HR.h.lh;have hU:=HR.h.BO;have hV:=HR.h.EK;have hW:=HR.h.E5;have hX:=d4.h;have l2:∀u,Below D w3.drew u->Cz u gp 2 (Iz P.tick):=fun u hu=>Yb hu a5 (Yb B3 D2.lt (D2.cell 2));have l3:∀u,Below D w3.drew u->Cz u gp 3 (Iz P.low):=fun u hu=>Yb hu a5 (Yb B3 D2.lt (D2.cell 3));have l4:∀u,Below D w3.drew u->Cz u gp 4 (Iz P.high):=fun u hu=>Yb hu a5 (Yb B3 D2.lt (D2.cell 4));have l5:∀u,Below D w3.drew u->Cz u gp 5 (Iz P.wide):=fun u hu=>Yb hu a5 (Yb B3 D2.lt (D2.cell 5));have y2:Cz w3 D 2 (Iz P.tick):=D3.cell 2;have y3:Cz w3 D 3 (Iz P.low):=D3.cell 3;have y4:Cz w3 D 4 (Iz P.high):=D3.cell 4;have y5:Cz w3 D 5 (Iz P.wide):=D3.cell 5;have f2:=D3.frozen;have n2:=aan (x:=P.tick) (b:=10000) bb ae ae;have n3:=aan (x:=P.low) (b:=10000) bb ae ae;have n4:=aan (x:=P.high) (b:=10000) bb ae ae;have n5:=aan (x:=P.wide) (b:=10000) bb ae ae;clear ez fq fx hU hV hW hX;refine Zb D 23 [17,19,21,23] [0,1,2,3,4,5,6,7,8,9,10,11,12,13,14,15,16,17,18,19,20,21,22,23] ?_;refine Yt ?_;refine Ym fun K hK=>?_;refine Yo hK ((aa _ _).setCell (by exact af _) _) ?_;refine Yt ?_;refine Ym fun K hK=>?_;refine Yo hK ((aa _ _).setCell (by exact af _) _) ?_;refine Yt ?_;refine Ym fun K hK=>?_;refine Yo hK ((aa _ _).setCell (by exact af _) _) ?_;refine Yt ?_;refine Zl fun K hK=>?_;go_simp;refine Yl hK ?_;refine aT ?_;clear l2 l3 l4 l5 y2 y3 y4 y5 f2 n2 n3 n4 n5;obtain⟨w4,b6⟩:∃v,v=((((w3.setCell ⟨D,2,none⟩ (Iz (kq*P.tick))).setCell ⟨D,3,none⟩ (Iz (kq*P.low))).setCell ⟨D,4,none⟩ (Iz (kq*P.high))).setCell ⟨D,5,none⟩ (Iz (kq*P.wide))).drew:=⟨_,rfl⟩;rw[<-b6];have D4:aE w4 D 25 #[.string (str P.code), .slice ma P.E.length mc,Iz (kq*P.tick),Iz (kq*P.low),Iz (kq*P.high),Iz (kq*P.wide),Iz P.rule,Iz P.top,Iz P.least,Iz P.part, .slice sa P.settle.length sc]:=b6▸aE.drew (aE.set (aE.set (aE.set (aE.set D3 2 (Iz (kq*P.tick))) 3 (Iz (kq*P.low))) 4 (Iz (kq*P.high))) 5 (Iz (kq*P.wide)));have B4:Below D w3 w4:=b6▸(((((aa _ _).setCell (by exact af _) _).setCell (by exact af _) _).setCell (by exact af _) _).setCell (by exact af _) _).drew;have fz:w4.heap.size=D+1:=by rw[b6];simpa using fi
 have eA:Cz w4 D 10 (.slice sa P.settle.length sc):=D4.cell 10;have eB:=aE.frozen D4 10;clear b6
 go_upto_region 6 with(fail)
 obtain⟨w5,b9⟩:∃v,v=w4.setCell ⟨D,10,none⟩ (.slice none 0 0):=⟨_,rfl⟩;refine jN b9 ?_;have D5:aE w5 D 25 #[.string (str P.code), .slice ma P.E.length mc,Iz (kq*P.tick),Iz (kq*P.low),Iz (kq*P.high),Iz (kq*P.wide),Iz P.rule,Iz P.top,Iz P.least,Iz P.part, .slice none 0 0]:=b9▸aE.set D4 10 (.slice none 0 0);have B5:Below D w2 w5:=b9▸((B3.mono (fk.h▸af _)).trans B4).setCell (by exact af _) _;have fH:w5.heap.size=D+1:=by rw[b9];simpa using fz
 obtain⟨hY,bc,h3,ay⟩:=mh D5 B5 fH a5;clear eA eB b9 D4 B4 fz D3 B3 fi D2 D5 B5 fH;obtain⟨NS,eC⟩:∃v,v=P.settle.length:=⟨_,rfl⟩;have j8:NS<=6:=by rw[eC,HR.h.vI];exact HR.n6
 have cf:=ao eC;clear eC;go_wp2_with fail
 go_loopw [10] (fun i wr=> ∃(k:Nat) (As:Option Addr) (cs:Nat),k<=NS/\i= Iz k/\Hid (aE wr D 25 #[.string (str P.code), .slice ma P.E.length mc,Iz (kq*P.tick),Iz (kq*P.low),Iz (kq*P.high),Iz (kq*P.wide),Iz P.rule,Iz P.top,Iz P.least,Iz P.part, .slice As k cs])/\Hid (wr.ownsRow (D+1) 2 1 (.slice As k cs) k (bZ ((P.settle.take k).map fun x=>kq*x)))/\Hid (Below D w5 wr)/\Hid (D+1<=wr.heap.size)) (fun i _=>NS - (intOf i).toNat)
 case atStart=>exact⟨0,none,0,aB _,rfl,hY,ao (aM _ _ _ _),ao (aa _ _),ao (bu h3.symm)⟩
 case round=>
  obtain⟨k,As,cs,hk,rfl,HD,HO,HB,ck⟩:=hrel;obtain⟨I,rfl⟩:∃I,I=wr:=⟨_,rfl⟩;have Dp:=d3.h;have eD:∀i v,Cz w2 gp i v->Cz I gp i v:=fun i v hv=>Yb HB ay (Yb bc ay hv);have eE:Cz I gp 10 (.slice sa NS sc):=eD 10 _ (cf.h▸Dp.cell 10)
  by_cases a0:k<NS
  ·have bR:iZ I P ma sa:=eu.same (fun j hj _=>(HB.block j (jE ((b4 j hj).2) ay.h)).trans (bc.block j (jE ((b4 j hj).2) ay.h))) (aF bc.size HB.size)
   obtain⟨b,o,y,rfl,j9,hc,hy⟩:=bR.s.jK (k:=k) (cf.h▸a0);have h5:=HR.h.KY y (aH hy.h);have fT:=HR.h.I7;have eF:=HR.h.zl;have h6: -1000000<=y/\y<=1000000:=ae;have h7:b<D+1:=jE ((b4 b (.inr ⟨o,rfl⟩)).2) ay.h;have eG:gp<D+1:=cA ay.h;have l1:∀u,Below (D+1) I.drew u->Cz u D 10 (.slice As k cs):=fun u hu=>Yb hu (cP _) (HD.cell 10);have l2:∀u,Below (D+1) I.drew u->Cz u gp 10 (.slice (some ⟨b,o,none⟩) NS sc):=fun u hu=>Yb hu eG eE;have l3:∀u,Below (D+1) I.drew u->Cz u b (o+k) (Iz y):=fun u hu=>Yb hu h7 hc;have n1:=aan (x:=y) (b:=1000000) bb ae h6;have i1:(k:Int)<NS:=ae;have a2:bZ ((P.settle.take (k+1)).map fun x=>kq*x)=bZ ((P.settle.take k).map fun x=>kq*x)++[Iz (kq*y)]:=by
    rw[bC,hy.h];simp[bZ]
   obtain⟨a6,eI⟩:=dF a0 a2;clear h5 fT eF hc bR Dp eD a0 a2
   go_upto_region 9 with(fail)
   clear eE;refine Zb (D+1) 12 [9,10,12] [0,1,2,3,4,5,6,7,8,9,10,11,12] ?_;refine Yt ?_;clear l1 l2 l3 n1;refine Ym fun K hK=>?_;refine Yo hK (rM ck _) ?_;refine Zm fun K hK=>?_;refine fZ sL (F5 (HO.alloc _)) (news:=[Iz (kq*y)]) (m:=1) _ _ rfl rfl rfl rfl (by intro e;cases e) (Cells.lit I #[Iz (kq*y)] 2).drew (by intro u hu;simp at hu;subst hu;rfl) ae (by simp;have:=ck.h;omega) (k+1) (bZ ((P.settle.take (k+1)).map fun x=>kq*x)) rfl eI ?_;intro A4 c4 w6 p4;have B6:Below (D+1) I w6:=p4.below (D+1) I (af _) (((aa _ _).alloc ck _).drew);have D6:=HD.h.block (B6.block D (cP _));have eA:Cz w6 D 10 (.slice As k cs):=D6.cell 10;have eB:Fz w6 D 10:=D6.frozen 10;refine Yo hK (p4.below _ _ (af _) (aa _ _)) ?_;refine Yt ?_;refine Zl fun K hK=>?_;go_simp;refine Yl hK ?_;refine aT ?_;have D7:Hid (aE (w6.setCell ⟨D,10,none⟩ (.slice A4 (k+1) c4)) D 25 #[.string (str P.code), .slice ma P.E.length mc,Iz (kq*P.tick),Iz (kq*P.low),Iz (kq*P.high),Iz (kq*P.wide),Iz P.rule,Iz P.top,Iz P.least,Iz P.part, .slice A4 (k+1) c4]):=ao (aE.set D6 10 _);have O7:Hid ((w6.setCell ⟨D,10,none⟩ (.slice A4 (k+1) c4)).ownsRow (D+1) 2 1 (.slice A4 (k+1) c4) (k+1) (bZ ((P.settle.take (k+1)).map fun x=>kq*x))):=ao (ownsRow_setCell_below (a:=⟨D,10,none⟩) p4.own (cP _) _);have B7:Hid (Below D w5 (w6.setCell ⟨D,10,none⟩ (.slice A4 (k+1) c4))):=ao ((HB.trans (B6.mono (qX _))).setCell (by exact af _) _);have S7:Hid (D+1<=(w6.setCell ⟨D,10,none⟩ (.slice A4 (k+1) c4)).heap.size):=ao (by simp;exact aF ck B6.size);obtain⟨w7,f1⟩:∃v,v=w6.setCell ⟨D,10,none⟩ (.slice A4 (k+1) c4):=⟨_,rfl⟩;rw[<-f1] at D7 O7 B7 S7⊢;clear f1 eA eB D6 B6 p4;go_wp2_with fail;go_roundw
   case rel=>exact⟨k+1,A4,c4,a6,by go_num,D7,O7,B7,S7⟩
   case measure=>have:=a6.h;simp[intOf];omega
  ·obtain rfl:k=NS:=ae
   have i1:¬(k:Int)<k:=ae;have cm:P.settle.take k=P.settle:=aL (cf.h▸af _);have bR:iZ I P ma sa:=eu.same (fun j hj _=>(HB.block j (jE ((b4 j hj).2) ay.h)).trans (bc.block j (jE ((b4 j hj).2) ay.h))) (aF bc.size HB.size);have own:=HO.h;rw[cm] at own;have a4:(Z3 kq P).settle.length=k:=by show(P.settle.map _).length=k;rw[br,<-cf.h]
   have eJ:iZ I (Z3 kq P) ma As:=⟨bR.m,Cells.O own,aba HR ff d4.1 d4.2.1 d4.2.2⟩;have eL:fM I D (Z3 kq P) ma mc As cs:=by
    have h:=HD.h;unfold fM PD.cells;rw[a4];exact h
   have a3:fM I gp P ma mc sa sc:=d3.block ((HB.block gp ay).trans (bc.block gp ay));obtain⟨Q,eQ⟩:∃Q,Q=Z3 kq P:=⟨_,rfl⟩;rw[<-eQ] at a4 eJ eL;have EQ:=ao eQ;clear eQ;have f3:Bz w I:=by
    have h1:w.heap.size<=D:=fk.h▸ew.size;exact(ew.trans (bc.mono h1)).trans (HB.mono h1)
   obtain⟨eN,cn,f4,ka,bU,kf⟩:=FW bR eJ eL a3 f3 a4;clear own cm bR eJ eL f3 a4 HO HD HB ck eD Dp d3 eu ew a0;have z0:Cz I gp 0 (.string (str P.code)):=a3.cell 0;have z1:Cz I gp 1 (.slice ma P.E.length mc):=a3.cell 1;have z2:Cz I gp 2 (Iz P.tick):=a3.cell 2;have z3:Cz I gp 3 (Iz P.low):=a3.cell 3;have z4:Cz I gp 4 (Iz P.high):=a3.cell 4;have z5:Cz I gp 5 (Iz P.wide):=a3.cell 5;have z6:Cz I gp 6 (Iz P.rule):=a3.cell 6;have z7:Cz I gp 7 (Iz P.top):=a3.cell 7;have z8:Cz I gp 8 (Iz P.least):=a3.cell 8;have z9:Cz I gp 9 (Iz P.part):=a3.cell 9;go_wp2_with fail;rw[cf.h];refine(Te P ma mc sa sc A l.length c l 50 I eN rfl (HA.below bU) ae).mono ?_;clear z0 z1 z2 z3 z4 z5 z6 z7 z8 z9 eE i1;rintro e v7⟨Ac,cc,rfl,bh,b7⟩;obtain⟨cl,d5⟩:∃x,x=js P l 50:=⟨_,rfl⟩;rw[<-d5] at bh⊢;have eO:cl.length<=50:=d5▸MA P l 50;have f5:∀(i:Nat) (y:bN),cl[i]?=some y->i<=1000/\wZ P i y:=d5▸Qx HR l 50 ae;obtain⟨M,eM⟩:∃x,x=cl.length:=⟨_,rfl⟩;rw[<-eM] at bh eO⊢;obtain⟨eR,ct,EM,h8,f6,f7,ax,ef,cv⟩:=QG (dP.O bh) f5 eM b7 (eN.below b7) (cn.below b7) (a3.below b7) (f4.below b7) (dW bU b7);clear bh f5 eM b7 a3 eN cn f4 bU d5;have z0:Cz v7 gp 0 (.string (str P.code)):=ax.cell 0;have z1:Cz v7 gp 1 (.slice ma P.E.length mc):=ax.cell 1;have z2:Cz v7 gp 2 (Iz P.tick):=ax.cell 2;have z3:Cz v7 gp 3 (Iz P.low):=ax.cell 3;have z4:Cz v7 gp 4 (Iz P.high):=ax.cell 4;have z5:Cz v7 gp 5 (Iz P.wide):=ax.cell 5;have z6:Cz v7 gp 6 (Iz P.rule):=ax.cell 6;have z7:Cz v7 gp 7 (Iz P.top):=ax.cell 7;have z8:Cz v7 gp 8 (Iz P.least):=ax.cell 8;have z9:Cz v7 gp 9 (Iz P.part):=ax.cell 9;have b5:Cz v7 gp 10 (.slice sa P.settle.length sc):=ax.cell 10;go_wp2_with fail;refine(J1 P ma mc sa sc Ac M cc cl v7 f6 EM.symm eR (by rw[<-EM.h];omega) (N3 ct)).mono ?_;clear z0 z1 z2 z3 z4 z5 z6 z7 z8 z9 b5;rintro e v8⟨g,Aa,ca,C,Gs,R,rfl,cF,b8⟩;have f8:=cF.Y0 ct;have bp:=cF.pos;have hlen:=cF.len;have bt:=cF.own;obtain⟨La,eS⟩:∃x,x=(runM P (Mk.new P) cl).2:=⟨_,rfl⟩;rw[<-eS] at bt bp hlen⊢;obtain⟨Na,eT⟩:∃x,x=La.length:=⟨_,rfl⟩;rw[<-eT] at bt bp hlen⊢;rw[<-EM.h] at bp hlen;obtain⟨f9,gb,gi,eU,gj,eg,ei,ej,h9⟩:=QG f8 bt eS eT (f7.below b8) (eR.below b8) (ef.below b8) (dW cv b8) cv.size;clear f8 bt eS eT cF b8 f7 eR ax ef cv f6 h8;go_wp2_with fail
   go_loopw [14,15] (fun v i wr=> ∃(k:Nat) (Ad:Option Addr) (cd:Nat),k<=M/\v= .slice Ad k cd/\i= Iz k/\Hid (wr.ownsRow v8.heap.size 35 9 (.slice Ad k cd) k (lF ((cl.take k).map (ZY kq))))/\Hid (Bz v8 wr)) (fun _ i _=>M - (intOf i).toNat)
   case atStart=>exact⟨0,none,0,aB _,rfl,rfl,ao (aM _ _ _ _),ao (aa _ _)⟩
   case round=>
    obtain⟨k,Ad,cd,hk,rfl,rfl,HO,HB⟩:=hrel;obtain⟨I,rfl⟩:∃I,I=wr:=⟨_,rfl⟩
    by_cases a0:k<M
    ·obtain⟨b,o,q,rfl,hb,hq,J⟩:=Mv (eg.below HB) (m:=k) (EM.h▸a0)
     have cH:=(ct k q hq).2;have d6:=cH.ag;have eV:=cH.aw;have eW:=cH.least;have eY:=cH.Y8;have ia:=(ct k q hq).1;have a2:lF ((cl.take (k+1)).map (ZY kq))=lF ((cl.take k).map (ZY kq))++((ZY kq) q).row:=by
      rw[bC,hq];simp[lF]
     obtain⟨q0,q1,q2,q3,q4,q5,q6,q7,q8⟩:=q;have ek:((ZY kq) ⟨q0,q1,q2,q3,q4,q5,q6,q7,q8⟩).row=[Iz q0,Iz q1,Iz q2,Iz q3,Iz (kq*q4),Iz q5,Iz q6,Iz q7, .string (str q8)]:=rfl;rw[ek] at a2;replace d6: -17000<=q4/\q4<=17000:=d6;replace eV:1<=q5/\q5<=12:=eV;replace eW:0<=q6/\q6<=q5:=eW;replace eY:1<=q1/\(q1<=31\/q1=(k:Int)+1):=eY;have nq:=aan (x:=q4) (b:=17000) bb ae d6;have y0:Cz I b (o+k*9) (Iz q0):=J 0 _ ae rfl;have y1:Cz I b (o+k*9+1) (Iz q1):=J 1 _ ae rfl;have y2:Cz I b (o+k*9+2) (Iz q2):=J 2 _ ae rfl;have y3:Cz I b (o+k*9+3) (Iz q3):=J 3 _ ae rfl;have y4:Cz I b (o+k*9+4) (Iz q4):=J 4 _ ae rfl;have y5:Cz I b (o+k*9+5) (Iz q5):=J 5 _ ae rfl;have y6:Cz I b (o+k*9+6) (Iz q6):=J 6 _ ae rfl;have y7:Cz I b (o+k*9+7) (Iz q7):=J 7 _ ae rfl;have y8:Cz I b (o+k*9+8) (.string (str q8)):=J 8 _ ae rfl;have i1:(k:Int)<M:=ae;obtain⟨eI,a6⟩:=dF a2 a0;clear hq J cH d6 eV eW eY a2 ek a0 ia
     go_upto_region 17 with(fail)
     clear y0 y1 y2 y3 y4 y5 y6 y7 y8;obtain⟨va,d7⟩:∃v,v=I.alloc (.cells (bN.cells ⟨q0,q1,q2,q3,q4,q5,q6,q7,q8⟩) 35):=⟨_,rfl⟩;obtain⟨gy,d8⟩:∃v,v=I.heap.size:=⟨_,rfl⟩;have Ca:kM va gy ⟨q0,q1,q2,q3,q4,q5,q6,q7,q8⟩:=d7▸d8▸kM.new I _;have Ba:=Zw d7;refine jN d7 ?_;rw[<-d8];have ib:=ao d8;clear d8 d7;have x0:Cz va gy 4 (Iz q4):=Ca.cell 4;have y0:=bN.frozen Ca 4
     go_upto_region 18 with(fail)
     clear x0 y0;obtain⟨eZ,d9⟩:∃v,v=va.setCell ⟨gy,4,none⟩ (Iz (kq*q4)):=⟨_,rfl⟩;have gv:kM eZ gy ⟨q0,q1,q2,q3,kq*q4,q5,q6,q7,q8⟩:=d9▸Ca.WA 4 _ rfl;have e0:Bz I eZ:=d9▸Ba.setCell (bu ib.symm) _;refine jN d9 ?_;clear d9 Ca Ba;obtain⟨x0,x1,x2,x3,x4,x5,x6,x7,x8⟩:=gv.reads;have e3:=dW HB e0;have el:eZ.ownsRow v8.heap.size 35 9 (.slice Ad k cd) k (lF ((cl.take k).map (ZY kq))):=bP HO e0;clear gv e0
     go_wp2_with (at_builtin
                  refine dO VZ el #[Iz q0,Iz q1,Iz q2,Iz q3,Iz (kq*q4),Iz q5,Iz q6,Iz q7, .string (str q8)] rfl _ _ rfl rfl rfl rfl (by intro u hu;exact NT ⟨q0,q1,q2,q3,kq*q4,q5,q6,q7,q8⟩ u hu) ae e3.size ?_;intro A3 c3 w3 eo g3 b3 l3;have B3:=b3 _ _ (af _) e3)
     have ih:Hid (w3.ownsRow v8.heap.size 35 9 (.slice A3 (k+1) c3) (k+1) (lF ((cl.take (k+1)).map (ZY kq)))):=ao (eI.h▸eo);have il:=ao B3;clear el eo g3 b3 l3 B3 x0 x1 x2 x3 x4 x5 x6 x7 x8 e3
     (try go_wp2_with fail)
     go_roundw
     case rel=>exact⟨k+1,A3,c3,a6,rfl,by go_num,ih,il⟩
     case measure=>have:=a6.h;simp[intOf];omega
    ·obtain rfl:k=M:=ae
     have i1:¬(k:Int)<k:=ae;have cm:cl.take k=cl:=aL (EM.h▸af _);have own:=HO.h;rw[cm] at own;obtain⟨dl,cQ⟩:∃x,x=cl.map (ZY kq):=⟨_,rfl⟩;rw[<-cQ] at own;have gA:dl.length=k:=by rw[cQ,br,<-EM.h]
     have gG:∀q∈dl,q.aw<=12000/\q.ky.length<=9223372036854775807:=fun q hq=>by
      rw[cQ] at hq;obtain⟨y,hy,rfl⟩:=aV.1 hq;exact N3 ct y hy
     obtain⟨gI,gO,iF,i3⟩:=mh (dP.O own) gA gG cQ;have Dq:=ei.h.below HB;obtain⟨cn,cS,bU⟩:=fY (gj.below HB) (bP gb HB) (dW ej HB);clear own cm gA gG cQ HO HB a0 ei gj eg ej gb;have z0:Cz I D 0 (.string (str Q.code)):=Dq.cell 0;have z1:Cz I D 1 (.slice ma Q.E.length mc):=Dq.cell 1;have z2:Cz I D 2 (Iz Q.tick):=Dq.cell 2;have z3:Cz I D 3 (Iz Q.low):=Dq.cell 3;have z4:Cz I D 4 (Iz Q.high):=Dq.cell 4;have z5:Cz I D 5 (Iz Q.wide):=Dq.cell 5;have z6:Cz I D 6 (Iz Q.rule):=Dq.cell 6;have z7:Cz I D 7 (Iz Q.top):=Dq.cell 7;have z8:Cz I D 8 (Iz Q.least):=Dq.cell 8;have z9:Cz I D 9 (Iz Q.part):=Dq.cell 9;have b5:Cz I D 10 (.slice As Q.settle.length cs):=Dq.cell 10;clear Dq;go_wp2_with fail;refine(J1 Q ma mc As cs Ad k cd dl I cn gO gI (by rw[gO.h];omega) iF).mono ?_;clear z0 z1 z2 z3 z4 z5 z6 z7 z8 z9 b5;rintro e v10⟨g2,Ab,cb,C2,Gs2,R2,rfl,bf,e4⟩;have bE:=bf.own;have a7:=abY HR ff f9;rw[<-i3.h,<-gi.h,<-EQ.h] at a7;obtain⟨Lb,gP⟩:∃x,x=(runM Q (Mk.new Q) dl).2:=⟨_,rfl⟩;rw[<-gP] at bE a7⊢;have e5:Lb.length=Na:=by rw[eU.h,a7,br]
     rw[e5] at bE⊢;have gR:∀r∈La,zL P r:=fun r hr=>f9.rep (gi.h▸hr);obtain⟨i4,gT,i5,i6⟩:=mh bE a7 gR e5;have i7:Hid (∀j,(Value.slice Aa Na ca).ownBlock=some j->j<I.heap.size):=ao fun j hj=>(cS.lt j hj).2;obtain⟨g4,e6⟩:=dF (bP cS e4) (dW bU e4);clear bE a7 gR e5 bf gP e4 cn gI cS bU;go_wp2_with fail
     go_loopw [19] (fun i wr=> ∃k:Nat,k<=Na/\i= Iz k/\Hid (wr.ownsRow v7.heap.size 40 8 (.slice Aa Na ca) Na (fC (qU (ZL kq) k La)))/\Hid (wr.ownsRow I.heap.size 40 8 (.slice Ab Na cb) Na (fC Lb))/\Hid (Below v7.heap.size v10 wr)) (fun i _=>Na - (intOf i).toNat)
     case atStart=>exact⟨0,aB _,rfl,ao (by rw[Qy];exact g4),i4,ao (aa _ _)⟩
     case round=>
      obtain⟨j,hj,rfl,HO,ea,HB⟩:=hrel;obtain⟨wp,rfl⟩:∃I,I=wr:=⟨_,rfl⟩
      by_cases a0:j<Na
      ·obtain⟨ga,rfl,_,_⟩:=kz HO ae
       have g6:ga<I.heap.size:=i7 ga rfl;have g7:j<La.length:=eU.h▸a0;obtain⟨r,hr⟩:∃r,La[j]?=some r:=⟨_,aj g7⟩;have bf:=i5.h r (aH hr);have hmx:=Vf (f:=(ZL kq)) hr;have J:∀t v,t<8->r.cells[t]?=some v->(fC (qU (ZL kq) j La))[j*8+t]?=some v:=fun t v ht hv=>(ig ir.bG t ht hmx).trans hv;have own:=HO.h;have cT:=ea.h;have cX:fC ((qU (ZL kq) j La).set j {r with ag:=kq*r.ag})=(fC (qU (ZL kq) j La)).set (j*8+4) (Iz (kq*r.ag)):=(tI ir.bG ae hmx rfl).symm;have ep:fC (qU (ZL kq) (j+1) La)=((fC (qU (ZL kq) j La)).set (j*8+4) (Iz (kq*r.ag))):=by
        rw[<-TD (f:=(ZL kq)) hr];exact cX
       obtain⟨r0,r1,r2,r3,r4,r5,r6,r7⟩:=r;have ez: -2000000<=r4/\r4<=2000000:=bf.ag;have fq:0<=r5/\r5<=1000000:=bf.aw;have fx:0<=r6/\r6<=1000000:=bf.left;have nr:=aan (x:=r4) (b:=2000000) bb ae ez;have h4:=J 4 _ ae rfl;have i2:(j:Int)<Na:=ae;obtain⟨i9,a6,g8⟩:=fY ep a0 g6;clear hr bf hmx cX ep J a0 g7 g6 HO ea;have y0:Cz wp ga (j*8+4) (Iz r4):=dI own h4;have f0:=fJ own (j*8+4)
       skip
       go_upto_region 22 with(fail)
       clear y0 f0;obtain⟨e7,c0⟩:∃v,v=wp.setCell ⟨ga,j*8+4,none⟩ (Iz (kq*r4)):=⟨_,rfl⟩;have dc:e7.ownsRow v7.heap.size 40 8 (.slice (some ⟨ga,0,none⟩) Na ca) Na ((fC (qU (ZL kq) j La)).set (j*8+4) (Iz (kq*r4))):=c0▸jM own h4 _;have dp:e7.ownsRow I.heap.size 40 8 (.slice Ab Na cb) Na (fC Lb):=c0▸aX cT fun g hg=>av _ _ _ _ (show g≠ga by have:=(cT.lt g hg).1;have:=g8.h;omega);have g9:Below v7.heap.size v10 e7:=c0▸(HB).setCell ((ju own).1) _;refine jN c0 ?_;clear c0 own cT;obtain⟨hh,hl,BA⟩:=fY dc dp g9;clear dc dp g9;go_wp2_with fail;go_roundw
       case rel=>exact⟨j+1,a6,by go_num,ao (i9.h▸hh),hl,BA⟩
       case measure=>have:=a6.h;simp[intOf];omega
      ·obtain rfl:j=Na:=ae
       have i2:¬(j:Int)<j:=ae;have er:qU (ZL kq) j La=Lb:=gT.h▸eU.h▸TB (ZL kq) La;have own:=HO.h;rw[er] at own;have ho:=dP.O ea;have hz:=dP.O own;have ki:k<=j:=bp;have j0:j<=100000000000:=ae;obtain⟨j1,hB,hC⟩:=fY ho hz (e6.trans (HB.mono h9));clear er own ho hz a0 HO ea;go_wp2_with fail;refine(Th Aa ca Ab cb j Lb wp i6 j0 hB j1).mono ?_;rintro e v11⟨rfl,j2⟩;go_wp2_with fail;refine(Qw v11).mono ?_;rintro e kl⟨rfl,j3⟩;go_wp2_with fail;go_ret;exact⟨rfl,dW (dW hC j2) j3⟩
end Go.Proofs.YtbaaheidifacaaaGreat
