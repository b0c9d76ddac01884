import Derived.Test.YtbaaheidifacaaaGreatQRunXC1
import Derived.Test.YtbaaheidifacaaaGreatQArgsT
import Derived.Test.YtbaaheidifacaaaGreatQLawMorC7
import Derived.Test.YtbaaheidifacaaaGreatQAwk1
set_option linter.defProp false
set_option linter.unusedVariables false
set_option linter.unusedSimpArgs false
set_option maxRecDepth 100000
set_option maxHeartbeats 12800000
namespace Go.Proofs.YtbaaheidifacaaaGreat
variable {A:Option Addr} {L:List ir} {P:PD} {f:ir→ir} {k:Nat} {l:List bN} {r:ir}
open Go.RowKit
theorem rL.Y0 {B:Nat} {w:World} {g:Nat} {C:zt} {Gs R:Nat->Prop} {c:Nat} (h:rL B w g P C Gs R l A c) (D:∀(i:Nat) (y:bN),l[i]?=some y->i<=1000/\wZ P i y):Tl P l:=
 ⟨fun n=>(h.fine n).f,fun n=>(h.fine n).su,D⟩
theorem Qx (D:P.gZ) (l:List bN) (n:Nat) (hn:n<=1000):∀(i:Nat) (y:bN),(js P l n)[i]?=some y->i<=1000/\wZ P i y:=fun i y h=>by
 obtain⟨J,I⟩:=Tk D h;exact⟨ae,I⟩
theorem wZ.run {i:Nat} {c:bN} (h:wZ P i c):c.aw<=12000/\c.ky.length<=9223372036854775807:=⟨cA h.aw,by rw[h.ky];simp⟩
theorem N3 (h:∀(i:Nat) (y:bN),l[i]?=some y->i<=1000/\wZ P i y):∀q∈l,q.aw<=12000/\q.ky.length<=9223372036854775807:=fun q hq=>by
 obtain⟨i,hi,rfl⟩:=kv.1 hq;exact(h i _ (aj hi)).2.run
def qU (f:ir→ir) (k:Nat) (L:List ir):List ir:=(L.take k).map f++L.drop k
theorem Qy (f:ir->ir) (L:List ir):qU f 0 L=L:=by simp[qU]
theorem TB (f:ir->ir) (L:List ir):qU f L.length L=L.map f:=by simp[qU]
theorem TC (f:ir->ir) (k:Nat) (L:List ir):(qU f k L).length=L.length:=by
 unfold qU;rw[aC,br,bJ,cu];omega
theorem Vf (h:L[k]?=some r):(qU f k L)[k]?=some r:=by
 have D:=(az.1 h).1;unfold qU;rw[bK iW];simp only[br,bJ];rw[jH,(ae:k+(k - min k L.length)=k)];exact h
theorem TD (h:L[k]?=some r):(qU f k L).set k (f r)=qU f (k+1) L:=by
 have D:=(az.1 h).1;unfold qU;have e1:(List.map f (L.take k)).length=k:=iW;rw[yX _ _ ae,e1,Vn,bC,h,iB D];rw[show L[k]=r from bW ((aj D).symm.trans h)];simp
theorem ack {k x a b:Int} (D:1<=k/\k<=a) (I:0<=b) (hx: -b<=x/\x<=b): -(a*b)<=k*x/\k*x<=a*b:=by
 have O:k*x<=k*b:=gh hx.2 ae;have J:k* -b<=k*x:=gh hx.1 ae;have h3:k*b<=a*b:=Int.mul_le_mul_of_nonneg_right D.2 I;rw[Int.mul_neg] at J;omega
theorem aan {k x b:Int} (D:1<=k/\k<=1000) (I:0<=b/\b<=1000000000) (hx: -b<=x/\x<=b):IntKind.i64.wrap (k*x)=k*x:=by
 have:=ack D I.1 hx;exact aN _ ae
theorem acm (h:∀(i:Nat) (y:bN),l[i]?=some y->i<=1000/\wZ P i y):∀q∈l,1<=q.aw/\q.aw<=12:=fun q hq=>by
 obtain⟨i,hi,rfl⟩:=kv.1 hq;exact(h i _ (aj hi)).2.aw
theorem abL {k x:Int} (D:1<=k/\k<=1000) (h:1<=x/\x<=12):k*x<=12000:=cA (ack (x:=x) (b:=12) D ae ae)
theorem aab (h:P.gZ):PD.gZ {P with rule:=1}:=
 ⟨h.code,h.n2,h.n6,h.YJ,h.inc,h.BO,h.EH,h.Uh,h.Nr,h.RF,h.KY,h.vI,h.I7,h.lh,h.zl,h.EK,h.E5,by show(1:Int)<=1;omega,by show(1:Int)<=3;omega,h.yB,h.Wt,h.BP,h.KZ,h.Ja,h.Jb⟩
theorem aaH (p:kU) (A:Option Addr) (n c:Nat) (times:Int) (w:World) (h0:p.Ok w) (h1:Commands w A n c) (h2:(Lit.int .i64 times).wf=true):
  Wz 7 #[p.val, .slice A n c,Iz times] w fun e w'=>e= .returned (.bool true)/\Bz w w':=by
 replace h2:=V9 h2;obtain⟨hle,bE,l,rfl,hA,dT⟩:=h1;have hW:l.length<=9223372036854775807:=by unfold maxLen at bE;omega
 have a5:=fun u=>Qh p u h0;obtain⟨P,eP⟩:∃P,P=p.prod:=⟨_,rfl⟩;rw[<-eP] at a5;obtain⟨a6,EP,HA,hU,hV⟩:=rU a5 eP hA dT (And.intro hle bE);clear a5 eP hA dT hle bE h0;obtain⟨pc,gq,mn,gv,gA,gG,gI,gO,gP,gR,gT,g4,g6,g7,g8⟩:=p;simp only[kU.val] at a6⊢;obtain⟨w0,cF⟩:∃v,v=w.alloc (.cells #[.string pc, .slice gq mn gv,Iz gA,Iz gG,Iz gI,Iz gO,Iz gP,Iz gR,Iz gT,Iz g4, .slice g6 g7 g8] 25):=⟨_,rfl⟩;obtain⟨gx,ej⟩:∃v,v=w.heap.size:=⟨_,rfl⟩;have D0:=Zq cF ej;have B0:=Zw cF;have k0:=D0.cell;have cH:=ao B0;clear D0 B0
 go_enter Tryz.func7,Tryz.ntmps7
 go_upto_region 1 with(fail)
 rw[<-cF,<-ej];clear cF ej;go_wp2_with fail;refine(a6 w0).mono ?_;clear k0;rintro e w1⟨ma,mc,sa,sc,rfl,cQ,d2,b1⟩;have HR:=ao cQ.right;simp only[PD.val]
 go_upto_region 2 with(fail)
 obtain⟨w2,bH⟩:∃v,v=w1.alloc (.cells (P.cells ma mc sa sc) 25):=⟨_,rfl⟩;obtain⟨J,bQ⟩:∃v,v=w1.heap.size:=⟨_,rfl⟩;have D2:fM w2 J P ma mc sa sc:=bH▸bQ▸fM.new _ _ _ _ _ _;have B2:=Zw bH;unfold PD.cells at bH;rw[<-bH,<-bQ];obtain⟨g9,hh,eN⟩:=fY D2 (cQ.below B2) (dW (dW cH b1) B2);have hl:Hid (∀q,qP ma q\/qP sa q->w.heap.size<=q/\q<J):=ao fun q hq=>⟨jE (d2 q hq) cH.h.size,bQ▸cQ.Xc q hq⟩;have eO:Hid (w.heap.size<=J):=ao (bQ▸aF cH.size b1.size);clear D2 B2 bH bQ cQ d2 b1 cH a6;have D2:=g9.h;have y6:Cz w2 J 6 (Iz P.rule):=D2.cell 6;have f6:=D2.frozen
 go_upto_region 3 with(fail)
 clear y6 f6;obtain⟨w3,cS⟩:∃v,v=w2.setCell ⟨J,6,none⟩ (Iz 1):=⟨_,rfl⟩;refine jN cS ?_;obtain⟨I,bR⟩:∃I:PD,I={P with rule:=1}:=⟨_,rfl⟩;have eQ:I.gZ:=bR▸aab HR;have eR:I.rule=1:=by rw[bR]
 have D3:fM w3 J I ma mc sa sc:=cS▸bR▸aE.set D2 6 (Iz 1);have B3:Below J w2 w3:=cS▸(aa _ _).setCell (by exact af _) _;have eS:iZ w3 I ma sa:=by
  have h:=hh.h.same (w':=w3) (fun j ho _=>B3.block j (hl j ho).2) B3.size;rw[bR];exact⟨h.m,h.s,aab HR⟩
 have eT:w.heap.size<=J:=by have:=eN.h.size;have:=D2.lt;exact eO
 have eU:Bz w w3:=eN.trans (B3.mono eT);obtain⟨eV,hz,eW,ek,bU⟩:=rU eQ eR D3 eS eU;clear D2 cS eQ eR D3 B3 eS eT eU bR;have eY:=cW times 0 999 ae;obtain⟨kk,el⟩:∃v,v=within times 0 999:=⟨_,rfl⟩;rw[<-el] at eY;have eZ:=ao el;clear el;go_wp2_with fail;refine(dg times 0 999 _ ae ae ae).mono ?_;rw[<-eZ.h];rintro e wq⟨rfl,rfl⟩;obtain⟨kq,eK⟩:∃v,v=1+kk:=⟨_,rfl⟩;have hK:1<=kq/\kq<=1000:=ae
 go_upto_region 4 with(fail)
 rw[<-eK];have bp:=ao hK;clear eY eK hK eZ;have ax:=eW.h;have z0:Cz w3 J 0 (.string (str I.code)):=ax.cell 0;have z1:Cz w3 J 1 (.slice ma I.E.length mc):=ax.cell 1;have z2:Cz w3 J 2 (Iz I.tick):=ax.cell 2;have z3:Cz w3 J 3 (Iz I.low):=ax.cell 3;have z4:Cz w3 J 4 (Iz I.high):=ax.cell 4;have z5:Cz w3 J 5 (Iz I.wide):=ax.cell 5;have z6:Cz w3 J 6 (Iz I.rule):=ax.cell 6;have z7:Cz w3 J 7 (Iz I.top):=ax.cell 7;have z8:Cz w3 J 8 (Iz I.least):=ax.cell 8;have z9:Cz w3 J 9 (Iz I.part):=ax.cell 9;have bV:Cz w3 J 10 (.slice sa I.settle.length sc):=ax.cell 10;go_wp2_with fail;refine(Te I ma mc sa sc A l.length c l 50 w3 ek rfl (HA.below bU) ae).mono ?_;clear z0 z1 z2 z3 z4 z5 z6 z7 z8 z9 bV;rintro e v7⟨Ac,cc,rfl,bb,b7⟩;obtain⟨cl,cT⟩:∃x,x=js I l 50:=⟨_,rfl⟩;rw[<-cT] at bb⊢;have eo:cl.length<=50:=cT▸MA I l 50;have e0:∀(i:Nat) (y:bN),cl[i]?=some y->i<=1000/\wZ I i y:=cT▸Qx eV l 50 ae;obtain⟨M,eM⟩:∃x,x=cl.length:=⟨_,rfl⟩;rw[<-eM] at bb eo⊢;obtain⟨b0,bt,EM,e3,d3,d4⟩:=FW (dP.O bb) e0 eM (ek.below b7) (ax.below b7) (dW bU b7);clear bb e0 eM b7 ax ek eW bU cT;go_wp2_with fail
 go_loopw [10,11] (fun v i wr=> ∃(k:Nat) (Ad:Option Addr) (cd:Nat),k<=M/\v= .slice Ad k cd/\i= Iz k/\Hid (wr.ownsRow v7.heap.size 35 9 (.slice Ad k cd) k (lF ((cl.take k).map (ZM kq))))/\Hid (Bz v7 wr)) (fun _ i _=>M - (intOf i).toNat)
 case atStart=>exact⟨0,none,0,aB _,rfl,rfl,ao (aM _ _ _ _),ao (aa _ _)⟩
 case round=>
  obtain⟨k,Ad,cd,hk,rfl,rfl,HO,HB⟩:=hrel;obtain⟨wo,rfl⟩:∃wo,wo=wr:=⟨_,rfl⟩
  by_cases a2:k<M
  ·obtain⟨b,o,q,rfl,hb,hq,D⟩:=Mv (b0.below HB) (m:=k) (EM.h▸a2)
   have b2:=(bt k q hq).2;have ep:=b2.ag;have er:=b2.aw;have et:=b2.least;have eu:=b2.Y8;have hB:=(bt k q hq).1;have a7:lF ((cl.take (k+1)).map (ZM kq))=lF ((cl.take k).map (ZM kq))++((ZM kq) q).row:=by
    rw[bC,hq];simp[lF]
   obtain⟨q0,q1,q2,q3,q4,q5,q6,q7,q8⟩:=q;have d5:((ZM kq) ⟨q0,q1,q2,q3,q4,q5,q6,q7,q8⟩).row=[Iz q0,Iz q1,Iz q2,Iz q3,Iz q4,Iz (kq*q5),Iz (kq*q6),Iz q7, .string (str q8)]:=rfl;rw[d5] at a7;replace ep: -17000<=q4/\q4<=17000:=ep;replace er:1<=q5/\q5<=12:=er;replace et:0<=q6/\q6<=q5:=et;replace eu:1<=q1/\(q1<=31\/q1=(k:Int)+1):=eu;have nq:=aan (x:=q5) (b:=12) bp ae ae;have nl:=aan (x:=q6) (b:=12) bp ae ae;have y0:Cz wo b (o+k*9) (Iz q0):=D 0 _ ae rfl;have y1:Cz wo b (o+k*9+1) (Iz q1):=D 1 _ ae rfl;have y2:Cz wo b (o+k*9+2) (Iz q2):=D 2 _ ae rfl;have y3:Cz wo b (o+k*9+3) (Iz q3):=D 3 _ ae rfl;have y4:Cz wo b (o+k*9+4) (Iz q4):=D 4 _ ae rfl;have y5:Cz wo b (o+k*9+5) (Iz q5):=D 5 _ ae rfl;have y6:Cz wo b (o+k*9+6) (Iz q6):=D 6 _ ae rfl;have y7:Cz wo b (o+k*9+7) (Iz q7):=D 7 _ ae rfl;have y8:Cz wo b (o+k*9+8) (.string (str q8)):=D 8 _ ae rfl;have i1:(k:Int)<M:=ae;obtain⟨hC,b4⟩:=dF a7 a2;clear hq D b2 ep er et eu a7 d5 a2 hB
   go_upto_region 10 with(fail)
   clear y0 y1 y2 y3 y4 y5 y6 y7 y8;obtain⟨va,cX⟩:∃v,v=wo.alloc (.cells (bN.cells ⟨q0,q1,q2,q3,q4,q5,q6,q7,q8⟩) 35):=⟨_,rfl⟩;obtain⟨gy,c0⟩:∃v,v=wo.heap.size:=⟨_,rfl⟩;have Ca:kM va gy ⟨q0,q1,q2,q3,q4,q5,q6,q7,q8⟩:=cX▸c0▸kM.new wo _;have Ba:=Zw cX;refine jN cX ?_;rw[<-c0];have e4:=ao c0;clear c0 cX;have x0:Cz va gy 5 (Iz q5):=Ca.cell 5;have y0:=bN.frozen Ca 5
   go_upto_region 11 with(fail)
   clear x0 y0;obtain⟨dc,a3⟩:∃v,v=va.setCell ⟨gy,5,none⟩ (Iz (kq*q5)):=⟨_,rfl⟩;have dp:kM dc gy ⟨q0,q1,q2,q3,q4,kq*q5,q6,q7,q8⟩:=a3▸Ca.WA 5 _ rfl;have e5:Bz wo dc:=a3▸Ba.setCell (bu e4.symm) _;refine jN a3 ?_;clear a3 Ca Ba;have x0:Cz dc gy 6 (Iz q6):=dp.cell 6;have y0:=bN.frozen dp 6
   go_upto_region 12 with(fail)
   clear x0 y0;obtain⟨ew,a3⟩:∃v,v=dc.setCell ⟨gy,6,none⟩ (Iz (kq*q6)):=⟨_,rfl⟩;have e6:kM ew gy ⟨q0,q1,q2,q3,q4,kq*q5,kq*q6,q7,q8⟩:=a3▸dp.WA 6 _ rfl;have ey:Bz wo ew:=a3▸e5.setCell (bu e4.symm) _;refine jN a3 ?_;clear a3 dp e5;obtain⟨x0,x1,x2,x3,x4,x5,x6,x7,x8⟩:=e6.reads;have ez:=dW HB ey;have d6:ew.ownsRow v7.heap.size 35 9 (.slice Ad k cd) k (lF ((cl.take k).map (ZM kq))):=bP HO ey;clear e6 ey
   go_wp2_with (at_builtin
                refine dO VZ d6 #[Iz q0,Iz q1,Iz q2,Iz q3,Iz q4,Iz (kq*q5),Iz (kq*q6),Iz q7, .string (str q8)] rfl _ _ rfl rfl rfl rfl (by intro u hu;exact NT ⟨q0,q1,q2,q3,q4,kq*q5,kq*q6,q7,q8⟩ u hu) ae ez.size ?_;intro A3 c3 w3 d7 g3 b3 l3;have B3:=b3 _ _ (af _) ez)
   have hD:Hid (w3.ownsRow v7.heap.size 35 9 (.slice A3 (k+1) c3) (k+1) (lF ((cl.take (k+1)).map (ZM kq)))):=ao (hC.h▸d7);have bU:=ao B3;clear d6 d7 g3 b3 l3 B3 x0 x1 x2 x3 x4 x5 x6 x7 x8 ez
   (try go_wp2_with fail)
   go_roundw
   case rel=>exact⟨k+1,A3,c3,b4,rfl,by go_num,hD,bU⟩
   case measure=>have:=b4.h;simp[intOf];omega
  ·obtain rfl:k=M:=ae
   have i1:¬(k:Int)<k:=ae;have e7:cl.take k=cl:=aL (EM.h▸af _);have own:=HO.h;rw[e7] at own;obtain⟨dl,b5⟩:∃x,x=cl.map (ZM kq):=⟨_,rfl⟩;rw[<-b5] at own;have e9:dl.length=k:=by rw[b5,br,<-EM.h]
   have fa:∀q∈dl,q.aw<=12000/\q.ky.length<=9223372036854775807:=fun q hq=>by
    rw[b5] at hq;obtain⟨y,hy,rfl⟩:=aV.1 hq;exact⟨abL bp (acm bt y hy),(N3 bt y hy).2⟩
   obtain⟨ff,fi,hE,hG⟩:=mh (dP.O own) e9 fa b5;have Dq:=d3.h.below HB;obtain⟨d8,eA,fk,eB⟩:=mh Dq (e3.below HB) (b0.below HB) (dW d4 HB);clear own e7 e9 fa b5 HO HB a2 d3 e3 b0 d4;have z0:Cz wo J 0 (.string (str I.code)):=Dq.cell 0;have z1:Cz wo J 1 (.slice ma I.E.length mc):=Dq.cell 1;have z2:Cz wo J 2 (Iz I.tick):=Dq.cell 2;have z3:Cz wo J 3 (Iz I.low):=Dq.cell 3;have z4:Cz wo J 4 (Iz I.high):=Dq.cell 4;have z5:Cz wo J 5 (Iz I.wide):=Dq.cell 5;have z6:Cz wo J 6 (Iz I.rule):=Dq.cell 6;have z7:Cz wo J 7 (Iz I.top):=Dq.cell 7;have z8:Cz wo J 8 (Iz I.least):=Dq.cell 8;have z9:Cz wo J 9 (Iz I.part):=Dq.cell 9;have bV:Cz wo J 10 (.slice sa I.settle.length sc):=Dq.cell 10;clear Dq;go_wp2_with fail;refine(J1 I ma mc sa sc Ac k cc cl wo eA EM.symm fk (by rw[<-EM.h];omega) (N3 bt)).mono ?_;clear z0 z1 z2 z3 z4 z5 z6 z7 z8 z9 bV;rintro e v9⟨g,Aa,ca,C,Gs,R,rfl,b6,b9⟩;have fq:=b6.Y0 bt;have bc:=b6.pos;have hlen:=b6.len;have bf:=b6.own;obtain⟨La,eC⟩:∃x,x=(runM I (Mk.new I) cl).2:=⟨_,rfl⟩;rw[<-eC] at bf bc hlen⊢;obtain⟨Na,eD⟩:∃x,x=La.length:=⟨_,rfl⟩;rw[<-eD] at bf bc hlen⊢;rw[<-EM.h] at bc hlen;obtain⟨fx,b8,fz,eE⟩:=mh fq bf eC eD;have Dq:=d8.h.below b9;obtain⟨d9,ea,eb,hH⟩:=mh (eA.below b9) (ff.below b9) (dW eB b9) eB.size;clear fq bf eC eD b6 b9 eA ff eB fk d8;have z0:Cz v9 J 0 (.string (str I.code)):=Dq.cell 0;have z1:Cz v9 J 1 (.slice ma I.E.length mc):=Dq.cell 1;have z2:Cz v9 J 2 (Iz I.tick):=Dq.cell 2;have z3:Cz v9 J 3 (Iz I.low):=Dq.cell 3;have z4:Cz v9 J 4 (Iz I.high):=Dq.cell 4;have z5:Cz v9 J 5 (Iz I.wide):=Dq.cell 5;have z6:Cz v9 J 6 (Iz I.rule):=Dq.cell 6;have z7:Cz v9 J 7 (Iz I.top):=Dq.cell 7;have z8:Cz v9 J 8 (Iz I.least):=Dq.cell 8;have z9:Cz v9 J 9 (Iz I.part):=Dq.cell 9;have bV:Cz v9 J 10 (.slice sa I.settle.length sc):=Dq.cell 10;clear Dq;go_wp2_with fail;refine(J1 I ma mc sa sc Ad k cd dl v9 d9 fi ea (by rw[fi.h];omega) hE).mono ?_;clear z0 z1 z2 z3 z4 z5 z6 z7 z8 z9 bV;rintro e v10⟨g2,Ab,cb,C2,Gs2,R2,rfl,a8,eF⟩;have bh:=a8.own;have a4:=abK eV hz bp fx;rw[<-hG.h,<-fz.h] at a4;obtain⟨Lb,fH⟩:∃x,x=(runM I (Mk.new I) dl).2:=⟨_,rfl⟩;rw[<-fH] at bh a4⊢;have eG:Lb.length=Na:=by rw[eE.h,a4,br]
   rw[eG] at bh⊢;have fT:∀r∈La,zL I r:=fun r hr=>fx.rep (fz.h▸hr);obtain⟨hI,f1,hJ,hL⟩:=mh bh a4 fT eG;have hM:Hid (∀j,(Value.slice Aa Na ca).ownBlock=some j->j<v9.heap.size):=ao fun j hj=>(b8.lt j hj).2;obtain⟨f2,eI⟩:=dF (bP b8 eF) (dW eb eF);clear bh a4 fT eG a8 fH eF d9 ea b8 eb;go_wp2_with fail
   go_loopw [17] (fun i wr=> ∃k:Nat,k<=Na/\i= Iz k/\Hid (wr.ownsRow wo.heap.size 40 8 (.slice Aa Na ca) Na (fC (qU (Cc kq) k La)))/\Hid (wr.ownsRow v9.heap.size 40 8 (.slice Ab Na cb) Na (fC Lb))/\Hid (Below wo.heap.size v10 wr)) (fun i _=>Na - (intOf i).toNat)
   case atStart=>exact⟨0,aB _,rfl,ao (by rw[Qy];exact f2),hI,ao (aa _ _)⟩
   case round=>
    obtain⟨j,hj,rfl,HO,dS,HB⟩:=hrel;obtain⟨wp,rfl⟩:∃wo,wo=wr:=⟨_,rfl⟩
    by_cases a2:j<Na
    ·obtain⟨ga,rfl,_,_⟩:=kz HO ae
     have f3:ga<v9.heap.size:=hM ga rfl;have eJ:j<La.length:=eE.h▸a2;obtain⟨r,hr⟩:∃r,La[j]?=some r:=⟨_,aj eJ⟩;have a8:=hJ.h r (aH hr);have hmx:=Vf (f:=(Cc kq)) hr;have D:∀t v,t<8->r.cells[t]?=some v->(fC (qU (Cc kq) j La))[j*8+t]?=some v:=fun t v ht hv=>(ig ir.bG t ht hmx).trans hv;have own:=HO.h;have cf:=dS.h;have ck:fC ((qU (Cc kq) j La).set j {r with aw:=kq*r.aw})=(fC (qU (Cc kq) j La)).set (j*8+5) (Iz (kq*r.aw)):=(tI ir.bG ae hmx rfl).symm;have ed:((qU (Cc kq) j La).set j {r with aw:=kq*r.aw})[j]?=some {r with aw:=kq*r.aw}:=aD (by rw[TC];exact eJ);have cm:fC (((qU (Cc kq) j La).set j {r with aw:=kq*r.aw}).set j {r with aw:=kq*r.aw,left:=kq*r.left})=(fC ((qU (Cc kq) j La).set j {r with aw:=kq*r.aw})).set (j*8+6) (Iz (kq*r.left)):=(tI ir.bG ae ed rfl).symm;have ef:fC (qU (Cc kq) (j+1) La)=(((fC (qU (Cc kq) j La)).set (j*8+5) (Iz (kq*r.aw))).set (j*8+6) (Iz (kq*r.left))):=by
      rw[<-TD (f:=(Cc kq)) hr];rw[<-ck,<-cm,List.set_set];rfl
     obtain⟨r0,r1,r2,r3,r4,r5,r6,r7⟩:=r;have hX: -2000000<=r4/\r4<=2000000:=a8.ag;have hY:0<=r5/\r5<=1000000:=a8.aw;have h3:0<=r6/\r6<=1000000:=a8.left;have nr:=aan (x:=r5) (b:=1000000) bp ae ae;have nm:=aan (x:=r6) (b:=1000000) bp ae ae;have h5:=D 5 _ ae rfl;have h6:=D 6 _ ae rfl;have i2:(j:Int)<Na:=ae;obtain⟨hN,b4,eg⟩:=fY ef a2 f3;clear hr a8 hmx ck cm ed ef D a2 eJ f3 HO dS;have y0:Cz wp ga (j*8+5) (Iz r5):=dI own h5;have f0:=fJ own (j*8+5)
     skip
     go_upto_region 19 with(fail)
     clear y0 f0;obtain⟨cn,ay⟩:∃v,v=wp.setCell ⟨ga,j*8+5,none⟩ (Iz (kq*r5)):=⟨_,rfl⟩;have a0:cn.ownsRow wo.heap.size 40 8 (.slice (some ⟨ga,0,none⟩) Na ca) Na ((fC (qU (Cc kq) j La)).set (j*8+5) (Iz (kq*r5))):=ay▸jM own h5 _;have ba:cn.ownsRow v9.heap.size 40 8 (.slice Ab Na cb) Na (fC Lb):=ay▸aX cf fun g hg=>av _ _ _ _ (show g≠ga by have:=(cf.lt g hg).1;have:=eg.h;omega);have f4:Below wo.heap.size v10 cn:=ay▸(HB).setCell ((ju own).1) _;refine jN ay ?_;replace h6:((fC (qU (Cc kq) j La)).set (j*8+5) (Iz (kq*r5)))[j*8+6]?=some (Iz r6):=by rw[aZ ae];exact h6
     clear ay own cf;have y0:Cz cn ga (j*8+6) (Iz r6):=dI a0 h6;have f0:=fJ a0 (j*8+6)
     skip
     go_upto_region 17 with(fail)
     clear y0 f0;obtain⟨eL,ay⟩:∃v,v=cn.setCell ⟨ga,j*8+6,none⟩ (Iz (kq*r6)):=⟨_,rfl⟩;have ct:eL.ownsRow wo.heap.size 40 8 (.slice (some ⟨ga,0,none⟩) Na ca) Na (((fC (qU (Cc kq) j La)).set (j*8+5) (Iz (kq*r5))).set (j*8+6) (Iz (kq*r6))):=ay▸jM a0 h6 _;have cv:eL.ownsRow v9.heap.size 40 8 (.slice Ab Na cb) Na (fC Lb):=ay▸aX ba fun g hg=>av _ _ _ _ (show g≠ga by have:=(ba.lt g hg).1;have:=eg.h;omega);have f5:Below wo.heap.size v10 eL:=ay▸(f4).setCell ((ju a0).1) _;refine jN ay ?_;clear ay a0 ba f4;obtain⟨f7,f8,BA⟩:=fY ct cv f5;clear ct cv f5;go_wp2_with fail;go_roundw
     case rel=>exact⟨j+1,b4,by go_num,ao (hN.h▸f7),f8,BA⟩
     case measure=>have:=b4.h;simp[intOf];omega
    ·obtain rfl:j=Na:=ae
     have i2:¬(j:Int)<j:=ae;have ei:qU (Cc kq) j La=Lb:=f1.h▸eE.h▸TB (Cc kq) La;have own:=HO.h;rw[ei] at own;have f9:=dP.O dS;have gb:=dP.O own;have h4:k<=j:=bc;have hO:j<=100000000000:=ae;obtain⟨hP,gi,gj⟩:=fY f9 gb (eI.trans (HB.mono hH));clear ei own f9 gb a2 HO dS;go_wp2_with fail;refine(Th Aa ca Ab cb j Lb wp hL hO gi hP).mono ?_;rintro e v11⟨rfl,hQ⟩;go_wp2_with fail;refine(Qw v11).mono ?_;rintro e h7⟨rfl,hT⟩;go_wp2_with fail;go_ret;exact⟨rfl,dW (dW gj hQ) hT⟩
end Go.Proofs.YtbaaheidifacaaaGreat
