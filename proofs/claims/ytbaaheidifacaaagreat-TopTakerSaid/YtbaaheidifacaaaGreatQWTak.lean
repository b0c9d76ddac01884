import Derived.Test.YtbaaheidifacaaaGreatQArgsTC9
import Derived.Test.YtbaaheidifacaaaGreatQTamPC9
import Derived.Test.YtbaaheidifacaaaGreatQAwk1
set_option linter.defProp false
set_option linter.unusedVariables false
set_option linter.unusedSimpArgs false
set_option maxRecDepth 100000
set_option maxHeartbeats 12800000
namespace Go.Proofs.YtbaaheidifacaaaGreat
variable {A:Option Addr} {B c g j:Nat} {C:zt} {Gs R:Nat→Prop} {L:List ir} {P:PD} {e8:List UInt8} {id inst:Int} {l:List bN} {r:ir} {w:World}
open Go.RowKit
theorem acO {D:Nat} {w':World} (e:B=D) (h:Below B w w'):Below D w w':=e▸h
theorem rL.Y0 (h:rL B w g P C Gs R l A c) (D:∀(i:Nat) (y:bN),l[i]?=some y->i<=1000/\wZ P i y):Tl P l:=
 ⟨fun n=>(h.fine n).f,fun n=>(h.fine n).su,D⟩
theorem Qx (D:P.gZ) (l:List bN) (n:Nat) (hn:n<=1000):∀(i:Nat) (y:bN),(js P l n)[i]?=some y->i<=1000/\wZ P i y:=fun i y h=>by
 obtain⟨J,I⟩:=Tk D h;exact⟨ae,I⟩
theorem N3 (h:∀(i:Nat) (y:bN),l[i]?=some y->i<=1000/\wZ P i y):∀q∈l,q.aw<=12000/\q.ky.length<=9223372036854775807:=fun q hq=>by
 obtain⟨i,hi,rfl⟩:=kv.1 hq;exact(h i _ (aj hi)).2.ab0
theorem rL.mkf (h:rL B w g P C Gs R l A c):MkL B w g P C Gs R (runM P (Mk.new P) l).1 l.length:=
 ⟨h.ZC,fun j D I=>cA (h.lo j D),h.un⟩
theorem acf (pv:kU) (hP:pv.prod.gZ) {e1 e2 e3 e4 e5 e6 e7:Int} {y:bN} (J:y=rB pv.prod ⟨0,e1,e2,e3,e4,e5,e6,e7,e8⟩ 60):
  y.kind=1/\y.id=61/\dx ⟨1,61,y.inst,y.side,y.ag,y.aw,0,2,y.ky⟩=0/\pv.prod.oY y.inst y.ag=0/\(1<=y.aw/\y.aw<=12)/\y.ky=[]/\(y.side=1\/y.side=2):=by
 have D:=U5 hP ⟨0,e1,e2,e3,e4,e5,e6,e7,e8⟩ 60;have O:y.kind=1/\y.id=61:=by
  rw[J];unfold rB;simp only;rw[if_pos (.inl rfl)];exact⟨rfl,rfl⟩
 have hw:pv.prod.oY y.inst y.ag=0:=by
  rw[J];have I:=O.1;rw[J] at I;refine abV hP ?_ ?_ I
  ·have:=cW pv.ti 0 9 ae;omega
  ·have:=cW pv.wi 0 60 ae;omega
 rw[<-J] at D;have hc:=hP.cnt;have h1:=D.inst;have h2:=D.side O.1;have h3:=D.ag;have h4:=D.aw;exact⟨O.1,O.2,Mx ⟨ae,ae⟩ ⟨ae,ae⟩ h2 ⟨ae,ae⟩ ⟨ae,ae⟩ ⟨ae,ae⟩ ⟨ae,ae⟩ (.inl D.ky),hw,h4,D.ky,h2⟩
theorem aak (h:L[j]?=some r):Bb id inst (L.take (j+1))=Bb id inst (L.take j)+Qz id inst r:=by
 rw[bC,h,ZU];simp[Bb]
theorem abg (h:L[j]?=some r):Cb id 0 (L.take (j+1))=if r.id=id/\r.kind=4 then r.aw else Cb id 0 (L.take j):=by
 rw[bC,h,Z8];rfl
theorem acg (h:∀r∈L,zL P r) (j:Nat) (D:j<=L.length):0<=Bb id inst (L.take j)/\Bb id inst (L.take j)<=1000000*j:=by
 induction j with
 |zero=>simp[Bb]
 |succ j I=>
  have J:j<L.length:=D;obtain⟨r,hr⟩:∃r,L[j]?=some r:=⟨_,aj J⟩;have hq:=(h r (aH hr)).aw;have hi:=I ae;rw[aak hr];have:0<=Qz id inst r/\Qz id inst r<=1000000:=by
   unfold Qz
   split
   ·exact hq
   ·exact⟨cM _,ae⟩
  omega
theorem aaJ (p:kU) (A:Option Addr) (n c:Nat) (last:aav) (w:World) (h0:p.Ok w) (h1:Commands w A n c) (h2:last.Ok w):
  Wz 13 #[p.val, .slice A n c,last.val] w fun e w'=>e= .returned (.bool true)/\Bz w w':=by
 obtain⟨hle,d3,l,rfl,hA,eW⟩:=h1;have kx:l.length<=9223372036854775807:=by unfold maxLen at d3;omega
 have bH:=fun u=>Qh p u h0;obtain⟨P,eP⟩:∃P,P=p.prod:=⟨_,rfl⟩;rw[<-eP] at bH;obtain⟨bQ,EP,HA,kl,kn⟩:=rU bH eP hA eW (And.intro hle d3);clear bH eP hA eW hle d3 h0;obtain⟨pc,cm,mn,cn,ct,cv,cF,cH,cQ,cS,cT,cX,c0,dc,dp⟩:=p;obtain⟨e0,e1,e2,e3,e4,e5,e6,e7,e8⟩:=last;simp only[kU.val,bN.val,bN.cells] at bQ⊢;obtain⟨w0,d4⟩:∃v,v=(w.alloc (.cells #[.string pc, .slice cm mn cn,Iz ct,Iz cv,Iz cF,Iz cH,Iz cQ,Iz cS,Iz cT,Iz cX, .slice c0 dc dp] 25)).alloc (.cells #[Iz e0,Iz e1,Iz e2,Iz e3,Iz e4,Iz e5,Iz e6,Iz e7, .string (str e8)] 35):=⟨_,rfl⟩;obtain⟨gx,d5⟩:∃v,v=w.heap.size:=⟨_,rfl⟩;obtain⟨gl,ek⟩:∃v,v=gx+1:=⟨_,rfl⟩;have fz:kM w0 gl ⟨e0,e1,e2,e3,e4,e5,e6,e7,e8⟩:=by rw[d4,ek,d5,show w.heap.size+1=(w.alloc (.cells #[.string pc, .slice cm mn cn,Iz ct,Iz cv,Iz cF,Iz cH,Iz cQ,Iz cS,Iz cT,Iz cX, .slice c0 dc dp] 25)).heap.size by simp];exact kM.new _ ⟨e0,e1,e2,e3,e4,e5,e6,e7,e8⟩
 have D0:aE w0 gx 25 #[.string pc, .slice cm mn cn,Iz ct,Iz cv,Iz cF,Iz cH,Iz cQ,Iz cS,Iz cT,Iz cX, .slice c0 dc dp]:=by rw[d4,d5];exact(aE.new _ _ _:aE (w.alloc (.cells #[.string pc, .slice cm mn cn,Iz ct,Iz cv,Iz cF,Iz cH,Iz cQ,Iz cS,Iz cT,Iz cX, .slice c0 dc dp] 25)) w.heap.size _ _).below (au (aa _ _) _)
 have B0:Bz w w0:=by rw[d4];exact au (au (aa _ _) _) _
 have k0:Cz w0 gx 0 (.string pc):=D0.cell 0;have k1:Cz w0 gx 1 (.slice cm mn cn):=D0.cell 1;have k2:Cz w0 gx 2 (Iz ct):=D0.cell 2;have k3:Cz w0 gx 3 (Iz cv):=D0.cell 3;have k4:Cz w0 gx 4 (Iz cF):=D0.cell 4;have k5:Cz w0 gx 5 (Iz cH):=D0.cell 5;have k6:Cz w0 gx 6 (Iz cQ):=D0.cell 6;have k7:Cz w0 gx 7 (Iz cS):=D0.cell 7;have k8:Cz w0 gx 8 (Iz cT):=D0.cell 8;have k9:Cz w0 gx 9 (Iz cX):=D0.cell 9;have il:Cz w0 gx 10 (.slice c0 dc dp):=D0.cell 10;have el:=ao B0;clear D0 B0
 go_enter Tryz.func13,Tryz.ntmps13
 go_upto_region 1 with(fail)
 rw[<-d4,<-d5,<-ek];have gR:Hid (w.heap.size<=gl):=ao (by rw[ek,d5];exact qX _);have d6:Hid (gl<w0.heap.size):=ao fz.lt;clear d4 d5 ek;go_wp2_with fail;refine(bQ.h w0).mono ?_;clear k0 k1 k2 k3 k4 k5 k6 k7 k8 k9 il;rintro e w1⟨ma,mc,sa,sc,rfl,eo,d7,b1⟩;have HR:=ao eo.right;simp only[PD.val]
 go_upto_region 2 with(fail)
 obtain⟨w2,d8⟩:∃v,v=w1.alloc (.cells (P.cells ma mc sa sc) 25):=⟨_,rfl⟩;obtain⟨gp,dS⟩:∃v,v=w1.heap.size:=⟨_,rfl⟩;have D2:fM w2 gp P ma mc sa sc:=by rw[d8,dS];exact fM.new _ _ _ _ _ _
 have B2:=Zw d8;unfold PD.cells at d8;rw[<-d8,<-dS];obtain⟨iF,gT,fH,ep⟩:=mh ((fz.below b1).below B2) D2 (eo.below B2) (dW (dW el.h b1) B2);have i4:Hid (∀q,qP ma q\/qP sa q->w.heap.size<=q/\q<gp):=ao fun q hq=>⟨jE (d7 q hq) el.h.size,by rw[dS];exact eo.Xc q hq⟩;have eY:Hid (gl<gp):=ao (by rw[dS];exact aA d6.h b1.size);have g3:Hid (∀q,qP ma q\/qP sa q->gl<q):=ao fun q hq=>aA d6.h (d7 q hq);have kr:Hid (w.heap.size<=gp):=ao (by rw[dS];exact aF el.h.size b1.size);clear fz D2 B2 d8 dS d6 eo d7 b1 el bQ;have D2:=gT.h;obtain⟨B,eB⟩:∃B,B=w2.heap.size:=⟨_,rfl⟩;have ax:gp<B:=by rw[eB];exact D2.lt
 have z0:∀u,Below B w2.drew u->Cz u gp 0 (.string (str P.code)):=fun u hu=>Yb hu ax (D2.cell 0);have z1:∀u,Below B w2.drew u->Cz u gp 1 (.slice ma P.E.length mc):=fun u hu=>Yb hu ax (D2.cell 1);have z2:∀u,Below B w2.drew u->Cz u gp 2 (Iz P.tick):=fun u hu=>Yb hu ax (D2.cell 2);have z3:∀u,Below B w2.drew u->Cz u gp 3 (Iz P.low):=fun u hu=>Yb hu ax (D2.cell 3);have z4:∀u,Below B w2.drew u->Cz u gp 4 (Iz P.high):=fun u hu=>Yb hu ax (D2.cell 4);have z5:∀u,Below B w2.drew u->Cz u gp 5 (Iz P.wide):=fun u hu=>Yb hu ax (D2.cell 5);have z6:∀u,Below B w2.drew u->Cz u gp 6 (Iz P.rule):=fun u hu=>Yb hu ax (D2.cell 6);have z7:∀u,Below B w2.drew u->Cz u gp 7 (Iz P.top):=fun u hu=>Yb hu ax (D2.cell 7);have z8:∀u,Below B w2.drew u->Cz u gp 8 (Iz P.least):=fun u hu=>Yb hu ax (D2.cell 8);have z9:∀u,Below B w2.drew u->Cz u gp 9 (Iz P.part):=fun u hu=>Yb hu ax (D2.cell 9);have fT:∀u,Below B w2.drew u->Cz u gp 10 (.slice sa P.settle.length sc):=fun u hu=>Yb hu ax (D2.cell 10);obtain⟨d9,f1⟩:=dF eB ax;clear eB ax D2;refine Zb B 99999 [3,4] [0,1,2,3,4,5,6,7,8,9] ?_;refine Yt ?_;clear z0 z1 z2 z3 z4 z5 z6 z7 z8 z9 fT;refine Ym fun K hK=>?_;refine(Te P ma mc sa sc A l.length c l 40 w2.drew fH.h.drew rfl ((HA.h.below ep.h).drew) ae).mono ?_;rintro e v7⟨Ac,cc,rfl,b4,b7⟩;obtain⟨cl,er⟩:∃x,x=js P l 40:=⟨_,rfl⟩;rw[<-er] at b4⊢;have bR:cl.length<=40:=by rw[er];exact MA P l 40
 have g4:∀(i:Nat) (y:bN),cl[i]?=some y->i<=1000/\wZ P i y:=by rw[er];exact Qx HR.h l 40 ae
 obtain⟨M,eM⟩:∃x,x=cl.length:=⟨_,rfl⟩;rw[<-eM] at b4 bR⊢;have g6:=dP.O b4;have g7:=fH.h.drew.below b7;have g8:Below B w2 v7:=by rw[d9.h];exact(aa _ w2).drew.trans b7
 obtain⟨e9,f2,EM,g9,f3,b5⟩:=FW g6 g4 eM g7 g8 bR;refine Yo hK (b7.mono (bu d9.h)) ?_;clear b4 g6 g4 eM g7 er bR g8 b7;refine Ym fun K hK=>?_;refine(J1 P ma mc sa sc Ac M cc cl v7 g9.h EM.h.symm e9.h (by rw[<-EM.h];have:=b5.h;omega) (N3 f2.h)).mono ?_;rintro e v8⟨g,Aa,ca,C,Gs,R,rfl,f4,b8⟩;have et:B<=v7.heap.size:=by rw[d9.h];exact f3.h.size
 refine Yo hK (b8.mono et) ?_;refine Yt ?_;refine aT ?_;have f5:=f4.Y0 f2.h;have dT:=f4.mkf;have b6:=aay f5;have f8:=dT.ZC.V2;have bU:(runM P (Mk.new P) cl).1.used 61=false:=by
  cases hu:(runM P (Mk.new P) cl).1.used 61 with
  |false=>rfl
  |true=>
   obtain⟨y,hy,he⟩:=f5.used (n:=cl.length) (y:=61) (by rw[dE];exact hu);obtain⟨i,hi,rfl⟩:=kv.1 hy;have h1:=(f2.h i _ (aj hi)).2.Y8;have:=b5.h;have:=EM.h;omega
 obtain⟨m,em⟩:∃x,x=(runM P (Mk.new P) cl).1:=⟨_,rfl⟩;rw[<-em] at dT b6 f8 bU;rw[<-EM.h] at dT b6;have bV:Below B w2 v8:=f3.h.trans (b8.mono et);have eu:kM v8 gl ⟨e0,e1,e2,e3,e4,e5,e6,e7,e8⟩:=iF.h.below (acO d9.h bV);obtain⟨i5,hh,ew,ea,lf,lg⟩:=FW dT b6 f8 bU bV et;have x0:Cz v8 gl 0 (Iz e0):=eu.cell 0;have f0:=bN.frozen eu 0;obtain⟨v9,b0⟩:∃v,v=v8.setCell ⟨gl,0,none⟩ (Iz 0):=⟨_,rfl⟩;have hk:kM v9 gl ⟨0,e1,e2,e3,e4,e5,e6,e7,e8⟩:=by rw[b0];exact eu.WA 0 _ rfl
 have f9:∀q,q≠gl->v9.heap[q]?=v8.heap[q]?:=fun q hq=>by rw[b0];exact av _ _ _ _ hq
 have hl:Lv (fun q=>q=gl) v8 v9:=by rw[b0];exact(Lv.refl (fun q=>q=gl) v8).setCell (p:=⟨gl,0,none⟩) rfl _
 have ho:Bz w v9:=by rw[b0];exact(ep.h.trans (bV.mono (by rw[d9.h];exact ep.h.size))).setCell gR.h _
 have D9:fM v9 gp P ma mc sa sc:=gT.h.block ((f9 gp (cA eY.h)).trans (bV.block gp f1.h));have hz:iZ v9 P ma sa:=fH.h.same (fun j hj _=>(f9 j (cA (g3.h j hj))).trans (bV.block j (jE ((i4.h j hj).2) f1.h))) (by have:=bV.size;rw[b0];simpa using this);have fa:MkL v7.heap.size v9 g P C Gs R m M:=dT.lv hl fun j hj=>by rw[hj];have:=eY.h;have:=f1.h;omega
 obtain⟨i6,gb,i7,i9,cf,j0⟩:=FW hk ho D9 hz fa b0;clear f5 f4 dT b6 f8 bU em bV eu hk f9 hl ho D9 hz fa b0 b8 et i5 e9 g9
 go_upto_region 6 with(fail)
 refine jN j0.h ?_;clear x0 f0;have Dp:=i7.h;have z0:Cz v9 gp 0 (.string (str P.code)):=Dp.cell 0;have z1:Cz v9 gp 1 (.slice ma P.E.length mc):=Dp.cell 1;have z2:Cz v9 gp 2 (Iz P.tick):=Dp.cell 2;have z3:Cz v9 gp 3 (Iz P.low):=Dp.cell 3;have z4:Cz v9 gp 4 (Iz P.high):=Dp.cell 4;have z5:Cz v9 gp 5 (Iz P.wide):=Dp.cell 5;have z6:Cz v9 gp 6 (Iz P.rule):=Dp.cell 6;have z7:Cz v9 gp 7 (Iz P.top):=Dp.cell 7;have z8:Cz v9 gp 8 (Iz P.least):=Dp.cell 8;have z9:Cz v9 gp 9 (Iz P.part):=Dp.cell 9;have fT:Cz v9 gp 10 (.slice sa P.settle.length sc):=Dp.cell 10;obtain⟨x0,x1,x2,x3,x4,x5,x6,x7,x8⟩:=i6.h.reads;clear Dp;go_wp2_with fail;refine(Pj P ma mc sa sc ⟨0,e1,e2,e3,e4,e5,e6,e7,e8⟩ 60 v9 i9.h ae).mono ?_;clear z0 z1 z2 z3 z4 z5 z6 z7 z8 z9 fT;clear x0 x1 x2 x3 x4 x5 x6 x7 x8;rintro e va⟨rfl,ba⟩;obtain⟨y,ey⟩:∃y,y=rB P ⟨0,e1,e2,e3,e4,e5,e6,e7,e8⟩ 60:=⟨_,rfl⟩;rw[<-ey];have gi:=(U5 HR.h ⟨0,e1,e2,e3,e4,e5,e6,e7,e8⟩ 60).inst;rw[<-ey] at gi;have ht:=acf ⟨pc,cm,mn,cn,ct,cv,cF,cH,cQ,cS,cT,cX,c0,dc,dp⟩ (by rw[<-EP.h];exact HR.h) (y:=y) (by rw[<-EP.h];exact ey);rw[<-EP.h] at ht;obtain⟨y0,y1,y2,y3,y4,y5,y6,y7,y8⟩:=y;simp only at ht gi;obtain⟨rfl,rfl,hB,hC,hD,j1,j2⟩:=ht;subst j1;obtain⟨X,rfl⟩:∃X:Nat,y2=(X:Int):=⟨y2.toNat,ae⟩;obtain⟨ks,eK,hK⟩:∃k:Nat,y3=(k:Int)+1/\k<2:=⟨(y3 - 1).toNat,ae,ae⟩;have hE:X<P.count:=ae;obtain⟨hH,hI,ez,hJ,HK,eA⟩:=FW hB hC hD hE (And.intro eK hK) ba;clear hB hC hD j2 gi hE eK hK ey ba;simp only[bN.val,bN.cells]
 go_upto_region 7 with(fail)
 obtain⟨vb,eC⟩:∃v,v=va.alloc (.cells (bN.cells ⟨1,61,(X:Int),y3,y4,y5,y6,y7,[]⟩) 35):=⟨_,rfl⟩;obtain⟨gt,eb⟩:∃v,v=va.heap.size:=⟨_,rfl⟩;have eD:kM vb gt ⟨1,61,(X:Int),y3,y4,y5,y6,y7,[]⟩:=by rw[eC,eb];exact kM.new va _
 have bb:Below gt va vb:=by rw[eC,eb];exact au (aa _ _) _
 refine jN eC ?_;rw[<-eb];have eE:=ao eb;clear eC eb;have x7:Cz vb gt 7 (Iz y7):=eD.cell 7;have f7:=bN.frozen eD 7
 go_upto_region 8 with(fail)
 clear x7 f7;obtain⟨vc,eI⟩:∃v,v=vb.setCell ⟨gt,7,none⟩ (Iz 2):=⟨_,rfl⟩;have eJ:kM vc gt ⟨1,61,(X:Int),y3,y4,y5,y6,2,[]⟩:=by rw[eI];exact eD.WA 7 _ rfl
 have bc:Below gt va vc:=by rw[eI];exact bb.setCell (by exact af _) _
 refine jN eI ?_;clear eI eD bb;have x6:Cz vc gt 6 (Iz y6):=eJ.cell 6;have f6:=bN.frozen eJ 6
 go_upto_region 9 with(fail)
 clear x6 f6;obtain⟨vd,eO⟩:∃v,v=vc.setCell ⟨gt,6,none⟩ (Iz 0):=⟨_,rfl⟩;have a6:kM vd gt ⟨1,61,(X:Int),y3,y4,y5,0,2,[]⟩:=by rw[eO];exact eJ.WA 6 _ rfl
 have bd:Below gt va vd:=by rw[eO];exact bc.setCell (by exact af _) _
 refine jN eO ?_;clear eO eJ bc;have j3:v7.heap.size<=v9.heap.size:=by have:=gb.h.size;have h:=cf.h.ZC.b.D.lt;have:=cf.h.lo g (.inl rfl);omega
 obtain⟨F,eF⟩:∃F:Nat->Prop,F=fun j=>j<v7.heap.size\/j=gt:=⟨_,rfl⟩;have hL:cC F vd g P C Gs R m M:=by
  refine((cf.h.below eA.h).more (F':=F) fun j hj=>?_).below (acO eE.h bd);rw[eF] at hj;rcases hj with h|h
  ·exact .inl h
  ·rw[h,eE.h];exact .inr (af _)
 have ff:∀j,F j->j<vd.heap.size:=fun j hj=>by
  rw[eF] at hj;have:=a6.lt;have:=eE.h;have:=eA.h.size;have:=bd.size;rcases hj with h|h<;>omega
 have hM:F gt:=by rw[eF];exact .inr rfl
 have hO:∀j,j<v7.heap.size->F j:=fun j h=>by rw[eF];exact .inl h
 have hP:Bz w vd:=dW (dW gb.h eA.h) (acO eE.h bd);obtain⟨Z,eZ⟩:∃v,v=vd.heap.size:=⟨_,rfl⟩;have bp:gt<Z:=by rw[eZ];exact a6.lt
 have a2:∀u,Below Z vd.drew u->Cz u gt 2 (Iz (X:Int)):=fun u hu=>Yb hu bp (a6.cell 2);have a3:∀u,Below Z vd.drew u->Cz u gt 3 (Iz y3):=fun u hu=>Yb hu bp (a6.cell 3);have a4:∀u,Below Z vd.drew u->Cz u gt 4 (Iz y4):=fun u hu=>Yb hu bp (a6.cell 4);have a5:∀u,Below Z vd.drew u->Cz u gt 5 (Iz y5):=fun u hu=>Yb hu bp (a6.cell 5);obtain⟨hQ,gj,fi,hT,j4,hU,EZ⟩:=yY a6 hL ff hM hO hP eZ;clear a6 hL ff hM hO hP eZ bp eF j3 bd cf eA gb;refine Zb Z 99999 [1,10] [0,2,3,4,5,6,7,8,9,1,10,11] ?_;refine Yt ?_;clear a2 a3 a4 a5;refine Ym fun K hK=>?_;refine(Z5 g P m Gs R C vd.drew (gj.h.below (below_drewN (aa _ vd) 1)).ZC).mono ?_;rintro e ve⟨s',G',R',rfl,ed,gq,be⟩;obtain⟨eQ,bE⟩:=dF ed be;refine Yo hK (bE.h.mono (bu EZ.h)) ?_;clear ed gq be;refine Ym fun K hK=>?_;refine(LY s' P m.S G' R' X ks y3 y4 y5 ve eQ.h hJ.h HK.h.2 HK.h.1 ⟨ez.h.1,cA ez.h.2⟩).mono ?_;rintro e vf⟨rfl,bf⟩;have d2:=ao bf;refine Yo hK (d2.h.mono (by rw[EZ.h];exact bE.h.size)) ?_;clear bf;refine Yt ?_;refine aT ?_;have bf:Bz vd vf:=dW (dW (below_drewN (aa _ vd) 1) bE.h) d2.h;have ef:=gj.h.below bf;have gy:=hQ.h.below bf;have hV:=dW hU.h bf;obtain⟨cd,eR⟩:∃v,v=ng P m.S X ks y4 y5:=⟨_,rfl⟩;rw[<-eR];have hW:=ace ew.h.f ew.h.su (c:=⟨1,61,(X:Int),y3,y4,y5,0,2,[]⟩) hH.h rfl rfl rfl hI.h ea.h (jE hh.h b5.h);obtain⟨res,fk⟩:∃x,x=pC P m ⟨1,61,(X:Int),y3,y4,y5,0,2,[]⟩:=⟨_,rfl⟩;have eg:=(U3 ew.h.f ⟨1,61,(X:Int),y3,y4,y5,0,2,[]⟩).all;have hX:=WX P m ⟨1,61,(X:Int),y3,y4,y5,0,2,[]⟩;have eT:=abc F g P m Gs R C ⟨1,61,(X:Int),y3,y4,y5,0,2,[]⟩ M vf ef (fun j hj=>aA (fi.h j hj) bf.size) (cA b5.h) (by have:=ez.h.2;show y5<=12000;omega) (by show(0:Nat)<=_;omega);unfold DoF at eT;rw[<-fk] at hW eg eT;have gA:(y3 - 1).toNat=ks:=cA HK.h.1;obtain⟨t1,t2,t3⟩:=hW;simp only at t1 t2 t3;rw[gA,mD,<-eR] at t1;rw[gA,mD] at t3;obtain⟨T1,T2,T3,fq,hY,h5,ei,lr,j5⟩:=QG t1 t2 t3 eg eT gy hV eR (fun j hj=>aA (fi.h j hj) bf.size);obtain⟨x0,x1,x2,x3,x4,x5,x6,x7,x8⟩:=gy.reads;clear t1 t2 t3 eg eT gy hV eR bf ef fk gA hX hQ gj hU eQ bE d2 ew ea hH hI;go_wp2_with fail;refine hY.h.mono ?_;clear x0 x1 x2 x3 x4 x5 x6 x7 x8 hY;rintro e w5⟨A1,cp,Gs',rfl,ck,hN,h6,gG⟩;obtain⟨L,eL⟩:∃x,x=res.2:=⟨_,rfl⟩;rw[<-eL] at ck hN⊢;obtain⟨N,eN⟩:∃x,x=L.length:=⟨_,rfl⟩;rw[<-eN] at ck hN⊢;have ej:kM w5 gt ⟨1,61,(X:Int),y3,y4,y5,0,2,[]⟩:=h5.h.block (gG.block gt (j5.h gt hT.h) (fun h=>h hT.h));have h7:Bz w w5:=ei.h.trans (gG.below (fun j hj=>by
  apply Nat.le_of_not_lt;intro h;refine hj (j4.h j (aA h ?_));have:=f3.h.size;have:=ep.h.size;omega) ei.h.size)
 obtain⟨HC,EN,EL,j6,j7,h8,h9⟩:=yY (dP.O ck) eN eL hN h6 ej h7;clear ck eN eL hN h6 gG ej h7 h5 ei;go_wp2_with fail
 go_loopw [13,14,15] (fun sv gv i wr=> ∃j:Nat,j<=N/\sv= Iz (Bb 61 X (L.take j))/\gv= Iz (Cb 61 0 (L.take j))/\i= Iz j/\Hid (Bz w5 wr)) (fun _ _ i _=>N - (intOf i).toNat)
 case atStart=>exact⟨0,aB _,rfl,rfl,rfl,ao (aa _ _)⟩
 case round=>
  obtain⟨j,hj,rfl,rfl,rfl,ay⟩:=hrel;obtain⟨wp,rfl⟩:∃wo,wo=wr:=⟨_,rfl⟩
  by_cases eU:j<N
  ·have gI:j<L.length:=by rw[<-EN.h];exact eU
   obtain⟨b,o,r,rfl,hb,hr,a7⟩:=Tg (HC.h.below ay.h) (m:=j) gI;have hS:=acg (id:=61) (inst:=(X:Int)) (fun r hr=>fq.h r (by rw[<-EL.h];exact hr)) j (po gI);have hq:=(fq.h r (by rw[<-EL.h];exact aH hr)).aw;obtain⟨b2,b3⟩:=dF (aak (id:=61) (inst:=(X:Int)) hr) (abg (id:=61) hr);obtain⟨S,eS⟩:∃v,v=Bb 61 (X:Int) (L.take j):=⟨_,rfl⟩;obtain⟨G,eG⟩:∃v,v=Cb 61 0 (L.take j):=⟨_,rfl⟩;rw[<-eS] at hS b2⊢;rw[<-eG] at b3⊢;have bt:=h8.h.below ay.h;have g1:Cz wp gt 1 (Iz 61):=bt.cell 1;have g2:Cz wp gt 2 (Iz (X:Int)):=bt.cell 2;have l3:j<20000000:=cA j6.h;have i3:(j:Int)<N:=ae;obtain⟨r0,r1,r2,r3,r4,r5,r6,r7⟩:=r;simp only at hq;have hw:IntKind.i64.wrap (S+r5)=S+r5:=aN _ ae;have l4:Cz wp b (o+j*8) (Iz r0):=a7 0 _ ae rfl;have l5:Cz wp b (o+j*8+1) (Iz r1):=a7 1 _ ae rfl;have l6:Cz wp b (o+j*8+2) (Iz r2):=a7 2 _ ae rfl;have l7:Cz wp b (o+j*8+5) (Iz r5):=a7 5 _ ae rfl;have a0:=ao eU;clear hr a7 bt eU gI hS hq eS eG hb
   by_cases h1:r1=61
   ·subst h1
    by_cases h2:r2=(X:Int)
    ·subst h2
     by_cases h3:r0=3
     ·subst h3
      have I:Bb 61 X (L.take (j+1))=S+r5:=by rw[b2.h];unfold Qz;simp[*]
      have J:Cb 61 0 (L.take (j+1))=G:=by rw[b3.h];simp[*]
      obtain⟨a8,bh⟩:=dF I J;clear I J;go_wp2_with fail
      go_quiet (fail)
      go_wp2_with fail
      go_quiet (fail)
      go_wp2_with fail;go_roundw
      case rel=>exact⟨j+1,a0.h,by rw[a8.h],by rw[bh.h],by go_num,ao (below_drewN ay.h _)⟩
      case measure=>have:=a0.h;simp[intOf];omega
     ·have e3:(r0==3)=false:=beq_eq_false_iff_ne.2 h3
      by_cases h4:r0=4
      ·subst h4
       have I:Bb 61 X (L.take (j+1))=S:=by rw[b2.h];unfold Qz;simp
       have J:Cb 61 0 (L.take (j+1))=r5:=by rw[b3.h];simp
       obtain⟨a8,bh⟩:=dF I J;clear I J;go_wp2_with fail
       go_quiet (fail)
       go_wp2_with fail
       go_quiet (fail)
       go_wp2_with fail;go_roundw
       case rel=>exact⟨j+1,a0.h,by rw[a8.h],by rw[bh.h],by go_num,ao (below_drewN ay.h _)⟩
       case measure=>have:=a0.h;simp[intOf];omega
      ·have e4:(r0==4)=false:=beq_eq_false_iff_ne.2 h4
       have I:Bb 61 X (L.take (j+1))=S:=by rw[b2.h];unfold Qz;simp[*]
       have J:Cb 61 0 (L.take (j+1))=G:=by rw[b3.h];simp[*]
       obtain⟨a8,bh⟩:=dF I J;clear I J;clear h3 h4;go_wp2_with fail
       go_quiet (fail)
       go_wp2_with fail
       go_quiet (fail)
       go_wp2_with fail;go_roundw
       case rel=>exact⟨j+1,a0.h,by rw[a8.h],by rw[bh.h],by go_num,ao (below_drewN ay.h _)⟩
       case measure=>have:=a0.h;simp[intOf];omega
    ·have e2:(r2==(X:Int))=false:=beq_eq_false_iff_ne.2 h2
     by_cases h4:r0=4
     ·subst h4
      have I:Bb 61 X (L.take (j+1))=S:=by rw[b2.h];unfold Qz;simp[*]
      have J:Cb 61 0 (L.take (j+1))=r5:=by rw[b3.h];simp[*]
      obtain⟨a8,bh⟩:=dF I J;clear I J;clear h2;go_wp2_with fail
      go_quiet (fail)
      go_wp2_with fail
      go_quiet (fail)
      go_wp2_with fail;go_roundw
      case rel=>exact⟨j+1,a0.h,by rw[a8.h],by rw[bh.h],by go_num,ao (below_drewN ay.h _)⟩
      case measure=>have:=a0.h;simp[intOf];omega
     ·have e4:(r0==4)=false:=beq_eq_false_iff_ne.2 h4
      have I:Bb 61 X (L.take (j+1))=S:=by rw[b2.h];unfold Qz;simp[*]
      have J:Cb 61 0 (L.take (j+1))=G:=by rw[b3.h];simp[*]
      obtain⟨a8,bh⟩:=dF I J;clear I J;clear h2 h4;go_wp2_with fail
      go_quiet (fail)
      go_wp2_with fail
      go_quiet (fail)
      go_wp2_with fail;go_roundw
      case rel=>exact⟨j+1,a0.h,by rw[a8.h],by rw[bh.h],by go_num,ao (below_drewN ay.h _)⟩
      case measure=>have:=a0.h;simp[intOf];omega
   ·have e1:(r1==61)=false:=beq_eq_false_iff_ne.2 h1
    have I:Bb 61 X (L.take (j+1))=S:=by rw[b2.h];unfold Qz;simp[*]
    have J:Cb 61 0 (L.take (j+1))=G:=by rw[b3.h];simp[*]
    obtain⟨a8,bh⟩:=dF I J;clear I J;clear h1;go_wp2_with fail
    go_quiet (fail)
    go_wp2_with fail
    go_quiet (fail)
    go_wp2_with fail;go_roundw
    case rel=>exact⟨j+1,a0.h,by rw[a8.h],by rw[bh.h],by go_num,ao (below_drewN ay.h _)⟩
    case measure=>have:=a0.h;simp[intOf];omega
  ·obtain rfl:j=N:=ae
   have fx:L.take j=L:=aL (by rw[<-EN.h];exact af _);have t1:=T1.h;have t2:=T2.h;have t3:=T3.h;rw[<-EL.h] at t1 t2 t3;rw[fx,t1];rw[t1] at t2;obtain⟨G,eG⟩:∃v,v=Cb 61 0 L:=⟨_,rfl⟩;rw[<-eG] at t2 t3⊢;obtain⟨ca,gO⟩:∃v,v=ng P res.1.S X ks y4 1:=⟨_,rfl⟩;rw[<-gO] at t3;have bt:=h8.h.below ay.h;have ef:=j7.h.below ay.h;obtain⟨Z2,gP⟩:∃v,v=wp.heap.size:=⟨_,rfl⟩;have bp:gt<Z2:=by rw[gP];exact bt.lt
   have a2:∀u,Below Z2 wp.drew u->Cz u gt 2 (Iz (X:Int)):=fun u hu=>Yb hu bp (bt.cell 2);have a3:∀u,Below Z2 wp.drew u->Cz u gt 3 (Iz y3):=fun u hu=>Yb hu bp (bt.cell 3);have a4:∀u,Below Z2 wp.drew u->Cz u gt 4 (Iz y4):=fun u hu=>Yb hu bp (bt.cell 4);have i3:¬(j:Int)<j:=ae;obtain⟨ia,j8,j9,ka,kf,ki,ib⟩:=yY t2 t3 bt ef (h9.h.trans (ay.h.mono h9.h.size)) gO gP;clear fx t1 t2 t3 eG gO bt ef gP bp eU ay
   go_upto_region 19 with(fail)
   refine Zb Z2 99999 [1,8] [0,2,3,4,5,6,7,1,8,9] ?_;refine Yt ?_;clear a2 a3 a4;refine Ym fun K hK=>?_;refine(Z5 g P res.1 Gs' R C wp.drew (ka.h.below (below_drewN (aa _ wp) 1)).ZC).mono ?_;rintro e ve⟨s',G',R',rfl,ed,gq,be⟩;obtain⟨eQ,bE⟩:=dF ed be;refine Yo hK (bE.h.mono (bu ib.h)) ?_;clear ed gq be;refine Ym fun K hK=>?_;refine(LY s' P res.1.S G' R' X ks y3 y4 1 ve eQ.h hJ.h HK.h.2 HK.h.1 ⟨ae,ae⟩).mono ?_;rw[<-ki.h];rintro e vf⟨rfl,bf⟩;have d2:=ao bf;refine Yo hK (d2.h.mono (by rw[ib.h];exact bE.h.size)) ?_;clear bf;refine Yt ?_;refine aT ?_;have bf:Bz wp vf:=dW (dW (below_drewN (aa _ wp) 1) bE.h) d2.h;have ej:=j9.h.below bf;have x5:Cz vf gt 5 (Iz y5):=ej.cell 5;have ih:=ao (dW kf.h bf);have hq:=ez.h;have eV:IntKind.i64.wrap (cd+G)=y5:=by have:=ia.h;rw[this];exact aN _ ae
   clear bf ej hq
   by_cases hG:G=0
   ·subst hG
    have a6:cd=y5:=cA ia.h;rw[Hf,a6] at eV;have kk:=ao eV;clear eV;subst a6;have eV:=kk.h;go_wp2_with fail;refine(Qw vf).mono ?_;rintro e v9⟨rfl,b9⟩;go_wp2_with fail;go_ret;exact⟨rfl,dW ih.h b9⟩
   ·have e0:(G==0)=false:=beq_eq_false_iff_ne.2 hG
    obtain rfl:ca=0:=by rcases j8.h with h|h;exact absurd h hG;exact h
    clear hG;go_wp2_with fail;refine(Qw vf).mono ?_;rintro e v9⟨rfl,b9⟩;go_wp2_with fail;go_ret;exact⟨rfl,dW ih.h b9⟩
end Go.Proofs.YtbaaheidifacaaaGreat
