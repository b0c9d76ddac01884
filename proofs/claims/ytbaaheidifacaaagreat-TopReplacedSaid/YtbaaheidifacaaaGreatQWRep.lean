import Derived.Test.YtbaaheidifacaaaGreatQMkSC6
import Derived.Test.YtbaaheidifacaaaGreatQRunXC1
import Derived.Test.YtbaaheidifacaaaGreatQArgsT
import Derived.Test.YtbaaheidifacaaaGreatQAwk1
import Derived.Test.YtbaaheidifacaaaGreatQLawRep
set_option linter.defProp false
set_option linter.unusedVariables false
set_option linter.unusedSimpArgs false
set_option maxRecDepth 100000
set_option maxHeartbeats 12800000
namespace Go.Proofs.YtbaaheidifacaaaGreat
variable {A:Option Addr} {B c g k:Nat} {C:zt} {Gs R:Nat→Prop} {L:List ir} {P:PD} {f:ir→ir} {l:List bN} {r:ir} {w:World}
open Go.RowKit
theorem rL.Y0 (h:rL B w g P C Gs R l A c) (D:∀(i:Nat) (y:bN),l[i]?=some y->i<=1000/\wZ P i y):Tl P l:=
 ⟨fun n=>(h.fine n).f,fun n=>(h.fine n).su,D⟩
theorem Qx (D:P.gZ) (l:List bN) (n:Nat) (hn:n<=1000):∀(i:Nat) (y:bN),(js P l n)[i]?=some y->i<=1000/\wZ P i y:=fun i y h=>by
 obtain⟨J,I⟩:=Tk D h;exact⟨ae,I⟩
theorem N3 (h:∀(i:Nat) (y:bN),l[i]?=some y->i<=1000/\wZ P i y):∀q∈l,q.aw<=12000/\q.ky.length<=9223372036854775807:=fun q hq=>by
 obtain⟨i,hi,rfl⟩:=kv.1 hq;exact(h i _ (aj hi)).2.ab0
theorem rL.mkf (h:rL B w g P C Gs R l A c):MkL B w g P C Gs R (runM P (Mk.new P) l).1 l.length:=
 ⟨h.ZC,fun j D I=>cA (h.lo j D),h.un⟩
def qU (f:ir→ir) (k:Nat) (L:List ir):List ir:=(L.take k).map f++L.drop k
theorem Qy (f:ir->ir) (L:List ir):qU f 0 L=L:=by simp[qU]
theorem TB (f:ir->ir) (L:List ir):qU f L.length L=L.map f:=by simp[qU]
theorem Vf (h:L[k]?=some r):(qU f k L)[k]?=some r:=by
 have D:=(az.1 h).1;unfold qU;rw[bK iW];simp only[br,bJ];rw[jH,(ae:k+(k - min k L.length)=k)];exact h
theorem TD (h:L[k]?=some r):(qU f k L).set k (f r)=qU f (k+1) L:=by
 have D:=(az.1 h).1;unfold qU;have e1:(List.map f (L.take k)).length=k:=iW;rw[yX _ _ ae,e1,Vn,bC,h,iB D];rw[show L[k]=r from bW ((aj D).symm.trans h)];simp
theorem abP (h:L[k]?=some r) (hf:f r=r):qU f (k+1) L=qU f k L:=by
 rw[<-TD h,hf];have D:=Vf (f:=f) h;apply fA;intro i;rw[List.getElem?_set]
 split
 ·rename_i hi
  subst hi
  split
  ·exact D.symm
  ·rename_i I
   rw[cO ae]
 ·rfl
def DoG (F:Nat→Prop) (w:World) (g:Nat) (P:PD) (C:zt) (R:Nat→Prop) (m:Mk) (c:bN) (i:Nat) (e:Ending) (w':World):Prop:=
 ∃A cp Gs',e= .returned (.slice A (pC P m c).2.length cp)∧w'.ownsRow w.heap.size 40 8 (.slice A (pC P m c).2.length cp) (pC P m c).2.length (fC (pC P m c).2)∧(pC P m c).2.length≤18036003∧cC F w' g P C Gs' R (pC P m c).1 (i+1)∧Lv (fun j=> ¬F j) w w'∧∀b,(Value.slice A (pC P m c).2.length cp).ownBlock=some b→¬(b=g∨b=C.ub∨Gs' b∨R b)
theorem aaA (F:Nat->Prop) (g:Nat) (P:PD) (m:Mk) (Gs R:Nat->Prop) (C:zt) (c:bN) (i:Nat) (w:World) (h:cC F w g P C Gs R m i) (hF:∀j,F j->j<w.heap.size) (hi:i<1000000) (hq:c.aw<=12000) (hl:c.ky.length<=9223372036854775807):
  Wz 16 #[Pz g,c.val] w (DoG F w g P C R m c i):=by
 refine(NM g P m Gs R C c w h.ZC (cA h.un) hl).mono ?_;rintro e w2⟨hN,A1,cp,Gs',rfl,I,ay,a0,O,ax⟩;have a2:=Yh P m c;have hu:=h.un;have J:=h.ZC.ZD;refine⟨A1,cp,Gs',rfl,I,aF hN ae,⟨ay,?_,ae⟩,a0.mono fun j D=> .inl (h.lo j (by rcases D with h|h;exact .inr (.inl h);exact .inr (.inr (.inl h)))),fun b hb=>?_⟩
 ·rintro j (D|D|D|D) hf
  ·exact h.lo j (.inl D) hf
  ·exact h.lo j (.inr (.inl D)) hf
  ·rcases O j D with h3|h3
   ·exact h.lo j (.inr (.inr (.inl h3))) hf
   ·have:=h3.1;have:=hF j hf;omega
  ·exact h.lo j (.inr (.inr (.inr D))) hf
 ·have h1:=(show w2.ownsRow w.heap.size 40 8 _ _ _ from I).lt b hb
  rintro(D|D|D|D)
  ·have:=J b (.inl D);omega
  ·have:=J b (.inr (.inl D));omega
  ·exact ax b hb D
  ·have:=J b (.inr (.inr (.inr D)));omega
theorem acb (P:PD) (J:P.gZ) (id ag aw:Int) {y:bN} (O:y=rB P ⟨3,id,0,0,ag,aw,0,0,[]⟩ 0):
  y.kind=4/\(1<=y.id/\y.id<=31)/\dx y=0/\(1<=y.aw/\y.aw<=12)/\y.ky=[]/\y.inst=0/\y.side=0/\y.least=0/\y.time=0:=by
 have I:=U5 J ⟨3,id,0,0,ag,aw,0,0,[]⟩ 0;have D:y.kind=4/\y.inst=0/\y.side=0/\y.least=0/\y.time=0/\y.id=1+within id 0 30:=by
  rw[O];unfold rB;simp only;rw[if_neg (by show ¬((1:Int)+within 3 0 8=1\/4<1+within 3 0 8);decide)];exact⟨rfl,rfl,rfl,rfl,rfl,rfl⟩
 have hw:=cW id 0 30 ae;rw[<-O] at I;exact⟨D.1,by rw[D.2.2.2.2.2];omega,I.WY ae J,I.aw,I.ky,D.2.1,D.2.2.1,D.2.2.2.1,D.2.2.2.2.1⟩
theorem acG {m:Mk} (h:jW w Gs R g P m C) {id:Int} (D:dZ id):
  ∃J o0 o1 O o3 o4 I,XU w C.s id J o0 o1 O o3 o4 I/\((I=false/\sX m.S id=none)\/(I=true/\∃x k p e,sX m.S id=some (x,k,p,e)/\k<2/\J=((x:Nat):Int)/\o0=id/\o1=((k:Nat):Int)+1/\O=p/\o3=e.aw/\o4=e.top)):=by
 cases hf:sX m.S id with
 |none=>exact⟨_,_,_,_,_,_,_,fun u hu=>LO C.s P m.S Gs R id u (h.below hu).st D (LD hf), .inl ⟨rfl,rfl⟩⟩
 |some y=>
  obtain⟨x,k,p,e⟩:=y;obtain⟨M,h1,h2,r,h3,h4,h5,h6⟩:=sJ hf;subst h4;exact⟨_,_,_,_,_,_,_,fun u hu=>LP C.s P m.S Gs R x k M r e id u (h.below hu).st h1 h3 h5 h6 h2, .inr ⟨rfl,x,k,r.1,e,rfl,h2,rfl,rfl,rfl,rfl,rfl,rfl⟩⟩
theorem aah (p:kU) (A:Option Addr) (n c:Nat) (id ag aw:Int) (w:World) (h0:p.Ok w) (h1:Commands w A n c) (h2:(Lit.int .i64 id).wf=true) (h3:(Lit.int .i64 ag).wf=true) (h4:(Lit.int .i64 aw).wf=true):
  Wz 12 #[p.val, .slice A n c,Iz id,Iz ag,Iz aw] w fun e w'=>e= .returned (.bool true)/\Bz w w':=by
 replace h2:=V9 h2;replace h3:=V9 h3;replace h4:=V9 h4;obtain⟨hle,d9,l,rfl,hA,f2⟩:=h1;have u4:l.length<=9223372036854775807:=by unfold maxLen at d9;omega
 have b2:=fun u=>Qh p u h0;obtain⟨P,eP⟩:∃P,P=p.prod:=⟨_,rfl⟩;rw[<-eP] at b2;obtain⟨b4,EP,HA,tk,t0⟩:=rU b2 eP hA f2 (And.intro hle d9);clear b2 eP hA f2 hle d9 h0;obtain⟨pc,iF,mn,i5,i6,i7,i9,j0,j1,j2,j3,j4,j5,j6,j7⟩:=p;simp only[kU.val] at b4⊢;obtain⟨w0,eR⟩:∃v,v=w.alloc (.cells #[.string pc, .slice iF mn i5,Iz i6,Iz i7,Iz i9,Iz j0,Iz j1,Iz j2,Iz j3,Iz j4, .slice j5 j6 j7] 25):=⟨_,rfl⟩;obtain⟨gx,hB⟩:∃v,v=w.heap.size:=⟨_,rfl⟩;have D0:=Zq eR hB;have B0:=Zw eR;have k0:Cz w0 gx 0 (.string pc):=D0.cell 0;have k1:Cz w0 gx 1 (.slice iF mn i5):=D0.cell 1;have k2:Cz w0 gx 2 (Iz i6):=D0.cell 2;have k3:Cz w0 gx 3 (Iz i7):=D0.cell 3;have k4:Cz w0 gx 4 (Iz i9):=D0.cell 4;have k5:Cz w0 gx 5 (Iz j0):=D0.cell 5;have k6:Cz w0 gx 6 (Iz j1):=D0.cell 6;have k7:Cz w0 gx 7 (Iz j2):=D0.cell 7;have k8:Cz w0 gx 8 (Iz j3):=D0.cell 8;have k9:Cz w0 gx 9 (Iz j4):=D0.cell 9;have qf:Cz w0 gx 10 (.slice j5 j6 j7):=D0.cell 10;have eS:=ao B0;clear D0 B0
 go_enter Tryz.func12,Tryz.ntmps12
 go_upto_region 1 with(fail)
 rw[<-eR,<-hB];clear eR hB;go_wp2_with fail;refine(b4.h w0).mono ?_;clear k0 k1 k2 k3 k4 k5 k6 k7 k8 k9 qf;rintro e w1⟨ma,mc,sa,sc,rfl,eT,f4,b1⟩;have HR:=ao eT.right;simp only[PD.val]
 go_upto_region 2 with(fail)
 obtain⟨w2,ea⟩:∃v,v=w1.alloc (.cells (P.cells ma mc sa sc) 25):=⟨_,rfl⟩;obtain⟨J,eb⟩:∃v,v=w1.heap.size:=⟨_,rfl⟩;have D2:fM w2 J P ma mc sa sc:=ea▸eb▸fM.new _ _ _ _ _ _;have B2:=Zw ea;unfold PD.cells at ea;rw[<-ea,<-eb];obtain⟨qp,j8,dS⟩:=fY D2 (eT.below B2) (dW (dW eS.h b1) B2);have u5:Hid (∀q,qP ma q\/qP sa q->w.heap.size<=q/\q<J):=ao fun q hq=>⟨jE (f4 q hq) eS.h.size,eb▸eT.Xc q hq⟩;have u0:Hid (w.heap.size<=J):=ao (eb▸aF eS.h.size b1.size);clear D2 B2 ea eb eT f4 b1 eS b4;have D2:=qp.h;have z0:Cz w2 J 0 (.string (str P.code)):=D2.cell 0;have z1:Cz w2 J 1 (.slice ma P.E.length mc):=D2.cell 1;have z2:Cz w2 J 2 (Iz P.tick):=D2.cell 2;have z3:Cz w2 J 3 (Iz P.low):=D2.cell 3;have z4:Cz w2 J 4 (Iz P.high):=D2.cell 4;have z5:Cz w2 J 5 (Iz P.wide):=D2.cell 5;have z6:Cz w2 J 6 (Iz P.rule):=D2.cell 6;have z7:Cz w2 J 7 (Iz P.top):=D2.cell 7;have z8:Cz w2 J 8 (Iz P.least):=D2.cell 8;have z9:Cz w2 J 9 (Iz P.part):=D2.cell 9;have b5:Cz w2 J 10 (.slice sa P.settle.length sc):=D2.cell 10;go_wp2_with fail;refine(Te P ma mc sa sc A l.length c l 40 w2 j8.h rfl (HA.h.below dS.h) ae).mono ?_;clear z0 z1 z2 z3 z4 z5 z6 z7 z8 z9 b5;rintro e v7⟨Ac,cc,rfl,ct,b7⟩;obtain⟨cl,eU⟩:∃x,x=js P l 40:=⟨_,rfl⟩;rw[<-eU] at ct⊢;have b6:cl.length<=40:=eU▸MA P l 40;have j9:∀(i:Nat) (y:bN),cl[i]?=some y->i<=1000/\wZ P i y:=eU▸Qx HR.h l 40 ae;obtain⟨M,eM⟩:∃x,x=cl.length:=⟨_,rfl⟩;rw[<-eM] at ct b6⊢;have D7:=D2.below b7;obtain⟨ed,eV,EM,hC,a8,cv,qv⟩:=yY (dP.O ct) j9 eM (j8.h.below b7) b6 (dW dS.h b7) D7;clear ct j9 eM eU b6 b7 D2;have z0:Cz v7 J 0 (.string (str P.code)):=D7.cell 0;have z1:Cz v7 J 1 (.slice ma P.E.length mc):=D7.cell 1;have z2:Cz v7 J 2 (Iz P.tick):=D7.cell 2;have z3:Cz v7 J 3 (Iz P.low):=D7.cell 3;have z4:Cz v7 J 4 (Iz P.high):=D7.cell 4;have z5:Cz v7 J 5 (Iz P.wide):=D7.cell 5;have z6:Cz v7 J 6 (Iz P.rule):=D7.cell 6;have z7:Cz v7 J 7 (Iz P.top):=D7.cell 7;have z8:Cz v7 J 8 (Iz P.least):=D7.cell 8;have z9:Cz v7 J 9 (Iz P.part):=D7.cell 9;have b5:Cz v7 J 10 (.slice sa P.settle.length sc):=D7.cell 10;clear D7;go_wp2_with fail;refine(J1 P ma mc sa sc Ac M cc cl v7 hC.h EM.h.symm ed.h (by rw[<-EM.h];have:=a8.h;omega) (N3 eV.h)).mono ?_;clear z0 z1 z2 z3 z4 z5 z6 z7 z8 z9 b5;rintro e v8⟨g,Aa,ca,C,Gs,R,rfl,hD,b8⟩;have hE:=hD.mkf;have ka:=hD.Y0 eV.h;have dT:=hE.ZC.V2;have a0:(runM P (Mk.new P) cl).1.used 999=false:=by
  cases hu:(runM P (Mk.new P) cl).1.used 999 with
  |false=>rfl
  |true=>
   obtain⟨y,hy,he⟩:=ka.used (n:=cl.length) (y:=999) (by rw[dE];exact hu);obtain⟨i,hi,rfl⟩:=kv.1 hy;have h1:=(eV.h i _ (aj hi)).2.Y8;have:=a8.h;have:=EM.h;omega
 have D8:=qv.h.below b8;obtain⟨hG,kf,ef,cd,qy⟩:=rU hE dT a0 b8 D8;clear hD hE ka dT a0 b8;have z0:Cz v8 J 0 (.string (str P.code)):=D8.cell 0;have z1:Cz v8 J 1 (.slice ma P.E.length mc):=D8.cell 1;have z2:Cz v8 J 2 (Iz P.tick):=D8.cell 2;have z3:Cz v8 J 3 (Iz P.low):=D8.cell 3;have z4:Cz v8 J 4 (Iz P.high):=D8.cell 4;have z5:Cz v8 J 5 (Iz P.wide):=D8.cell 5;have z6:Cz v8 J 6 (Iz P.rule):=D8.cell 6;have z7:Cz v8 J 7 (Iz P.top):=D8.cell 7;have z8:Cz v8 J 8 (Iz P.least):=D8.cell 8;have z9:Cz v8 J 9 (Iz P.part):=D8.cell 9;have b5:Cz v8 J 10 (.slice sa P.settle.length sc):=D8.cell 10;clear D8;go_wp2_with fail;refine(J1 P ma mc sa sc Ac M cc cl v8 (hC.h.below cd.h) EM.h.symm (ed.h.below cd.h) (by rw[<-EM.h];have:=a8.h;omega) (N3 eV.h)).mono ?_;clear z0 z1 z2 z3 z4 z5 z6 z7 z8 z9 b5;rintro e v9⟨g2,Ab,cb,C2,Gs2,R2,rfl,ki,b9⟩;obtain⟨m,em⟩:∃x,x=(runM P (Mk.new P) cl).1:=⟨_,rfl⟩;have cF:=hG.h.below b9;have cH:=ki.mkf;have dT:=kf.h;have a0:=ef.h;rw[<-em] at cF cH dT a0;rw[<-EM.h] at cF cH;have kk:Bz w v9:=dW (dW cv.h cd.h) b9;have D9:=qy.h.below b9;have kl:=(hC.h.below cd.h).below b9;have kn:∀j,(j=g\/j=C.ub\/Gs j\/R j)->j<v8.heap.size:=hG.h.ZC.ZD;obtain⟨eg,ei,f5,eW,q5,q6,q7,u6⟩:=Dw cF cH dT a0 kk kl kn em;clear ki cF cH dT a0 kk em b9 kl kn hG kf ef ed;have u7:=ao D9;have z0:Cz v9 J 0 (.string (str P.code)):=D9.cell 0;have z1:Cz v9 J 1 (.slice ma P.E.length mc):=D9.cell 1;have z2:Cz v9 J 2 (Iz P.tick):=D9.cell 2;have z3:Cz v9 J 3 (Iz P.low):=D9.cell 3;have z4:Cz v9 J 4 (Iz P.high):=D9.cell 4;have z5:Cz v9 J 5 (Iz P.wide):=D9.cell 5;have z6:Cz v9 J 6 (Iz P.rule):=D9.cell 6;have z7:Cz v9 J 7 (Iz P.top):=D9.cell 7;have z8:Cz v9 J 8 (Iz P.least):=D9.cell 8;have z9:Cz v9 J 9 (Iz P.part):=D9.cell 9;have b5:Cz v9 J 10 (.slice sa P.settle.length sc):=D9.cell 10;clear D9;go_wp2_with fail;refine(Pj P ma mc sa sc ⟨3,id,0,0,ag,aw,0,0,[]⟩ 0 v9 q6.h ae).mono ?_;clear z0 z1 z2 z3 z4 z5 z6 z7 z8 z9 b5;rintro e va⟨rfl,ba⟩;obtain⟨y,ey⟩:∃y,y=rB P ⟨3,id,0,0,ag,aw,0,0,[]⟩ 0:=⟨_,rfl⟩;rw[<-ey];have hy:=acb P HR.h id ag aw ey;obtain⟨y0,y1,y2,y3,y4,y5,y6,y7,y8⟩:=y;simp only at hy;obtain⟨rfl,kr,ks,hq,rfl,rfl,rfl,rfl,rfl⟩:=hy;simp only[bN.val,bN.cells]
 go_upto_region 8 with(fail)
 obtain⟨vb,eY⟩:∃v,v=va.alloc (.cells (bN.cells ⟨4,y1,0,0,y4,y5,0,0,[]⟩) 35):=⟨_,rfl⟩;obtain⟨gt,e6⟩:∃v,v=va.heap.size:=⟨_,rfl⟩;have hH:kM vb gt ⟨4,y1,0,0,y4,y5,0,0,[]⟩:=eY▸e6▸kM.new va _;have bb:=Zw eY;refine jN eY ?_;rw[<-e6];have hI:Bz v9 vb:=dW ba bb;have kx:v9.heap.size<=gt:=e6▸ba.size;have ej:=eg.h.below hI;obtain⟨fi,o0,o1,o2,o3,o4,fk,ek,lf⟩:=acG ej.ZC (id:=y1) ⟨ae,ae⟩;have x1:Cz vb gt 1 (Iz y1):=hH.cell 1;obtain⟨lg,el,hJ,lr,hM,f6,q8,HQ,u9⟩:=QG lf ek hH hI kx ej ks hq kr;clear eY e6 hH bb ba hI kx ej ek lf ks hq kr ey;go_wp2_with fail;refine(acj g P m Gs R C y1 fi o0 o1 o2 o3 o4 fk vb f6.h.ZC el.h).mono ?_;clear x1;rintro e vc⟨rfl,bc⟩
 go_upto_region 9 with(fail)
 obtain⟨vd,e7⟩:∃v,v=vc.alloc (.cells #[Iz o0,Iz o1,Iz o2,Iz o3, .bool o4] 81):=⟨_,rfl⟩;obtain⟨go,fa⟩:∃v,v=vc.heap.size:=⟨_,rfl⟩;have hO:=Zq e7 fa;have bd:Bz vb vd:=e7▸au bc _;refine jN e7 ?_;rw[<-fa];have hP:=hJ.h.below bd;have f8:gt<go:=fa▸aA hJ.h.lt bc.size;have f9:go<vd.heap.size:=hO.lt;have d2:Bz v9 vd:=dW lr.h bd;have bf:=ei.h.ZC.ZD;have a3:∀j,(j=g2\/j=C2.ub\/Gs2 j\/R2 j)->v8.heap.size<=j:=fun j hj=>cA (ei.h.lo j hj);have l3:v7.heap.size<=v8.heap.size:=cd.h.size;obtain⟨F1,d3⟩:∃F:Nat->Prop,F=fun j=>j<v7.heap.size\/(j=g2\/j=C2.ub\/Gs2 j\/R2 j)\/j=gt\/j=go:=⟨_,rfl⟩;have l5:cC F1 vd g P C Gs R m M:=by
  refine⟨eg.h.ZC.below d2,fun j hj hf=>?_,eg.h.un⟩;have h1:=q7.h j hj;have h2:=eg.h.lo j hj;rw[d3] at hf;rcases hf with h|h|h|h
  ·exact h2 h
  ·have:=a3 j h;omega
  ·have:=hM.h;have:=a3;rw[h] at h1;have:=ei.h.ZC.b.D.lt;have:=a3 g2 (.inl rfl);have:=bf g2 (.inl rfl);omega
  ·have:=hM.h;rw[h] at h1;have:=a3 g2 (.inl rfl);have:=bf g2 (.inl rfl);omega
 have l6:∀j,F1 j->j<vd.heap.size:=fun j hj=>by
  rw[d3] at hj;have:=a3 g2 (.inl rfl);have:=bf g2 (.inl rfl);have:=d2.size;rcases hj with h|h|h|h
  ·omega
  ·have:=bf j h;omega
  ·omega
  ·omega
 have gb:∀j,j<v7.heap.size->F1 j:=fun j h=>d3▸.inl h;have gi:∀j,(j=g2\/j=C2.ub\/Gs2 j\/R2 j)->F1 j:=fun j h=>d3▸.inr (.inl h);have gj:F1 gt/\F1 go:=d3▸⟨.inr (.inr (.inl rfl)), .inr (.inr (.inr rfl))⟩;have cf:=ei.h.below d2;have gq:(⟨4,y1,0,0,y4,y5,0,0,[]⟩:bN).aw<=12000:=by have:=HQ.h.2;show y5<=12000;omega
 have ax:=aaA F1 g P m Gs R C ⟨4,y1,0,0,y4,y5,0,0,[]⟩ M vd l5 l6 (cA a8.h) gq (by show(0:Nat)<=_;omega);have I:=abq f5.h.f f5.h.su (c:=⟨4,y1,0,0,y4,y5,0,0,[]⟩) q8.h rfl (o:=999) ⟨ae,ae⟩ eW.h;obtain⟨res,gv⟩:∃x,x=pC P m ⟨4,y1,0,0,y4,y5,0,0,[]⟩:=⟨_,rfl⟩;unfold DoG at ax;rw[<-gv] at ax I;have l7:Bz w vd:=dW q5.h d2;obtain⟨x0,x1,x2,x3,x4,x5,x6,x7,x8⟩:=hP.reads;obtain⟨bR,gy,q9,r0,l8,l9,gA,gG,mg,gI,gO,vg,cQ,cS,mi⟩:=V8 ax I hP hO gb gi gj cf l7 bf a3 l3 f8 f9 d2.size;clear ax I hP hO gb gi gj cf l7 l5 l6 d3 gv e7 fa bd bc d2 bf a3 l3 f8 f9 gq eg f6 el hJ lr ei;go_wp2_with fail;refine bR.h.mono ?_;clear x0 x1 x2 x3 x4 x5 x6 x7 x8 bR;rintro e w1⟨A1,cp,Gs',rfl,cT,hN, -,d4, -⟩;obtain⟨L,eL⟩:∃x,x=res.2:=⟨_,rfl⟩;rw[<-eL] at cT hN⊢;have I:=gy.h;rw[<-eL] at I;obtain⟨N,eN⟩:∃x,x=L.length:=⟨_,rfl⟩;rw[<-eN] at cT hN⊢;have bp:kM w1 gt ⟨4,y1,0,0,y4,y5,0,0,[]⟩:=q9.h.block (d4.block gt (jE cQ.h cS.h) (fun h=>h gA.h.1));have ff:aE w1 go 81 #[Iz o0,Iz o1,Iz o2,Iz o3, .bool o4]:=r0.h.block (d4.block go cS.h (fun h=>h gA.h.2));have ml:Bz w w1:=mg.h.trans (d4.below (fun j hj=>by
  apply Nat.le_of_not_lt;intro h;exact hj (l8.h j (aA h cv.h.size))) mg.h.size)
 have m0:jW w1 Gs2 R2 g2 P m C2:=gG.h.ZC.lv d4 fun k hk r3=>r3 (l9.h k hk);have m3:=gG.h.un;obtain⟨a2,EN,vn,m4,m5,eo,m6,m7,ck,m8⟩:=QM cT eN hN bp ff ml m0 m3 I d4;have x4:Cz w1 gt 4 (Iz y4):=bp.cell 4;have x5:Cz w1 gt 5 (Iz y5):=bp.cell 5;have q2:Cz w1 go 2 (Iz o2):=ff.cell 2;have q3:Cz w1 go 3 (Iz o3):=ff.cell 3;have vq:N<20000000:=ae;clear cT eN hN bp ff ml m0 m3 I d4 gy eL;rcases lg.h with⟨rfl,hf⟩|⟨rfl,x,k,pp,en,hf,v3,e0,e1,e2,e3,e4,e5⟩
 ·have I:=ck.h
  simp only[hf] at I;have ep:N=1:=EN.h▸I;subst ep;clear I hf;go_wp2_with fail;refine(Qw w1).mono ?_;rintro e v10⟨rfl,d5⟩;go_wp2_with fail;go_ret;exact⟨rfl,dW eo.h d5⟩
 ·have q0:=e1.symm;have q1:=e2.symm;have r4:=e3.symm;have r5:=e4.symm;have q4:=e5.symm
  clear e1 e2 e3 e4 e5;subst e0;subst q0;subst q1;subst r4;subst r5;subst q4;have I:=ck.h;simp only[hf] at I;obtain⟨qe,hQ⟩:∃v,v=en.aw:=⟨_,rfl⟩;rw[<-hQ] at I q3;rw[<-hQ] at m5;clear hQ hf ck lg
  by_cases hc:y4=pp/\y5<=qe
  ·obtain⟨bp,d6⟩:=hc
   subst bp;rw[if_pos ⟨rfl,d6⟩] at I;have ep:N=1:=EN.h▸I;subst ep;clear I;go_wp2_with fail;refine(Qw w1).mono ?_;rintro e v10⟨rfl,d5⟩;go_wp2_with fail;go_ret;exact⟨rfl,dW eo.h d5⟩
  ·rw[if_neg hc] at I
   obtain⟨er,HC⟩:=dF I hc;clear I hc
   go_upto_region 10 with(fail)
   go_cut [80] (fun v wx=>v= .bool false/\w1=wx)
   case first=>
    have hc:=HC.h
    by_cases hp:y4=pp
    ·subst hp
     have hle:¬y5<=qe:=fun h=>hc ⟨rfl,h⟩;have u1:decide (y5<=qe)=false:=decide_eq_false hle;clear hc;go_wp2_with fail;go_meet;exact⟨rfl,rfl⟩
    ·have e1:(y4==pp)=false:=beq_eq_false_iff_ne.2 hp
     clear hc hp;go_wp2_with fail;go_meet;exact⟨rfl,rfl⟩
   obtain⟨rfl,rfl⟩:=hcut;clear x4 x5 q2 q3;have r6:vd.heap.size<=w1.heap.size:=m8.h.size;obtain⟨F2,d7⟩:∃F:Nat->Prop,F=fun j=>j<v8.heap.size\/j=gt\/j=go\/(vd.heap.size<=j/\j<w1.heap.size):=⟨_,rfl⟩;have m9:cC F2 w1 g2 P C2 Gs2 R2 m M:=by
    refine⟨m6.h,fun j hj hf=>?_,m7.h⟩;have h1:=gI.h j hj;have h2:=gO.h j hj;have:=hM.h;have:=cQ.h;have:=mi.h;rw[d7] at hf;rcases hf with h|h|h|h<;>omega
   have hT:∀j,F2 j->j<w1.heap.size:=fun j hj=>by
    rw[d7] at hj;have:=cQ.h;have:=cS.h;have:=mi.h;have:=gI.h g2 (.inl rfl);have:=gO.h g2 (.inl rfl);rcases hj with h|h|h|h<;>omega
   have gP:∀j,j<v8.heap.size->F2 j:=fun j h=>d7▸.inl h;have gR:F2 gt/\F2 go:=d7▸⟨.inr (.inl rfl), .inr (.inr (.inl rfl))⟩;have gT:∀j,vd.heap.size<=j->j<w1.heap.size->F2 j:=fun j h h'=>d7▸.inr (.inr (.inr ⟨h,h'⟩));have ax:=aaA F2 g2 P m Gs2 R2 C2 ⟨2,y1,0,0,0,0,0,0,[]⟩ M w1 m9 hT (cA a8.h) (by show(0:Int)<=12000;omega) (by show(0:Nat)<=_;omega);obtain⟨ra,era⟩:∃x,x=pC P m ⟨2,y1,0,0,0,0,0,0,[]⟩:=⟨_,rfl⟩;have I:=er.h;unfold DoG at ax;rw[<-era] at ax I;obtain⟨a7,I⟩:=I;have bp:=m4.h;have x1:Cz w1 gt 1 (Iz y1):=bp.cell 1;obtain⟨bR,et,na,g3,bU,g4,eu⟩:=yY ax I a7 gP gR gT hT;clear ax I a7 gP gR gT hT m9 d7 era bp r6 er HC;go_wp2_with fail;refine bR.h.mono ?_;clear x1 bR;rintro e w2⟨A2,r7,nb,rfl,a4,r8,cf,bh,bt⟩;obtain⟨La,hU⟩:∃x,x=ra.2:=⟨_,rfl⟩;have a7:=na.h;rw[<-hU] at a4 bt a7⊢;rw[a7] at a4 bt⊢;have d6:kM w2 gt ⟨4,y1,0,0,y4,y5,0,0,[]⟩:=m4.h.block (bh.block gt (eu.h gt bU.h.1) (fun h=>h bU.h.1));have ni:=m5.h.block (bh.block go (eu.h go bU.h.2) (fun h=>h bU.h.2));have cm:=aX a2.h fun q hq=>bh.block q (a2.h.lt q hq).2 (fun h=>h (g4.h q (a2.h.lt q hq).1 (a2.h.lt q hq).2));have nj:Bz w w2:=eo.h.trans (bh.below (fun j hj=>by
    apply Nat.le_of_not_lt;intro h;exact hj (g3.h j (aA h (aF cv.h.size cd.h.size)))) eo.h.size)
   obtain⟨ba,rfl,ew,cX⟩:=kz a4 ae;obtain⟨F3,ez⟩:∃F:Nat->Prop,F=fun j=>F2 j\/j=ba:=⟨_,rfl⟩;have nk:cC F3 w2 g2 P C2 nb R2 ra.1 (M+1):=⟨cf.ZC,fun j hj hf=>by
    rw[ez] at hf;rcases hf with h|h
    ·exact cf.lo j hj h
    ·exact bt ba rfl (h▸hj),cf.un⟩
   have hV:∀j,F3 j->j<w2.heap.size:=fun j hj=>by
    rw[ez] at hj;rcases hj with h|h
    ·exact aA (eu.h j h) bh.size
    ·rw[h];exact cX
   have g6:∀j,F2 j->F3 j:=fun j h=>ez▸.inl h;have g7:F3 ba:=ez▸.inr rfl;have nG:=HQ.h.2;have ax:=aaA F3 g2 P ra.1 nb R2 C2 ⟨1,999,(x:Int),(k:Int)+1,y4,y5,0,1,[]⟩ (M+1) w2 nk hV (cA a8.h) (by show y5<=12000;omega) (by show(0:Nat)<=_;omega);obtain⟨rb,n3⟩:∃v,v=pC P ra.1 ⟨1,999,(x:Int),(k:Int)+1,y4,y5,0,1,[]⟩:=⟨_,rfl⟩;have I:=et.h;unfold DoG at ax;have hW:=WX P ra.1 ⟨1,999,(x:Int),(k:Int)+1,y4,y5,0,1,[]⟩;rw[<-n3] at ax I hW;have r9:=ao hW;clear hW;rw[<-hU] at I;have c4:Cz w2 gt 4 (Iz y4):=d6.cell 4;have c5:Cz w2 gt 5 (Iz y5):=d6.cell 5;have d1:Cz w2 go 1 (Iz ((k:Int)+1)):=ni.cell 1;obtain⟨bR,eA,c0,eB,g8,hX,eC,eD,dS,n4,bE⟩:=Hl ax I g6 g7 hV d6 cm a4 nj a7 (show ∀q,(Value.slice A1 N cp).ownBlock=some q->F2 q/\q<w2.heap.size/\q<w1.heap.size from fun q hq=>⟨g4.h q (a2.h.lt q hq).1 (a2.h.lt q hq).2,(cm.lt q hq).2,(a2.h.lt q hq).2⟩);clear ax I g6 g7 hV d6 ni cm a4 nj a7 nk ez n3 hU cf bh bt r8 nG et na m6 m7 a2;go_wp2_with fail;refine bR.h.mono ?_;clear c4 c5 d1 bR;rintro e w3⟨A3,se,v5,rfl,a5,fq, -,bV, -⟩;obtain⟨Lb,hY⟩:∃v,v=rb.2:=⟨_,rfl⟩;have I:=eA.h;rw[<-hY] at a5 fq I⊢;obtain⟨Nb,fx⟩:∃v,v=Lb.length:=⟨_,rfl⟩;rw[<-fx] at a5 fq⊢;have eE:0<Nb:=fx▸hY▸r9.h;have n5:kM w3 gt ⟨4,y1,0,0,y4,y5,0,0,[]⟩:=hX.h.block (bV.block gt hX.h.lt (fun h=>h (c0.h gt bU.h.1)));have bH:=aX eC.h fun q hq=>bV.block q (bE.h q hq).2.1 (fun h=>h (c0.h q (bE.h q hq).1));have dc:=aX eD.h fun q hq=>by injection hq with hq;subst hq;exact bV.block ba (g8.h ba eB.h) (fun h=>h eB.h)
   have n7:Bz w w3:=dS.h.trans (bV.below (fun j hj=>by
    apply Nat.le_of_not_lt;intro h;exact hj (c0.h j (g3.h j (aA h (aF cv.h.size cd.h.size))))) dS.h.size)
   obtain⟨b3,rfl,g9,hb⟩:=kz a5 eE;obtain⟨b1,rfl,hh,n8⟩:=kz bH (by
    rw[EN.h];rcases I with⟨fy,h1,_⟩|⟨⟨r,l,h1,_⟩,_⟩<;>rw[h1]<;>simp[mH])
   have hl:=ao (bE.h b1 rfl).2.2;have n9:Hid (w1.heap.size<=w2.heap.size):=ao (jE ew cX);obtain⟨od,ay,dp,eF,oo,h5,d8,sk,b0,fz,u2⟩:=Hl eE bH dc a5 n5 n7 fx fq (And.intro g9 hb) (And.intro ew cX) hh;clear bH dc a5 n5 n7 fq bV hY fx eE g9 hb ew cX hh n8 eA hX eC eD dS bE c0 eB g8;rcases I with⟨fy,hL,h6⟩|⟨⟨r,l',hL,ss⟩,h7⟩
   ·have o1:=ay.h;have o3:=eF.h
    rw[hL] at o1;rw[h6] at o3;have ep:N=1:=by rw[EN.h,hL];rfl
    have oq:Nb=1:=by rw[d8.h,h6];rfl
    subst ep;subst oq;obtain⟨Z,eZ⟩:∃v,v=w3.heap.size:=⟨_,rfl⟩;have ot:b1<Z:=eZ▸(ay.h.lt b1 rfl).2;have h8:b3<Z:=eZ▸b0.h.2;have k1:Cz w3 b1 0 (Iz 2):=dI o1 (j:=0) rfl;have k3:Cz w3 b3 0 (Iz 2):=dI o3 (j:=0) rfl;have k7:Cz w3 b1 7 (Iz fy):=dI o1 (j:=7) rfl;have ov:Cz w3 b3 7 (Iz fy):=dI o3 (j:=7) rfl;have f3:∀u,Below Z w3.drew u->Cz u b3 0 (Iz 2):=fun u hu=>Yb hu h8 k3;have f7:∀u,Below Z w3.drew u->Cz u b1 7 (Iz fy):=fun u hu=>Yb hu ot k7;have sx:∀u,Below Z w3.drew u->Cz u b3 7 (Iz fy):=fun u hu=>Yb hu h8 ov;have EZ:=ao eZ;clear o1 o3 hL h6 ot h8 k3 k7 ov eZ
    go_upto_region 17 with(fail)
    clear k1;refine Zb Z 99999 [22] [0,1,2,3,4,5,6,7,8,9,10,11,12,13,14,15,16,17,18,19,20,21,22,23,24] ?_;refine Yt ?_;clear f3 f7 sx;refine Ym fun K hK=>?_;refine(Qw w3.drew).mono ?_;rintro e v10⟨rfl,d5⟩;have o5:=ao d5;refine Yo hK (o5.h.mono (bu EZ.h)) ?_;refine Yt ?_;refine aT ?_;go_wp2_with fail;go_ret;exact⟨rfl,dW (dW h5.h (below_drewN (aa _ w3) 1)) d5⟩
   ·have k1:Cz w3 b1 0 (Iz 4):=by
     have o1:=ay.h;rw[hL] at o1;have h:=dI o1 (j:=0) (v:= Iz r.kind) rfl
     rwa [ss] at h
    have a7:=n4.h;have sA:N=1+Nb:=by rw[EN.h,h7,aC,br,a7,<-d8.h]
    subst sA;have i1:¬(1+Nb:Int)=0:=ae;have ia:=sk.h;have o6:=od.h;have u3:Nb<=20000000:=ae;have i2:¬((1+Nb:Nat):Int)=0:=ae;have i4:¬(Nb:Int)=0:=ae;have sB:((1:Int)+Nb==0)=false:=beq_eq_false_iff_ne.2 ae;have sT:((Nb:Int)==0)=false:=beq_eq_false_iff_ne.2 ae;clear ia a7 o6;go_wp2_with fail;clear k1 i1 i2 i4 sB sT
    go_loopw [24] (fun i wr=> ∃j:Nat,j<=Nb/\i= Iz j/\Hid (wr.ownsRow w2.heap.size 40 8 (.slice (some ⟨b3,0,none⟩) Nb se) Nb (fC (qU (ZI 999 y1) j Lb)))/\Hid (Lv (fun q=>q=b3) w3 wr)) (fun i _=>Nb - (intOf i).toNat)
    case atStart=>exact⟨0,aB _,rfl,ao (by rw[Qy];exact eF.h),ao (Lv.refl _ _)⟩
    case round=>
     obtain⟨j,hj,rfl,HO,a6⟩:=hrel;obtain⟨wp,rfl⟩:∃wo,wo=wr:=⟨_,rfl⟩
     by_cases fH:j<Nb
     ·have o7:j<Lb.length:=by rw[<-d8.h];exact fH
      obtain⟨rr,fT⟩:∃r,Lb[j]?=some r:=⟨_,aj o7⟩;have hmx:=Vf (f:=ZI 999 y1) fT;have ho:=fun(h:ZI 999 y1 rr={rr with id:=y1})=>(show fC (qU (ZI 999 y1) (j+1) Lb)=(fC (qU (ZI 999 y1) j Lb)).set (j*8+1) (Iz y1) from by
       rw[<-TD fT,h];exact(tI ir.bG ae hmx rfl).symm)
      have eG:=fun(h:ZI 999 y1 rr=rr)=>abP fT h;have bQ:(fC (qU (ZI 999 y1) j Lb))[j*8+1]?=some (Iz rr.id):=(ig ir.bG 1 ae hmx).trans rfl;have x1:Cz wp b3 (j*8+1) (Iz rr.id):=dI HO.h bQ;have f1:Fz wp b3 (j*8+1):=fJ HO.h _;have g1:Cz wp gt 1 (Iz y1):=Yd (a6.h.block gt oo.h.lt (by have:=b0.h.1;have:=cQ.h;have:=cS.h;have:=m8.h.size;have:=fz.h;omega)) (oo.h.cell 1);have we:j<20000000:=ae;have i3:(j:Int)<Nb:=ae;obtain⟨ri,ib⟩:∃v,v=rr.id:=⟨_,rfl⟩;rw[<-ib] at x1 bQ;obtain⟨eI,cn,ih,f0,o9⟩:=rU ho eG bQ fH ib;clear ho eG bQ hmx fT o7 fH ib
      by_cases h9:ri=999
      ·have eJ:ZI 999 y1 rr={rr with id:=y1}:=by unfold ZI;rw[if_pos (o9.h▸h9)]
       have eK:=eI.h eJ;have HS:=ao eK;clear eJ eK eI cn;subst h9;go_wp2_with fail;go_roundw
       case rel=>exact⟨j+1,f0.h,by go_num,ao (HS.h▸jM HO.h ih.h _),ao (a6.h.setCell (p:=⟨b3,j*8+1,none⟩) rfl _)⟩
       case measure=>have:=f0.h;simp[intOf];omega
      ·have eJ:ZI 999 y1 rr=rr:=by unfold ZI;rw[if_neg (o9.h▸h9)]
       have eK:=cn.h eJ;have HS:=ao eK;have e9:(ri==999)=false:=beq_eq_false_iff_ne.2 h9;clear eJ eK eI cn h9;go_wp2_with fail;go_roundw
       case rel=>exact⟨j+1,f0.h,by go_num,ao (HS.h▸HO.h),a6⟩
       case measure=>have:=f0.h;simp[intOf];omega
     ·obtain rfl:j=Nb:=ae
      have own:=HO.h;rw[d8.h,TB,<-d8.h] at own;have eO:=aX dp.h (w':=wp) fun q hq=>by injection hq with hq;subst hq;exact a6.h.block ba (dp.h.lt ba rfl).2 (jE b0.h.1 fz.h)
      have ht:=aX ay.h (w':=wp) fun q hq=>by injection hq with hq;subst hq;exact a6.h.block b1 (ay.h.lt b1 rfl).2 (QF b0.h.1 fz.h hl.h)
      have il:w1.heap.size<=wp.heap.size:=cA (eO.lt ba rfl);have p0:w.heap.size<=w1.heap.size:=eo.h.size;have p3:=dP.O own;have p5:(fC (Lb.map (ZI 999 y1))).length=j*8:=by rw[iL,br,<-d8.h]
      have p6:Bz w wp:=h5.h.trans (a6.h.below (fun q hq=>by rw[hq];have:=b0.h.1;have:=n9.h;omega) h5.h.size);have i3:¬(j:Int)<j:=ae;obtain⟨hz,s3,wg,s4,s5⟩:=rU ht p6 il p0 h7;clear own ht p6 p0 fH HO a6 h7
      go_wp2_with (at_builtin
                   refine lK yP eO (news:=fC (Lb.map (ZI 999 y1))) rfl _ _ rfl rfl rfl p5 p3 (x9 _) ae il (1+j) _ rfl rfl ?_;intro A4 c4 w4 p4)
      have l4:Lv (fun k=>(Value.slice (some ⟨ba,0,none⟩) 1 r7).ownBlock=some k) wp w4:=Lv.dy p4.grown fun k hk=> .inl hk;have eQ:=aX hz.h (w':=w4) fun q hq=>by injection hq with hq;subst hq;exact l4.block b1 (hz.h.lt b1 rfl).2 (fun h=>by have h':ba=b1:=bW h;have:=fz.h;have:=hl.h;omega)
      have p7:Cells w4 A4 (fC L):=by
       have h:=dP.O p4.own
       rwa [<-rJ,<-s5.h] at h
      have qa:=p4.below w.heap.size w s4.h s3.h;obtain⟨qc,s6,s7⟩:=fY (dP.O eQ) p7 qa;clear l4 eQ p7 qa p4 eO il p3 p5;go_wp2_with fail;refine(Th (some ⟨b1,0,none⟩) cp A4 c4 (1+j) L w4 EN.h.symm ae qc.h s6.h).mono ?_;rintro e v11⟨rfl,s8⟩;go_wp2_with fail;refine(Qw v11).mono ?_;rintro e wh⟨rfl,s9⟩;go_wp2_with fail;go_ret;exact⟨rfl,dW (dW s7.h s8) s9⟩
end Go.Proofs.YtbaaheidifacaaaGreat
